/-
  The plain law of QuietPlays.
-/
import Derived.Test.YthfkdepcnhhepaaQM
import Derived.Test.YthfkdepcnhhepaaPWays
namespace Go.Proofs.Ythfkdepcnhhepaa
open Go Go.Bk
set_option linter.unusedVariables false
set_option linter.unusedSimpArgs false
set_option linter.unusedSectionVars false

abbrev Mc := Int × Int → Option Int
def pF (i : Int) (x : Lt) : Bool := (x.1 == i) && decide (x.2.2 < 2)
def pB (i : Int) (x : Lt) : Bool := (x.2.1 == i) && (x.2.2 == 1)
def pZ (a b : Int) (x : Lt) : Bool := ((x.1 == a) && (x.2.1 == b)) && (x.2.2 == 0)
def pO (x : Lt) : Bool := x.2.2 == 1
def on (b : Bool) : Nat := cond b 1 0
theorem countP_set {α : Type} (p : α → Bool) : ∀ {A : List α} {r : Nat} {x y : α}, A[r]? = some x → (A.set r y).countP p + on (p x) = A.countP p + on (p y)
  | [], r, x, y, h => by cases h
  | z :: A, 0, x, y, h => by
    obtain rfl : z = x := by simpa using h
    rw [List.set_cons_zero, List.countP_cons, List.countP_cons]
    cases p z <;> cases p y <;> simp [on]
  | z :: A, r + 1, x, y, h => by
    have ih := countP_set p (A := A) (r := r) (x := x) (y := y) (by simpa using h)
    rw [List.set_cons_succ, List.countP_cons, List.countP_cons]
    omega
theorem mem_set {α : Type} {A : List α} {r : Nat} {y z : α} (h : z ∈ A.set r y) : z = y ∨ z ∈ A := by
  rcases List.mem_or_eq_of_mem_set h with q | q
  · exact .inr q
  · exact .inl q
theorem bit0 (w : BitVec 32) (k : Nat) : (((w >>> k) &&& (1#32)) == (0#32)) = !w.getLsbD k := by
  rw [and_one]; cases w.getLsbD k <;> rfl
theorem owed_val (A : List Lt) (hl : A.length ≤ 1000) (i : Int) : F54 i A = some (A.countP (pF i) : Int) := by
  have h : whileM (F54_L0 i A) (0, 0) = some (.brk (A.countP (pF i) : Int)) := by
    have := while_upto (body := F54_L0 i A) (fun k => (((A.take k).countP (pF i) : Int), (k : Int))) A.length (c := .brk (A.countP (pF i) : Int)) (fun k hk => ?_) (by simp [F54_L0]) (by simp)
    · simpa using this
    · have hd : decide ((k : Int) < (A.length : Int)) = true := by rw [decide_eq_true_eq]; omega
      have hg : A[k]? = some A[k] := List.getElem?_eq_getElem hk
      have cl : (A.take k).countP (pF i) ≤ k := by
        have := List.countP_le_length (p := pF i) (l := A.take k)
        rw [List.length_take] at this; omega
      rw [take_succ' hk, List.countP_append]
      cases c : pF i A[k] <;> (have c' := c; unfold pF at c'; simp only [F54_L0, hd, cond_true, cond_false, idx_some hg, Option.bind_some, c', List.countP_cons, List.countP_nil, c, w64_succ hk (by omega)])
      · simp
      · rw [w64i (by omega) (by omega)]; simp
  unfold F54
  rw [h]; simp [Ctl.on]
theorem bound_val (A : List Lt) (hl : A.length ≤ 1000) (i : Int) : (A.countP (pB i) = 0 ∧ F55 i A = some (-1)) ∨ ∃ (r : Nat) (x : Lt), F55 i A = some (r : Int) ∧ A[r]? = some x ∧ pB i x = true := by
  have h : whileM (F55_L0 i A) 0 = some (found () (scan (fun k (e : Lt) => if pB i e = true then some (k : Int) else none) A 0)) := by
    refine while_scan (by omega) _ (fun k e h => ?_) (by simp [F55_L0])
    have hk := lt_of_get h
    have hd : decide ((k : Int) < (A.length : Int)) = true := by rw [decide_eq_true_eq]; omega
    cases c : pB i e <;> (have c' := c; unfold pB at c'; simp only [F55_L0, idx_some h, hd, c', going, Option.bind_some, cond_true, cond_false]; simp)
  unfold F55
  rw [h]
  cases c : scan (fun k (e : Lt) => if pB i e = true then some (k : Int) else none) A 0 with
  | none =>
    left
    refine ⟨?_, by simp [found, Ctl.on]⟩
    rw [List.countP_eq_zero]
    intro x hx hb
    obtain ⟨k, hk⟩ := List.mem_iff_getElem?.1 hx
    have := (scan_none.1 c) k x hk
    simp [hb] at this
  | some r =>
    right
    obtain ⟨k, e, hk, he⟩ := scan_val c
    split at he
    · rename_i q
      obtain rfl := Option.some.inj he
      exact ⟨k, e, by simp [found, Ctl.on], hk, q⟩
    · cases he
/-- Has i nothing left to do? -/
def Loose (w : BitVec 32) (O Bd : List Int) (i : Nat) : Prop := w.getLsbD i = false ∧ ge 0 O i = 0 ∧ ge 0 Bd i ≠ (i : Int)
/-- All but c are at rest; c = 0: all. -/
structure Inv (n c : Nat) (w : BitVec 32) (O Bd : List Int) (m : Mc) (A : List Lt) (Wk : List Bool) : Prop where
  lo : O.length = n
  lb : Bd.length = n
  lw : Wk.length = n
  wk : ∀ i, i < n → w.getLsbD i = ge false Wk i
  wh : ∀ i, n ≤ i → w.getLsbD i = false
  ow : ∀ i, i < n → ge 0 O i = (A.countP (pF i) : Int)
  b1 : ∀ x ∈ A, x.2.2 = 1 → ∀ t : Nat, x.2.1 = (t : Int) → 1 ≤ t ∧ ge 0 Bd t = x.1
  b0 : ∀ i, i < n → A.countP (pB i) = 0 → ge 0 Bd i = (i : Int)
  un : ∀ i, i < n → A.countP (pB i) ≤ 1
  rg : ∀ x ∈ A, ∃ a b : Nat, x.1 = (a : Int) ∧ x.2.1 = (b : Int) ∧ a < n ∧ b < n ∧ a ≠ b ∧ 0 ≤ x.2.2 ∧ x.2.2 ≤ 2
  mw : ∀ a b, (m (a, b)).getD 0 = (A.countP (pZ a b) : Int)
  fin : ∃ p, Enum m p
  st : ∀ i, 1 ≤ i → i < n → i ≠ c → ¬ Loose w O Bd i
section
variable {n c : Nat} {w : BitVec 32} {O Bd : List Int} {m : Mc} {A : List Lt} {Wk : List Bool}
theorem Inv.calm (I : Inv n c w O Bd m A Wk) (h : c = 0 ∨ ¬ Loose w O Bd c) : Inv n 0 w O Bd m A Wk :=
  { I with st := fun i h1 h2 _ => (by
      by_cases e : i = c
      · subst e
        rcases h with h | h
        · omega
        · exact h
      · exact I.st i h1 h2 e) }
/-- Who is bound, to whom. -/
theorem Inv.who (I : Inv n c w O Bd m A Wk) (hl : A.length ≤ 1000) {i : Nat} (hi : i < n) (hb : ge 0 Bd i ≠ (i : Int)) :
    ∃ r p : Nat, F55 (i : Int) A = some (r : Int) ∧ A[r]? = some ((p : Int), (i : Int), 1) ∧ ge 0 Bd i = (p : Int) ∧ p < n ∧ p ≠ i ∧ 1 ≤ i := by
  rcases bound_val A hl (i : Int) with ⟨h0, _⟩ | ⟨r, x, h1, h2, h3⟩
  · exact absurd (I.b0 i hi h0) hb
  · have hx := List.mem_of_getElem? h2
    obtain ⟨a, b, e1, e2, e3, e4, e5, e6, e7⟩ := I.rg x hx
    unfold pB at h3
    simp only [Bool.and_eq_true, beq_iff_eq] at h3
    obtain ⟨q1, q2⟩ := I.b1 x hx h3.2 i h3.1
    obtain ⟨x1, x2, x3⟩ := x
    simp only at e1 e2 h3 q2
    obtain ⟨rfl, rfl⟩ := h3
    subst e1
    exact ⟨r, a, h1, h2, q2, e3, by omega, q1⟩
theorem Inv.none (I : Inv n c w O Bd m A Wk) (hl : A.length ≤ 1000) {i : Nat} (hi : i < n) (hb : ge 0 Bd i = (i : Int)) : F55 (i : Int) A = some (-1) := by
  rcases bound_val A hl (i : Int) with ⟨_, h0⟩ | ⟨r, x, h1, h2, h3⟩
  · exact h0
  · have hx := List.mem_of_getElem? h2
    obtain ⟨a, b, e1, e2, e3, e4, e5, e6, e7⟩ := I.rg x hx
    unfold pB at h3
    simp only [Bool.and_eq_true, beq_iff_eq] at h3
    obtain ⟨q1, q2⟩ := I.b1 x hx h3.2 i h3.1
    omega
/-- It answers. -/
theorem Inv.free (I : Inv n c w O Bd m A Wk) {r p : Nat} (hc : c < n) (h2 : A[r]? = some ((p : Int), (c : Int), 1)) (hb : ge 0 Bd c = (p : Int)) (hp : p < n) (hpc : p ≠ c) :
    Inv n p w (O.set p (ge 0 O p - 1)) (Bd.set c (c : Int)) m (A.set r ((p : Int), (c : Int), 2)) Wk := by
  have hpo : p < O.length := by rw [I.lo]; exact hp
  have hcb : c < Bd.length := by rw [I.lb]; exact hc
  have cF : ∀ i : Nat, (A.set r ((p : Int), (c : Int), 2)).countP (pF i) + (if i = p then 1 else 0) = A.countP (pF i) := fun i => by
    have := countP_set (pF i) (y := ((p : Int), (c : Int), (2 : Int))) h2
    have e1 : pF i ((p : Int), (c : Int), (2 : Int)) = false := by simp [pF]
    have e2 : pF i ((p : Int), (c : Int), (1 : Int)) = decide (i = p) := by rw [Bool.eq_iff_iff]; simp [pF]; omega
    rw [e1, e2] at this
    by_cases e : i = p
    · simp [e, on] at this ⊢; omega
    · simp [e, on] at this ⊢; omega
  have cB : ∀ i : Nat, (A.set r ((p : Int), (c : Int), 2)).countP (pB i) + (if i = c then 1 else 0) = A.countP (pB i) := fun i => by
    have := countP_set (pB i) (y := ((p : Int), (c : Int), (2 : Int))) h2
    have e1 : pB i ((p : Int), (c : Int), (2 : Int)) = false := by simp [pB]
    have e2 : pB i ((p : Int), (c : Int), (1 : Int)) = decide (i = c) := by rw [Bool.eq_iff_iff]; simp [pB]; omega
    rw [e1, e2] at this
    by_cases e : i = c
    · simp [e, on] at this ⊢; omega
    · simp [e, on] at this ⊢; omega
  have cZ : ∀ a b : Int, (A.set r ((p : Int), (c : Int), 2)).countP (pZ a b) = A.countP (pZ a b) := fun a b => by
    have := countP_set (pZ a b) (y := ((p : Int), (c : Int), (2 : Int))) h2
    have e1 : pZ a b ((p : Int), (c : Int), (2 : Int)) = false := by simp [pZ]
    have e2 : pZ a b ((p : Int), (c : Int), (1 : Int)) = false := by simp [pZ]
    rw [e1, e2] at this
    exact Nat.add_right_cancel this
  have uc := I.un c hc
  have zc := cB c
  rw [if_pos rfl] at zc
  refine { lo := by rw [List.length_set]; exact I.lo, lb := by rw [List.length_set]; exact I.lb, lw := I.lw, wk := I.wk, wh := I.wh, ow := fun i hi => ?_, b1 := fun x hx h1 t ht => ?_, b0 := fun i hi h0 => ?_, un := fun i hi => ?_, rg := fun x hx => ?_, mw := fun a b => ?_, fin := I.fin, st := fun i h1 h3 hne => ?_ }
  · rw [ge_set hpo]
    have q := cF i
    have o := I.ow i hi
    by_cases e : i = p
    · subst e; rw [if_pos rfl] at q ⊢; omega
    · rw [if_neg e] at q ⊢; omega
  · rcases mem_set hx with rfl | hx'
    · simp at h1
    · obtain ⟨q1, q2⟩ := I.b1 x hx' h1 t ht
      refine ⟨q1, ?_⟩
      rw [ge_set hcb]
      by_cases e : t = c
      · exfalso
        subst e
        have : 0 < (A.set r ((p : Int), (t : Int), 2)).countP (pB t) := List.countP_pos_iff.2 ⟨x, hx, by unfold pB; simp [ht, h1]⟩
        omega
      · rw [if_neg e]; exact q2
  · rw [ge_set hcb]
    by_cases e : i = c
    · rw [if_pos e, e]
    · rw [if_neg e]; have q := cB i; rw [if_neg e] at q; exact I.b0 i hi (by omega)
  · have q := cB i; have u := I.un i hi; omega
  · rcases mem_set hx with rfl | hx'
    · exact ⟨p, c, rfl, rfl, hp, hc, hpc, by simp, by simp⟩
    · exact I.rg x hx'
  · rw [cZ]; exact I.mw a b
  · by_cases e : i = c
    · subst e
      rintro ⟨_, _, z⟩
      rw [ge_set hcb, if_pos rfl] at z
      exact z rfl
    · rintro ⟨z1, z2, z3⟩
      rw [ge_set hpo, if_neg hne] at z2
      rw [ge_set hcb, if_neg e] at z3
      exact I.st i h1 h3 e ⟨z1, z2, z3⟩
end

/-! Who is loose answers, and then perhaps the one above. -/
inductive Chain (n : Nat) (w : BitVec 32) (m : Mc) (Wk : List Bool) : Nat → List Int → List Int → List Lt → List Int → List Int → List Lt → Prop
  | stop {c : Nat} {O Bd : List Int} {A : List Lt} : Inv n 0 w O Bd m A Wk → Chain n w m Wk c O Bd A O Bd A
  | step {c r p : Nat} {O Bd : List Int} {A : List Lt} {O' Bd' : List Int} {A' : List Lt} : Inv n c w O Bd m A Wk → 1 ≤ c → c < n → Loose w O Bd c → F55 (c : Int) A = some (r : Int) → A[r]? = some ((p : Int), (c : Int), 1) → p < n →
      Chain n w m Wk p (O.set p (ge 0 O p - 1)) (Bd.set c (c : Int)) (A.set r ((p : Int), (c : Int), 2)) O' Bd' A' → Chain n w m Wk c O Bd A O' Bd' A'
section
variable {n c : Nat} {w : BitVec 32} {O Bd : List Int} {m : Mc} {A : List Lt} {Wk : List Bool}
theorem Inv.small (I : Inv n c w O Bd m A Wk) (hl : A.length ≤ 1000) {i : Nat} (hi : i < n) : 0 ≤ ge 0 O i ∧ ge 0 O i ≤ 1000 := by
  have := I.ow i hi
  have := List.countP_le_length (p := pF i) (l := A)
  omega
theorem loose_go (I : Inv n c w O Bd m A Wk) (hl : A.length ≤ 1000) (hc : c < n) (h1 : 1 ≤ c) (L : Loose w O Bd c) {p : Nat} (hb : ge 0 Bd c = (p : Int)) (hp : p < n) (X Y : List Int) :
    F90_L0 (w, X, Y) (O, Bd, (c : Int)) = some (.nxt (O.set p (ge 0 O p - 1), Bd.set c (c : Int), (p : Int))) := by
  obtain ⟨z1, z2, z3⟩ := L
  have e0 : ((c : Int) != 0) = true := by simp; omega
  have jo := idx_ge (0 : Int) (l := O) (j := c) (by rw [I.lo]; exact hc)
  have jp := idx_ge (0 : Int) (l := O) (j := p) (by rw [I.lo]; exact hp)
  have jb := idx_ge (0 : Int) (l := Bd) (j := c) (by rw [I.lb]; exact hc)
  rw [z2] at jo
  rw [hb] at jb z3
  have e1 : ((0 : Int) == 0) = true := rfl
  have e2 : ((p : Int) != (c : Int)) = true := by simpa using z3
  have sm := I.small hl hp
  have hw : w64 (ge 0 O p - 1) = ge 0 O p - 1 := w64i (by omega) (by omega)
  simp only [F90_L0, e0, cond_true, shc_nat, Option.bind_some, bit0, z1, Bool.not_false, jo, e1, jb, e2, jp, hw, Int.toNat_natCast]
theorem loose_end (I : Inv n c w O Bd m A Wk) (hc : c < n) (h : c = 0 ∨ ¬ Loose w O Bd c) (X Y : List Int) : F90_L0 (w, X, Y) (O, Bd, (c : Int)) = some (.brk (O, Bd)) := by
  rcases h with rfl | h
  · simp [F90_L0]
  · have jo := idx_ge (0 : Int) (l := O) (j := c) (by rw [I.lo]; exact hc)
    have jb := idx_ge (0 : Int) (l := Bd) (j := c) (by rw [I.lb]; exact hc)
    cases e0 : ((c : Int) != 0) with
    | false => simp [F90_L0, e0]
    | true =>
      cases z1 : w.getLsbD c with
      | true => simp [F90_L0, e0, shc_nat, bit0, z1]
      | false =>
        by_cases z2 : ge 0 O c = 0
        · by_cases z3 : ge 0 Bd c = (c : Int)
          · simp [F90_L0, e0, shc_nat, bit0, z1, jo, z2, jb, z3]
          · exact absurd ⟨z1, z2, z3⟩ h
        · have z2' : (ge 0 O c == 0) = false := by simpa using z2
          simp [F90_L0, e0, shc_nat, bit0, z1, jo, z2']
theorem chain_ex : ∀ (μ : Nat) {c : Nat} {O Bd : List Int} {A : List Lt}, A.countP pO ≤ μ → Inv n c w O Bd m A Wk → c < n → A.length ≤ 1000 →
    ∃ O' Bd' A', Chain n w m Wk c O Bd A O' Bd' A' ∧ (∀ X Y, whileM (F90_L0 (w, X, Y)) (O, Bd, (c : Int)) = some (.brk (O', Bd'))) ∧ Inv n 0 w O' Bd' m A' Wk ∧ A'.length = A.length := by
  intro μ
  induction μ with
  | zero =>
    intro c O Bd A hμ I hc hl
    by_cases hL : 1 ≤ c ∧ Loose w O Bd c
    · obtain ⟨r, p, h1, h2, h3, h4, h5, h6⟩ := I.who hl hc hL.2.2.2
      have : 0 < A.countP pO := List.countP_pos_iff.2 ⟨_, List.mem_of_getElem? h2, rfl⟩
      omega
    · have hq : c = 0 ∨ ¬ Loose w O Bd c := by
        by_cases e : c = 0
        · exact .inl e
        · exact .inr fun z => hL ⟨by omega, z⟩
      exact ⟨O, Bd, A, .stop (I.calm hq), fun X Y => whileM_brk (loose_end I hc hq X Y), I.calm hq, rfl⟩
  | succ μ ih =>
    intro c O Bd A hμ I hc hl
    by_cases hL : 1 ≤ c ∧ Loose w O Bd c
    · obtain ⟨r, p, h1, h2, h3, h4, h5, h6⟩ := I.who hl hc hL.2.2.2
      have I1 := I.free hc h2 h3 h4 h5
      have cs := countP_set pO (y := ((p : Int), (c : Int), (2 : Int))) h2
      have e1 : pO ((p : Int), (c : Int), (2 : Int)) = false := rfl
      have e2 : pO ((p : Int), (c : Int), (1 : Int)) = true := rfl
      rw [e1, e2] at cs
      simp only [on, cond_true, cond_false] at cs
      obtain ⟨O', Bd', A', q1, q2, q3, q4⟩ := ih (c := p) (by omega) I1 h4 (by rw [List.length_set]; exact hl)
      exact ⟨O', Bd', A', .step I hL.1 hc hL.2 h1 h2 h4 q1, fun X Y => by rw [whileM_nxt (loose_go I hl hc hL.1 hL.2 h3 h4 X Y)]; exact q2 X Y, q3, by rw [q4, List.length_set]⟩
    · have hq : c = 0 ∨ ¬ Loose w O Bd c := by
        by_cases e : c = 0
        · exact .inl e
        · exact .inr fun z => hL ⟨by omega, z⟩
      exact ⟨O, Bd, A, .stop (I.calm hq), fun X Y => whileM_brk (loose_end I hc hq X Y), I.calm hq, rfl⟩
/-! The other one looks at all again and again. -/
theorem pass_skip (I : Inv n c w O Bd m A Wk) (hl : A.length ≤ 1000) (h6 : n ≤ 6) {i : Nat} (h1 : 1 ≤ i) (hi : i < n) (h : ¬ Loose w O Bd i) (b : Bool) : F56_L1 (n : Int) Wk (A, b, (i : Int)) = some (.nxt (A, b, ((i + 1 : Nat) : Int))) := by
  have hd : decide ((i : Int) < (n : Int)) = true := by rw [decide_eq_true_eq]; omega
  by_cases hb : ge 0 Bd i = (i : Int)
  · have h0 := I.none hl hi hb
    have e : decide ((-1 : Int) ≥ 0) = false := rfl
    simp only [F56_L1, hd, cond_true, h0, Option.bind_some, e, cond_false, w64_succ hi (by omega)]
  · obtain ⟨r, p, q1, q2, q3, q4, q5, q6⟩ := I.who hl hi hb
    have e : decide ((r : Int) ≥ 0) = true := by simp
    have jw := idx_ge false (l := Wk) (j := i) (by rw [I.lw]; exact hi)
    rw [← I.wk i hi] at jw
    cases z1 : w.getLsbD i with
    | true =>
      rw [z1] at jw
      simp only [F56_L1, hd, cond_true, q1, Option.bind_some, e, jw, Bool.not_true, cond_false, w64_succ hi (by omega)]
    | false =>
      rw [z1] at jw
      have ow := owed_val A hl (i : Int)
      have z2 : ge 0 O i ≠ 0 := fun z => h ⟨z1, z, hb⟩
      have e3 : ((A.countP (pF i) : Int) == 0) = false := by rw [← I.ow i hi]; simpa using z2
      simp only [F56_L1, hd, cond_true, q1, Option.bind_some, e, jw, Bool.not_false, cond_false, ow, e3, w64_succ hi (by omega)]
theorem pass_free (I : Inv n c w O Bd m A Wk) (hl : A.length ≤ 1000) (h6 : n ≤ 6) {i r p : Nat} (hi : i < n) (L : Loose w O Bd i) (q1 : F55 (i : Int) A = some (r : Int)) (q2 : A[r]? = some ((p : Int), (i : Int), 1)) (b : Bool) :
    F56_L1 (n : Int) Wk (A, b, (i : Int)) = some (.nxt (A.set r ((p : Int), (i : Int), 2), true, ((i + 1 : Nat) : Int))) := by
  obtain ⟨z1, z2, z3⟩ := L
  have hd : decide ((i : Int) < (n : Int)) = true := by rw [decide_eq_true_eq]; omega
  have e : decide ((r : Int) ≥ 0) = true := by simp
  have jw := idx_ge false (l := Wk) (j := i) (by rw [I.lw]; exact hi)
  rw [← I.wk i hi, z1] at jw
  have ow := owed_val A hl (i : Int)
  have e3 : ((A.countP (pF i) : Int) == 0) = true := by rw [← I.ow i hi, z2]; rfl
  simp only [F56_L1, hd, cond_true, q1, Option.bind_some, e, jw, Bool.not_false, ow, e3, idx_some q2, Int.toNat_natCast, w64_succ hi (by omega)]
theorem pass_quiet (I : Inv n c w O Bd m A Wk) (hl : A.length ≤ 1000) (h6 : n ≤ 6) (b : Bool) : ∀ (k i0 : Nat), 1 ≤ i0 → i0 + k ≤ n → (∀ j, i0 ≤ j → j < i0 + k → ¬ Loose w O Bd j) → whileM (F56_L1 (n : Int) Wk) (A, b, (i0 : Int)) = whileM (F56_L1 (n : Int) Wk) (A, b, ((i0 + k : Nat) : Int))
  | 0, i0, _, _, _ => rfl
  | k + 1, i0, h1, h2, h => by
    rw [whileM_nxt (pass_skip I hl h6 h1 (by omega) (h i0 (by omega) (by omega)) b), pass_quiet I hl h6 b k (i0 + 1) (by omega) (by omega) fun j a1 a2 => h j (by omega) (by omega)]
    rw [show i0 + 1 + k = i0 + (k + 1) by omega]
def Runs (n : Nat) (Wk : List Bool) (A : List Lt) (b : Bool) (i0 : Nat) (A' : List Lt) : Prop := ∃ A1 b1, whileM (F56_L1 (n : Int) Wk) (A, b, (i0 : Int)) = some (.brk (A1, b1)) ∧ whileM (F56_L0 (n : Int) Wk) (A1, b1) = some (.brk A')
theorem Runs.again {A' : List Lt} (h : Runs n Wk A false 1 A') : whileM (F56_L0 (n : Int) Wk) (A, true) = some (.brk A') := by
  obtain ⟨A1, b1, h1, h2⟩ := h
  have h1' : whileM (F56_L1 (n : Int) Wk) (A, false, 1) = some (.brk (A1, b1)) := h1
  rw [whileM_nxt (s' := (A1, b1)) (by simp only [F56_L0, cond_true, h1', Option.bind_some, Ctl.on])]
  exact h2
theorem pass_end (b : Bool) : whileM (F56_L1 (n : Int) Wk) (A, b, (n : Int)) = some (.brk (A, b)) := whileM_brk (by simp [F56_L1])
theorem chain_ref (h6 : n ≤ 6) {c : Nat} {O Bd : List Int} {A : List Lt} {O' Bd' : List Int} {A' : List Lt} (h : Chain n w m Wk c O Bd A O' Bd' A') : A.length ≤ 1000 → ∀ (b : Bool) (i0 : Nat), 1 ≤ i0 → i0 ≤ n → (b = true ∨ i0 ≤ c ∨ c = 0) → Runs n Wk A b i0 A' := by
  induction h with
  | @stop c O Bd A I =>
    intro hl b i0 h1 h2 _
    have q : ∀ (b : Bool) (i0 : Nat), 1 ≤ i0 → i0 ≤ n → whileM (F56_L1 (n : Int) Wk) (A, b, (i0 : Int)) = some (.brk (A, b)) := fun b i0 h1 h2 => by
      rw [pass_quiet I hl h6 b (n - i0) i0 h1 (by omega) fun j a1 a2 => I.st j (by omega) (by omega) (by omega), show i0 + (n - i0) = n by omega]
      exact pass_end b
    have rf : ∀ i0, 1 ≤ i0 → i0 ≤ n → Runs n Wk A false i0 A := fun i0 h1 h2 => ⟨_, _, q false i0 h1 h2, whileM_brk (by simp only [F56_L0, cond_false])⟩
    cases b with
    | false => exact rf i0 h1 h2
    | true => exact ⟨_, _, q true i0 h1 h2, (rf 1 (by omega) (by omega)).again⟩
  | @step c r p O Bd A O' Bd' A' I hc1 hc L q1 q2 hp _ ih =>
    intro hl b i0 h1 h2 hq
    have ih' := ih (by rw [List.length_set]; exact hl)
    have go : ∀ (b : Bool) (i0 : Nat), 1 ≤ i0 → i0 ≤ c → Runs n Wk A b i0 A' := fun b i0 h1 h2 => by
      obtain ⟨A1, b1, r1, r2⟩ := ih' true (c + 1) (by omega) (by omega) (.inl rfl)
      refine ⟨A1, b1, ?_, r2⟩
      rw [pass_quiet I hl h6 b (c - i0) i0 h1 (by omega) fun j a1 a2 => I.st j (by omega) (by omega) (by omega), show i0 + (c - i0) = c by omega, whileM_nxt (pass_free I hl h6 hc L q1 q2 b)]
      exact r1
    by_cases e : i0 ≤ c
    · exact go b i0 h1 e
    · have hb : b = true := by
        rcases hq with q | q | q
        · exact q
        · omega
        · omega
      subst hb
      refine ⟨A, true, ?_, (go false 1 (by omega) hc1).again⟩
      rw [pass_quiet I hl h6 true (n - i0) i0 h1 (by omega) fun j a1 a2 => I.st j (by omega) (by omega) (by omega), show i0 + (n - i0) = n by omega]
      exact pass_end true
/-- Both settle alike. -/
theorem settle (h6 : n ≤ 6) (hn : 1 ≤ n) {c : Nat} {O Bd : List Int} {A : List Lt} (I : Inv n c w O Bd m A Wk) (hc : c < n) (hl : A.length ≤ 1000) :
    ∃ O' Bd' A', F90 (w, O, Bd) (c : Int) = some (w, O', Bd') ∧ F56 (n : Int) Wk A = some (Wk, A') ∧ Inv n 0 w O' Bd' m A' Wk ∧ A'.length = A.length := by
  obtain ⟨O', Bd', A', h1, h2, h3, h4⟩ := chain_ex (A.countP pO) (Nat.le_refl _) I hc hl
  have r := (chain_ref h6 h1 hl false 1 (by omega) hn (by omega)).again
  refine ⟨O', Bd', A', ?_, ?_, h3, h4⟩
  · simp only [F90, h2, Option.bind_some, Ctl.on]
  · simp only [F56, r, Option.bind_some, Ctl.on]
/-- Nothing is left to settle. -/
theorem settled (h6 : n ≤ 6) (hn : 1 ≤ n) (I : Inv n 0 w O Bd m A Wk) (hl : A.length ≤ 1000) : F56 (n : Int) Wk A = some (Wk, A) := by
  have r := (chain_ref h6 (Chain.stop (c := 0) I) hl false 1 (by omega) hn (by omega)).again
  simp only [F56, r, Option.bind_some, Ctl.on]
end

theorem getD_mupd (m : Mc) (a b c d v : Int) : (mupd m (a, b) v (c, d)).getD 0 = if c = a ∧ d = b then v else (m (c, d)).getD 0 := by
  unfold mupd
  by_cases e : (c, d) = (a, b)
  · rw [if_pos e, if_pos ⟨(Prod.mk.inj e).1, (Prod.mk.inj e).2⟩]; rfl
  · rw [if_neg e, if_neg (fun z => e (by rw [z.1, z.2]))]
theorem first_of {α : Type} (p : α → Bool) : ∀ (A : List α), A.countP p = 0 ∨ ∃ (r : Nat) (x : α), A[r]? = some x ∧ p x = true ∧ ∀ t y, t < r → A[t]? = some y → p y = false
  | [] => .inl rfl
  | z :: A => by
    cases c : p z with
    | true => exact .inr ⟨0, z, rfl, c, fun t y h => by omega⟩
    | false =>
      rcases first_of p A with h | ⟨r, x, h1, h2, h3⟩
      · left; rw [List.countP_cons, h, c]; rfl
      · refine .inr ⟨r + 1, x, by simpa using h1, h2, fun t y h4 h5 => ?_⟩
        cases t with
        | zero => simp at h5; rw [← h5]; exact c
        | succ t => exact h3 t y (by omega) (by simpa using h5)
/-! One move. -/
def Both (n k : Nat) (l : List Mv) (w : BitVec 32) (O Bd : List Int) (m : Mc) (A : List Lt) (Wk : List Bool) (x : Mv) : Prop :=
  ∃ (e : Int) (w' : BitVec 32) (O' Bd' : List Int) (m' : Mc) (A' : List Lt) (Wk' : List Bool),
    F53 ((n : Int), w, O, Bd, m) x = some (e, ((n : Int), w', O', Bd', m')) ∧
    (∀ cs : List Int, cs.length ≤ 60 → F22_L0 (n : Int) l (cs, A, Wk, (k : Int)) = some (.nxt (cs ++ [e], A', Wk', ((k + 1 : Nat) : Int)))) ∧
    Inv n 0 w' O' Bd' m' A' Wk' ∧ A'.length ≤ k + 1
section
variable {n k : Nat} {l : List Mv} {w : BitVec 32} {O Bd : List Int} {m : Mc} {A : List Lt} {Wk : List Bool} {x : Mv}
theorem kd (hk : l[k]? = some x) : decide ((k : Int) < (l.length : Int)) = true := by rw [decide_eq_true_eq]; have := lt_of_get hk; omega
/-- Is it wrong? Both say the same. -/
theorem args {two : Bool} : ∃ bad : Bool, (∀ (α : Type) (K : Bool → Option α), (Option.bind (F88 x.2.1 (n : Int)) fun r11 => Option.bind (cond (r11) (some true) (Option.bind (cond two (Option.bind (F88 x.2.2.1 (n : Int)) fun r19 => some (r19 || (x.2.1 == x.2.2.1))) (some false)) fun b17 => some b17)) K) = K bad) ∧
    F57 (n : Int) (x.1, x.2.1, x.2.2.1, x.2.2.2) two = some (!bad) ∧ (bad = false → 0 ≤ x.2.1 ∧ x.2.1 < (n : Int) ∧ (two = true → 0 ≤ x.2.2.1 ∧ x.2.2.1 < (n : Int) ∧ x.2.2.1 ≠ x.2.1)) := by
  unfold F88 F57
  cases c : ((decide (x.2.1 < 0)) || (decide (x.2.1 ≥ (n : Int)))) with
  | true => exact ⟨true, by intro α K; simp, by simp, fun e => by cases e⟩
  | false =>
    simp only [Bool.or_eq_false_iff, decide_eq_false_iff_not] at c
    cases two with
    | false => exact ⟨false, by intro α K; simp, by simp, fun _ => ⟨by omega, by omega, fun e => by cases e⟩⟩
    | true =>
      refine ⟨((decide (x.2.2.1 < 0)) || (decide (x.2.2.1 ≥ (n : Int)))) || (x.2.1 == x.2.2.1), by intro α K; simp, ?_, fun e => ?_⟩
      · simp only [cond_false, Bool.not_true, Bool.false_or, Option.some.injEq]
        rw [Bool.eq_iff_iff]
        simp only [Bool.and_eq_true, decide_eq_true_eq, bne_iff_ne, Bool.not_eq_true', Bool.or_eq_false_iff, decide_eq_false_iff_not, beq_eq_false_iff_ne]
        omega
      · simp only [Bool.or_eq_false_iff, decide_eq_false_iff_not, beq_eq_false_iff_ne] at e
        exact ⟨by omega, by omega, fun _ => ⟨by omega, by omega, fun q => e.2 q.symm⟩⟩
variable (I : Inv n 0 w O Bd m A Wk) (ha : A.length ≤ k) (hk : l[k]? = some x) (hl : l.length ≤ 60)
include I ha hk hl
theorem wrongKind (c1 : (decide (x.1 < 1) || decide (x.1 > 3)) = true) : Both n k l w O Bd m A Wk x := by
  refine ⟨6, w, O, Bd, m, A, Wk, by simp only [F53, c1, cond_true], fun cs hcs => ?_, I, by omega⟩
  simp only [F22_L0, kd hk, idx_some hk, c1, cond_true, Option.bind_some, app1 8 (by decide) cs 6 (by omega), w64_succ (lt_of_get hk) (by omega)]
theorem wrongArg (c1 : (decide (x.1 < 1) || decide (x.1 > 3)) = false) (a1 : ∀ (α : Type) (K : Bool → Option α), (Option.bind (F88 x.2.1 (n : Int)) fun r11 => Option.bind (cond (r11) (some true) (Option.bind (cond (x.1 != 3) (Option.bind (F88 x.2.2.1 (n : Int)) fun r19 => some (r19 || (x.2.1 == x.2.2.1))) (some false)) fun b17 => some b17)) K) = K true)
    (a2 : F57 (n : Int) (x.1, x.2.1, x.2.2.1, x.2.2.2) (x.1 != 3) = some false) : Both n k l w O Bd m A Wk x := by
  refine ⟨2, w, O, Bd, m, A, Wk, ?_, fun cs hcs => ?_, I, by omega⟩
  · unfold F53
    simp only [c1, cond_false]
    rw [a1]; rfl
  · simp only [F22_L0, kd hk, idx_some hk, c1, a2, Bool.not_false, cond_true, cond_false, Option.bind_some, app1 8 (by decide) cs 2 (by omega), w64_succ (lt_of_get hk) (by omega)]
end
section
variable {n k : Nat} {l : List Mv} {w : BitVec 32} {O Bd : List Int} {m : Mc} {A : List Lt} {Wk : List Bool} {i j : Nat} {q t v : Int}
variable (I : Inv n 0 w O Bd m A Wk) (h6 : n ≤ 6) (ha : A.length ≤ k) (hk : l[k]? = some (q, (i : Int), t, v)) (hl : l.length ≤ 60) (hi : i < n) (c1 : (decide (q < 1) || decide (q > 3)) = false)
variable (a1 : ∀ (α : Type) (K : Bool → Option α), (Option.bind (F88 (i : Int) (n : Int)) fun r11 => Option.bind (cond (r11) (some true) (Option.bind (cond (q != 3) (Option.bind (F88 t (n : Int)) fun r19 => some (r19 || ((i : Int) == t))) (some false)) fun b17 => some b17)) K) = K false)
variable (a2 : F57 (n : Int) (q, (i : Int), t, v) (q != 3) = some true)
include I h6 ha hk hl hi c1 a1 a2
theorem sends (hq : q = 1) (ht : t = (j : Int)) (hj : j < n) (hij : j ≠ i) : Both n k l w O Bd m A Wk (q, (i : Int), t, v) := by
  subst hq; subst ht
  have f1 := lt_of_get hk
  have kd1 := kd hk
  have a2' : F57 (n : Int) (1, (i : Int), (j : Int), v) true = some true := a2
  have n12 : ((1 : Int) == 2) = false := rfl
  have n13 : ((1 : Int) == 3) = false := rfl
  have n13' : ((1 : Int) != 3) = true := rfl
  have hio : i < O.length := by rw [I.lo]; exact hi
  have jw := idx_ge false (l := Wk) (j := i) (by rw [I.lw]; exact hi)
  rw [← I.wk i hi] at jw
  cases zb : w.getLsbD i with
  | false =>
    rw [zb] at jw
    refine ⟨7, w, O, Bd, m, A, Wk, ?_, fun cs hcs => ?_, I, by omega⟩
    · unfold F53
      simp only [c1, cond_false]
      rw [a1]
      simp only [n12, n13, cond_true, cond_false, Option.bind_some, shc_nat, bit0, zb, Bool.not_false]
    · have ap := app1 8 (by decide) cs 7 (by omega)
      simp only [F22_L0, kd1, idx_some hk, c1, a2', n13', Bool.not_true, Bool.not_false, n12, n13, cond_true, cond_false, Option.bind_some, jw, ap, w64_succ f1 (by omega)]
  | true =>
    rw [zb] at jw
    have jo := idx_ge (0 : Int) hio
    have sm := I.small (by omega) hi
    have mz := I.mw (i : Int) (j : Int)
    have mzl := List.countP_le_length (p := pZ (i : Int) (j : Int)) (l := A)
    have w1 : w64 (ge 0 O i + 1) = ge 0 O i + 1 := w64i (by omega) (by omega)
    have w2 : w64 ((m ((i : Int), (j : Int))).getD 0 + 1) = (m ((i : Int), (j : Int))).getD 0 + 1 := w64i (by omega) (by omega)
    have ap2 : appl 24 A [((i : Int), (j : Int), 0)] = some (A ++ [((i : Int), (j : Int), 0)]) := app1 24 (by decide) A _ (by omega)
    refine ⟨0, w, O.set i (ge 0 O i + 1), Bd, mupd m ((i : Int), (j : Int)) ((m ((i : Int), (j : Int))).getD 0 + 1), A ++ [((i : Int), (j : Int), 0)], Wk, ?_, fun cs hcs => ?_, ?_, by simp; omega⟩
    · unfold F53
      simp only [c1, cond_false]
      rw [a1]
      simp only [n12, n13, cond_true, cond_false, Option.bind_some, shc_nat, bit0, zb, Bool.not_true, w1, w2, jo, Int.toNat_natCast]
    · have ap := app1 8 (by decide) cs 0 (by omega)
      simp only [F22_L0, kd1, idx_some hk, c1, a2', n13', Bool.not_true, Bool.not_false, n12, n13, cond_true, cond_false, Option.bind_some, jw, ap, ap2, w64_succ f1 (by omega)]
    · have cF : ∀ a : Nat, (A ++ [((i : Int), (j : Int), (0 : Int))]).countP (pF a) = A.countP (pF a) + (if a = i then 1 else 0) := fun a => by
        rw [List.countP_append, List.countP_cons, List.countP_nil]
        have : pF a ((i : Int), (j : Int), (0 : Int)) = decide (a = i) := by rw [Bool.eq_iff_iff]; simp [pF]; omega
        rw [this]; simp
      have cB : ∀ a : Nat, (A ++ [((i : Int), (j : Int), (0 : Int))]).countP (pB a) = A.countP (pB a) := fun a => by
        rw [List.countP_append, List.countP_cons, List.countP_nil]
        have : pB a ((i : Int), (j : Int), (0 : Int)) = false := by simp [pB]
        rw [this]; simp
      have cZ : ∀ a b : Int, (A ++ [((i : Int), (j : Int), (0 : Int))]).countP (pZ a b) = A.countP (pZ a b) + (if a = (i : Int) ∧ b = (j : Int) then 1 else 0) := fun a b => by
        rw [List.countP_append, List.countP_cons, List.countP_nil]
        have : pZ a b ((i : Int), (j : Int), (0 : Int)) = decide (a = (i : Int) ∧ b = (j : Int)) := by rw [Bool.eq_iff_iff]; simp [pZ]; omega
        rw [this]; simp
      refine { I with lo := by rw [List.length_set]; exact I.lo, ow := fun a h => ?_, b1 := fun x hx h1 => ?_, b0 := fun a h h0 => ?_, un := fun a h => ?_, rg := fun x hx => ?_, mw := fun a b => ?_, fin := ?_, st := fun a h1 h2 h3 => ?_ }
      · rw [ge_set hio, cF]
        have := I.ow a h
        by_cases e : a = i
        · subst e; rw [if_pos rfl, if_pos rfl]; omega
        · rw [if_neg e, if_neg e]; exact this
      · rcases List.mem_append.1 hx with hx | hx
        · exact I.b1 x hx h1
        · rw [List.mem_singleton] at hx; subst hx; simp at h1
      · rw [cB] at h0; exact I.b0 a h h0
      · rw [cB]; exact I.un a h
      · rcases List.mem_append.1 hx with hx | hx
        · exact I.rg x hx
        · rw [List.mem_singleton] at hx; subst hx; exact ⟨i, j, rfl, rfl, hi, hj, fun z => hij z.symm, by simp, by simp⟩
      · rw [getD_mupd, cZ]
        have := I.mw a b
        by_cases e : a = (i : Int) ∧ b = (j : Int)
        · rw [if_pos e, if_pos e, ← e.1, ← e.2, this]; push_cast; rfl
        · rw [if_neg e, if_neg e]; exact this
      · obtain ⟨p, hp⟩ := I.fin; exact ⟨_, hp.upd _ _⟩
      · rintro ⟨z1, z2, z3⟩
        rw [ge_set hio] at z2
        by_cases e : a = i
        · subst e; rw [zb] at z1; cases z1
        · rw [if_neg e] at z2; exact I.st a h1 h2 h3 ⟨z1, z2, z3⟩
theorem rests (hn : 1 ≤ n) (hq : q = 3) : Both n k l w O Bd m A Wk (q, (i : Int), t, v) := by
  subst hq
  have f1 := lt_of_get hk
  have kd1 := kd hk
  have a2' : F57 (n : Int) (3, (i : Int), t, v) false = some true := a2
  have n32 : ((3 : Int) == 2) = false := rfl
  have n33 : ((3 : Int) == 3) = true := rfl
  have n33' : ((3 : Int) != 3) = false := rfl
  have hiw : i < Wk.length := by rw [I.lw]; exact hi
  have jw := idx_ge false hiw
  rw [← I.wk i hi] at jw
  cases zb : w.getLsbD i with
  | false =>
    rw [zb] at jw
    refine ⟨7, w, O, Bd, m, A, Wk, ?_, fun cs hcs => ?_, I, by omega⟩
    · unfold F53
      simp only [c1, cond_false]
      rw [a1]
      simp only [n32, n33, cond_true, cond_false, Option.bind_some, shc_nat, bit0, zb, Bool.not_false]
    · have ap := app1 8 (by decide) cs 7 (by omega)
      simp only [F22_L0, kd1, idx_some hk, c1, a2', n33', Bool.not_true, Bool.not_false, n32, n33, cond_true, cond_false, Option.bind_some, jw, ap, w64_succ f1 (by omega)]
  | true =>
    rw [zb] at jw
    have bits : ∀ a, (w &&& ~~~((1#32) <<< i)).getLsbD a = if a = i then false else w.getLsbD a := fun a => by
      rw [BitVec.getLsbD_and, BitVec.getLsbD_not, bit_one (by omega)]
      by_cases e : a = i
      · rw [if_pos e, e]; simp
      · rw [if_neg e]
        by_cases h32 : a < 32
        · simp [e, h32]
        · rw [BitVec.getLsbD_of_ge _ _ (by omega)]; simp
    have I1 : Inv n i (w &&& ~~~((1#32) <<< i)) O Bd m A (Wk.set i false) := by
      refine { I with lw := by rw [List.length_set]; exact I.lw, wk := fun a h => ?_, wh := fun a h => by rw [bits, if_neg (by omega)]; exact I.wh a h, st := fun a h1 h2 h3 => ?_ }
      · rw [bits, ge_set hiw]
        by_cases e : a = i
        · rw [if_pos e, if_pos e]
        · rw [if_neg e, if_neg e]; exact I.wk a h
      · rintro ⟨z1, z2, z3⟩
        rw [bits, if_neg h3] at z1
        exact I.st a h1 h2 (by omega) ⟨z1, z2, z3⟩
    obtain ⟨O', Bd', A', r1, r2, r3, r4⟩ := settle h6 hn I1 hi (by omega)
    refine ⟨0, _, O', Bd', m, A', Wk.set i false, ?_, fun cs hcs => ?_, r3, by omega⟩
    · unfold F53
      simp only [c1, cond_false]
      rw [a1]
      simp only [n32, n33, cond_true, cond_false, Option.bind_some, shc_nat, bit0, zb, Bool.not_true, r1]
    · have ap := app1 8 (by decide) cs 0 (by omega)
      simp only [F22_L0, kd1, idx_some hk, c1, a2', n33', Bool.not_true, Bool.not_false, n32, n33, cond_true, cond_false, Option.bind_some, jw, Int.toNat_natCast, r2, ap, w64_succ f1 (by omega)]
end

/-! The message that is taken. -/
section
variable {A : List Lt} {Wk : List Bool} {i j : Nat} {q v : Int}
theorem scan_to (hl : A.length ≤ 1000) (k0 : Nat) (hk : k0 ≤ A.length) (h : ∀ t y, t < k0 → A[t]? = some y → pZ (i : Int) (j : Int) y = false) : whileM (F22_L1 A Wk (q, (i : Int), (j : Int), v)) 0 = whileM (F22_L1 A Wk (q, (i : Int), (j : Int), v)) (k0 : Int) := by
  induction k0 with
  | zero => rfl
  | succ k0 ih =>
    rw [ih (by omega) fun t y h1 h2 => h t y (by omega) h2]
    have hg : A[k0]? = some A[k0] := List.getElem?_eq_getElem (by omega)
    have hp := h k0 _ (by omega) hg
    unfold pZ at hp
    have hd : decide ((k0 : Int) < (A.length : Int)) = true := by rw [decide_eq_true_eq]; omega
    rw [whileM_nxt (s' := ((k0 + 1 : Nat) : Int)) (by simp only [F22_L1, hd, cond_true, idx_some hg, Option.bind_some, hp, cond_false, w64_succ (show k0 < A.length by omega) (by omega)])]
/-- Is another one bound already? -/
def oth (A : List Lt) (j : Int) (k0 : Nat) (k : Nat) : Bool := (List.range k).any fun o => (o != k0) && pB j (A.getD o (0, 0, 0))
theorem oth_succ (k0 k : Nat) : oth A (j : Int) k0 (k + 1) = (oth A (j : Int) k0 k || ((k != k0) && pB (j : Int) (A.getD k (0, 0, 0)))) := by
  unfold oth; rw [List.range_succ, List.any_append]; simp
theorem again_val (hl : A.length ≤ 1000) {k0 : Nat} (hk : k0 < A.length) (s : Int) : whileM (F22_L2 (q, (i : Int), (j : Int), v) (k0 : Int)) (A.set k0 ((i : Int), (j : Int), s), 0) = some (.brk (A.set k0 ((i : Int), (j : Int), cond (oth A (j : Int) k0 A.length) 2 s))) := by
  have := while_upto (body := F22_L2 (q, (i : Int), (j : Int), v) (k0 : Int)) (fun k => (A.set k0 ((i : Int), (j : Int), cond (oth A (j : Int) k0 k) 2 s), (k : Int))) A.length (c := .brk (A.set k0 ((i : Int), (j : Int), cond (oth A (j : Int) k0 A.length) 2 s))) (fun k h => ?_) (by simp [F22_L2]) (by simp)
  · exact this
  · rw [oth_succ]
    have hd : decide ((k : Int) < ((A.set k0 ((i : Int), (j : Int), cond (oth A (j : Int) k0 k) 2 s)).length : Int)) = true := by rw [decide_eq_true_eq, List.length_set]; omega
    have i0 : idx (A.set k0 ((i : Int), (j : Int), cond (oth A (j : Int) k0 k) 2 s)) (k0 : Int) = some ((i : Int), (j : Int), cond (oth A (j : Int) k0 k) 2 s) := idx_setG hk _
    by_cases e : k = k0
    · subst e
      have e1 : ((k : Int) != (k : Int)) = false := by simp
      simp only [F22_L2, hd, cond_true, e1, cond_false, Option.bind_some, bne_self_eq_false, Bool.false_and, Bool.or_false, w64_succ h (by omega)]
    · have e1 : ((k : Int) != (k0 : Int)) = true := by simp; omega
      have e2 : (k != k0) = true := by simpa using e
      have gk : (A.set k0 ((i : Int), (j : Int), cond (oth A (j : Int) k0 k) 2 s))[k]? = some (A.getD k (0, 0, 0)) := by
        rw [List.getElem?_set_ne (fun z => e z.symm), List.getD_eq_getElem?_getD, List.getElem?_eq_getElem h]; rfl
      cases z1 : ((A.getD k (0, 0, 0)).2.1 == (j : Int)) with
      | false =>
        have z : pB (j : Int) (A.getD k (0, 0, 0)) = false := by unfold pB; rw [z1]; rfl
        simp only [F22_L2, hd, cond_true, e1, e2, cond_false, Option.bind_some, idx_some gk, z1, z, Bool.and_false, Bool.or_false, w64_succ h (by omega)]
      | true =>
        cases z2 : ((A.getD k (0, 0, 0)).2.2 == 1) with
        | false =>
          have z : pB (j : Int) (A.getD k (0, 0, 0)) = false := by unfold pB; rw [z1, z2]; rfl
          simp only [F22_L2, hd, cond_true, e1, e2, cond_false, Option.bind_some, idx_some gk, z1, z2, z, Bool.and_false, Bool.or_false, w64_succ h (by omega)]
        | true =>
          have z : pB (j : Int) (A.getD k (0, 0, 0)) = true := by unfold pB; rw [z1, z2]; rfl
          simp only [F22_L2, hd, cond_true, e1, e2, cond_false, Option.bind_some, idx_some gk, z1, z2, z, Bool.and_true, Bool.or_true, i0, Int.toNat_natCast, List.set_set, w64_succ h (by omega)]
theorem oth_iff {k0 : Nat} {s : Int} (hg : A[k0]? = some ((i : Int), (j : Int), 0)) : oth A (j : Int) k0 A.length = decide (0 < A.countP (pB (j : Int))) := by
  rw [Bool.eq_iff_iff, decide_eq_true_eq, List.countP_pos_iff]
  unfold oth
  rw [List.any_eq_true]
  constructor
  · rintro ⟨o, ho, h⟩
    rw [List.mem_range] at ho
    rw [Bool.and_eq_true] at h
    refine ⟨_, ?_, h.2⟩
    rw [List.getD_eq_getElem?_getD, List.getElem?_eq_getElem ho]
    exact List.getElem_mem ho
  · rintro ⟨x, hx, hb⟩
    obtain ⟨o, ho⟩ := List.mem_iff_getElem?.1 hx
    refine ⟨o, by rw [List.mem_range]; exact lt_of_get ho, ?_⟩
    rw [List.getD_eq_getElem?_getD, ho, Bool.and_eq_true]
    refine ⟨?_, hb⟩
    by_cases e : o = k0
    · subst e
      rw [hg] at ho
      obtain rfl := Option.some.inj ho
      simp [pB] at hb
    · simpa using e
/-- What the other one does with it. -/
theorem taken {n c : Nat} {w : BitVec 32} {O Bd : List Int} {m : Mc} (I : Inv n c w O Bd m A Wk) (hl : A.length ≤ 1000) (hj : j < n) {k0 : Nat} (hg : A[k0]? = some ((i : Int), (j : Int), 0)) (hf : ∀ t y, t < k0 → A[t]? = some y → pZ (i : Int) (j : Int) y = false) :
    whileM (F22_L1 A Wk (q, (i : Int), (j : Int), v)) 0 = some (.brk (A.set k0 ((i : Int), (j : Int), cond (decide (j = 0) || decide (0 < A.countP (pB (j : Int)))) 2 1), Wk.set j true, 0)) := by
  have hk := lt_of_get hg
  rw [scan_to hl k0 (by omega) hf]
  refine whileM_brk ?_
  have hd : decide ((k0 : Int) < (A.length : Int)) = true := by rw [decide_eq_true_eq]; omega
  have hz : ((((i : Int) == (i : Int)) && ((j : Int) == (j : Int))) && ((0 : Int) == 0)) = true := by simp
  have i1 : idx (A.set k0 ((i : Int), (j : Int), 1)) (k0 : Int) = some ((i : Int), (j : Int), 1) := idx_setG hk _
  have jw := idx_ge false (l := Wk) (j := j) (by rw [I.lw]; exact hj)
  have ot := oth_iff (s := 0) hg
  have g1 : (A.set k0 ((i : Int), (j : Int), 1))[k0]? = some ((i : Int), (j : Int), 1) := List.getElem?_set_self hk
  by_cases ej : j = 0
  · have e0 : ((j : Int) == 0) = true := by simp [ej]
    have l2 := again_val (q := q) (v := v) (i := i) (j := j) hl hk 2
    have l3 : whileM (F22_L2 (q, (i : Int), (j : Int), v) (k0 : Int)) (A.set k0 ((i : Int), (j : Int), 2), 0) = some (.brk (A.set k0 ((i : Int), (j : Int), 2))) := by
      rw [l2]; cases oth A (j : Int) k0 A.length <;> rfl
    simp only [F22_L1, hd, cond_true, idx_some hg, Option.bind_some, hz, e0, i1, Int.toNat_natCast, List.set_set, l3, Ctl.on, jw, decide_eq_true ej, Bool.true_or]
  · have e0 : ((j : Int) == 0) = false := by simpa using ej
    rw [decide_eq_false ej, Bool.false_or]
    have two : ∀ s : Int, (s = 1 ∨ s = 2) → 0 < A.countP (pB (j : Int)) → whileM (F22_L2 (q, (i : Int), (j : Int), v) (k0 : Int)) (A.set k0 ((i : Int), (j : Int), s), 0) = some (.brk (A.set k0 ((i : Int), (j : Int), 2))) := fun s _ h => by
      rw [again_val (q := q) (v := v) (i := i) (j := j) hl hk s, ot, decide_eq_true h, cond_true]
    rcases bound_val (A.set k0 ((i : Int), (j : Int), 1)) (by rw [List.length_set]; exact hl) (j : Int) with ⟨h0, _⟩ | ⟨r, x, h1, h2, h3⟩
    · exfalso
      rw [List.countP_eq_zero] at h0
      exact h0 _ (List.mem_of_getElem? g1) (by simp [pB])
    · have er : decide ((r : Int) ≥ 0) = true := by simp
      by_cases e : r = k0
      · have ne : ((r : Int) != (k0 : Int)) = false := by simp [e]
        by_cases h : 0 < A.countP (pB (j : Int))
        · simp only [F22_L1, hd, cond_true, idx_some hg, Option.bind_some, hz, e0, cond_false, Int.toNat_natCast, h1, er, ne, two 1 (.inl rfl) h, Ctl.on, jw, decide_eq_true h]
        · have l3 := again_val (q := q) (v := v) (i := i) (j := j) hl hk 1
          rw [ot, decide_eq_false h, cond_false] at l3
          simp only [F22_L1, hd, cond_true, idx_some hg, Option.bind_some, hz, e0, cond_false, Int.toNat_natCast, h1, er, ne, l3, Ctl.on, jw, decide_eq_false h]
      · have ne : ((r : Int) != (k0 : Int)) = true := by simp; omega
        have h : 0 < A.countP (pB (j : Int)) := by
          rw [List.getElem?_set_ne (fun z => e z.symm)] at h2
          exact List.countP_pos_iff.2 ⟨x, List.mem_of_getElem? h2, h3⟩
        simp only [F22_L1, hd, cond_true, idx_some hg, Option.bind_some, hz, e0, cond_false, Int.toNat_natCast, h1, er, ne, i1, List.set_set, two 2 (.inr rfl) h, Ctl.on, jw, decide_eq_true h]
end
section
variable {n k : Nat} {l : List Mv} {w : BitVec 32} {O Bd : List Int} {m : Mc} {A : List Lt} {Wk : List Bool} {i j : Nat} {q t v : Int}
theorem takes (hn : 1 ≤ n) (I : Inv n 0 w O Bd m A Wk) (h6 : n ≤ 6) (ha : A.length ≤ k) (hk : l[k]? = some (q, (i : Int), t, v)) (hl : l.length ≤ 60) (hi : i < n) (c1 : (decide (q < 1) || decide (q > 3)) = false)
    (a1 : ∀ (α : Type) (K : Bool → Option α), (Option.bind (F88 (i : Int) (n : Int)) fun r11 => Option.bind (cond (r11) (some true) (Option.bind (cond (q != 3) (Option.bind (F88 t (n : Int)) fun r19 => some (r19 || ((i : Int) == t))) (some false)) fun b17 => some b17)) K) = K false)
    (a2 : F57 (n : Int) (q, (i : Int), t, v) (q != 3) = some true) (hq : q = 2) (ht : t = (j : Int)) (hj : j < n) (hij : j ≠ i) : Both n k l w O Bd m A Wk (q, (i : Int), t, v) := by
  subst hq; subst ht
  have f1 := lt_of_get hk
  have kd1 := kd hk
  have a2' : F57 (n : Int) (2, (i : Int), (j : Int), v) true = some true := a2
  have n22 : ((2 : Int) == 2) = true := rfl
  have n23' : ((2 : Int) != 3) = true := rfl
  have mz := I.mw (i : Int) (j : Int)
  have mzl := List.countP_le_length (p := pZ (i : Int) (j : Int)) (l := A)
  rcases first_of (pZ (i : Int) (j : Int)) A with h0 | ⟨k0, x, g1, g2, g3⟩
  · have e0 : ((m ((i : Int), (j : Int))).getD 0 == 0) = true := by rw [mz, h0]; rfl
    have st := settled h6 hn I (by omega)
    have sc : whileM (F22_L1 A Wk (2, (i : Int), (j : Int), v)) 0 = some (.brk (A, Wk, 5)) := by
      rw [scan_to (by omega) A.length (Nat.le_refl _) fun t y h1 h2 => by
        rw [List.countP_eq_zero] at h0
        simpa using h0 y (List.mem_of_getElem? h2)]
      exact whileM_brk (by simp [F22_L1])
    refine ⟨5, w, O, Bd, m, A, Wk, ?_, fun cs hcs => ?_, I, by omega⟩
    · unfold F53
      simp only [c1, cond_false]
      rw [a1]
      simp only [n22, cond_true, cond_false, F89, e0, Option.bind_some]
    · have ap := app1 8 (by decide) cs 5 (by omega)
      simp only [F22_L0, kd1, idx_some hk, c1, a2', n23', Bool.not_true, n22, cond_true, cond_false, Option.bind_some, sc, Ctl.on, st, ap, w64_succ f1 (by omega)]
  · obtain ⟨x1, x2, x3⟩ := x
    simp only [pZ, Bool.and_eq_true, beq_iff_eq] at g2
    obtain ⟨⟨rfl, rfl⟩, rfl⟩ := g2
    have tk := taken (q := 2) (v := v) I (by omega) hj g1 g3
    have hz : 0 < A.countP (pZ (i : Int) (j : Int)) := List.countP_pos_iff.2 ⟨_, List.mem_of_getElem? g1, by simp [pZ]⟩
    have e0 : ((m ((i : Int), (j : Int))).getD 0 == 0) = false := by rw [mz, beq_eq_false_iff_ne]; omega
    have w2 : w64 ((m ((i : Int), (j : Int))).getD 0 - 1) = (m ((i : Int), (j : Int))).getD 0 - 1 := w64i (by omega) (by omega)
    have hjb : j < Bd.length := by rw [I.lb]; exact hj
    have hio : i < O.length := by rw [I.lo]; exact hi
    have hjw : j < Wk.length := by rw [I.lw]; exact hj
    have jb := idx_ge (0 : Int) hjb
    have jo := idx_ge (0 : Int) hio
    have sm := I.small (by omega) hi
    have w1 : w64 (ge 0 O i - 1) = ge 0 O i - 1 := w64i (by omega) (by omega)
    have bits : ∀ a, (w ||| ((1#32) <<< j)).getLsbD a = if a = j then true else w.getLsbD a := fun a => by
      rw [BitVec.getLsbD_or, bit_one (by omega)]
      by_cases e : a = j
      · rw [if_pos e]; simp [e]
      · rw [if_neg e]; simp [e]
    have wk' : ∀ a, a < n → (w ||| ((1#32) <<< j)).getLsbD a = ge false (Wk.set j true) a := fun a h => by
      rw [bits, ge_set hjw]
      by_cases e : a = j
      · rw [if_pos e, if_pos e]
      · rw [if_neg e, if_neg e]; exact I.wk a h
    have cZ : ∀ (s : Int) (a b : Int), s ≠ 0 → (A.set k0 ((i : Int), (j : Int), s)).countP (pZ a b) + (if a = (i : Int) ∧ b = (j : Int) then 1 else 0) = A.countP (pZ a b) := fun s a b hs => by
      have := countP_set (pZ a b) (y := ((i : Int), (j : Int), s)) g1
      have e1 : pZ a b ((i : Int), (j : Int), s) = false := by simp [pZ, hs]
      have e2 : pZ a b ((i : Int), (j : Int), (0 : Int)) = decide (a = (i : Int) ∧ b = (j : Int)) := by rw [Bool.eq_iff_iff]; simp [pZ]; omega
      rw [e1, e2] at this
      by_cases e : a = (i : Int) ∧ b = (j : Int)
      · rw [decide_eq_true e] at this; rw [if_pos e]; simpa [on] using this
      · rw [decide_eq_false e] at this; rw [if_neg e]; simpa [on] using this
    have mw' : ∀ s : Int, s ≠ 0 → ∀ a b, ((mupd m ((i : Int), (j : Int)) ((m ((i : Int), (j : Int))).getD 0 - 1)) (a, b)).getD 0 = ((A.set k0 ((i : Int), (j : Int), s)).countP (pZ a b) : Int) := fun s hs a b => by
      rw [getD_mupd]
      have c := cZ s a b hs
      have := I.mw a b
      by_cases e : a = (i : Int) ∧ b = (j : Int)
      · rw [if_pos e] at c ⊢
        obtain ⟨rfl, rfl⟩ := e
        rw [this]; omega
      · rw [if_neg e] at c ⊢; rw [this]; omega
    have fin' : ∃ p, Enum (mupd m ((i : Int), (j : Int)) ((m ((i : Int), (j : Int))).getD 0 - 1)) p := by
      obtain ⟨p, hp⟩ := I.fin; exact ⟨_, hp.upd _ _⟩
    have rg' : ∀ s : Int, 0 ≤ s → s ≤ 2 → ∀ x ∈ A.set k0 ((i : Int), (j : Int), s), ∃ a b : Nat, x.1 = (a : Int) ∧ x.2.1 = (b : Int) ∧ a < n ∧ b < n ∧ a ≠ b ∧ 0 ≤ x.2.2 ∧ x.2.2 ≤ 2 := fun s s0 s2 x hx => by
      rcases mem_set hx with rfl | hx
      · exact ⟨i, j, rfl, rfl, hi, hj, fun z => hij z.symm, s0, s2⟩
      · exact I.rg x hx
    have bnd : ge 0 Bd j = (j : Int) ↔ A.countP (pB (j : Int)) = 0 := by
      constructor
      · intro e
        have := I.none (by omega) hj e
        rcases bound_val A (by omega) (j : Int) with ⟨h, _⟩ | ⟨r, x, h, _, _⟩
        · exact h
        · rw [this] at h; have := Option.some.inj h; omega
      · exact I.b0 j hj
    cases zc : (decide (j = 0) || decide (0 < A.countP (pB (j : Int)))) with
    | false =>
      rw [zc, cond_false] at tk
      simp only [Bool.or_eq_false_iff, decide_eq_false_iff_not] at zc
      have hc0 : A.countP (pB (j : Int)) = 0 := by omega
      have e1 : ((j : Int) != 0) = true := by simp; omega
      have e2 : (ge 0 Bd j == (j : Int)) = true := by rw [bnd.2 hc0]; simp
      have cF : ∀ a : Nat, (A.set k0 ((i : Int), (j : Int), 1)).countP (pF a) = A.countP (pF a) := fun a => by
        have := countP_set (pF a) (y := ((i : Int), (j : Int), (1 : Int))) g1
        have e : pF a ((i : Int), (j : Int), (1 : Int)) = pF a ((i : Int), (j : Int), (0 : Int)) := by simp [pF]
        rw [e] at this; exact Nat.add_right_cancel this
      have cB : ∀ a : Nat, (A.set k0 ((i : Int), (j : Int), 1)).countP (pB a) = A.countP (pB a) + (if a = j then 1 else 0) := fun a => by
        have := countP_set (pB a) (y := ((i : Int), (j : Int), (1 : Int))) g1
        have e3 : pB a ((i : Int), (j : Int), (0 : Int)) = false := by simp [pB]
        have e4 : pB a ((i : Int), (j : Int), (1 : Int)) = decide (a = j) := by rw [Bool.eq_iff_iff]; simp [pB]; omega
        rw [e3, e4] at this
        by_cases e : a = j
        · simp [e, on] at this ⊢; omega
        · simp [e, on] at this ⊢; omega
      have I1 : Inv n 0 (w ||| ((1#32) <<< j)) O (Bd.set j (i : Int)) (mupd m ((i : Int), (j : Int)) ((m ((i : Int), (j : Int))).getD 0 - 1)) (A.set k0 ((i : Int), (j : Int), 1)) (Wk.set j true) := by
        refine { lo := I.lo, lb := by rw [List.length_set]; exact I.lb, lw := by rw [List.length_set]; exact I.lw, wk := wk', wh := fun a h => by rw [bits, if_neg (by omega)]; exact I.wh a h, ow := fun a h => by rw [cF]; exact I.ow a h, b1 := fun x hx h1 a ht => ?_, b0 := fun a h h0 => ?_, un := fun a h => ?_, rg := rg' 1 (by omega) (by omega), mw := mw' 1 (by omega), fin := fin', st := fun a h1 h2 h3 => ?_ }
        · rw [ge_set hjb]
          rcases mem_set hx with rfl | hx'
          · have : a = j := by simp at ht; omega
            subst this
            exact ⟨by omega, if_pos rfl⟩
          · obtain ⟨q1, q2⟩ := I.b1 x hx' h1 a ht
            refine ⟨q1, ?_⟩
            rw [if_neg, q2]
            rintro rfl
            rw [List.countP_eq_zero] at hc0
            exact hc0 x hx' (by simp [pB, ht, h1])
        · rw [cB] at h0
          by_cases e : a = j
          · rw [if_pos e] at h0; omega
          · rw [ge_set hjb, if_neg e]; rw [if_neg e] at h0; exact I.b0 a h h0
        · rw [cB]
          by_cases e : a = j
          · subst e; rw [if_pos rfl]; omega
          · rw [if_neg e]; exact I.un a h
        · rintro ⟨z1, z2, z3⟩
          rw [bits] at z1
          by_cases e : a = j
          · rw [if_pos e] at z1; cases z1
          · rw [if_neg e] at z1; rw [ge_set hjb, if_neg e] at z3; exact I.st a h1 h2 h3 ⟨z1, z2, z3⟩
      have st := settled h6 hn I1 (by rw [List.length_set]; omega)
      refine ⟨0, _, _, _, _, _, _, ?_, fun cs hcs => ?_, I1, by rw [List.length_set]; omega⟩
      · unfold F53
        simp only [c1, cond_false]
        rw [a1]
        simp only [n22, cond_true, cond_false, F89, e0, Option.bind_some, w2, shc_nat, e1, jb, e2, Int.toNat_natCast]
      · have ap := app1 8 (by decide) cs 0 (by omega)
        simp only [F22_L0, kd1, idx_some hk, c1, a2', n23', Bool.not_true, n22, cond_true, cond_false, Option.bind_some, tk, Ctl.on, st, ap, w64_succ f1 (by omega)]
    | true =>
      rw [zc, cond_true] at tk
      have zc' := zc
      simp only [Bool.or_eq_true, decide_eq_true_eq] at zc'
      have eb : Option.bind (cond ((j : Int) != 0) (Option.bind (some (ge 0 Bd j)) fun x17 => some (x17 == (j : Int))) (some false)) (fun b => some b) = some false := by
        by_cases e : j = 0
        · have : ((j : Int) != 0) = false := by simp [e]
          rw [this]; rfl
        · have : ((j : Int) != 0) = true := by simp; omega
          have h2 : (ge 0 Bd j == (j : Int)) = false := by
            rw [beq_eq_false_iff_ne]
            intro z
            have := bnd.1 z
            omega
          rw [this]; simp [h2]
      have eb' : (cond ((j : Int) != 0) (some (ge 0 Bd j == (j : Int))) (some false)) = some false := by
        simp only [Option.bind_some] at eb
        cases h : ((j : Int) != 0)
        · rfl
        · rw [h] at eb; simpa using eb
      have cF : ∀ a : Nat, (A.set k0 ((i : Int), (j : Int), 2)).countP (pF a) + (if a = i then 1 else 0) = A.countP (pF a) := fun a => by
        have := countP_set (pF a) (y := ((i : Int), (j : Int), (2 : Int))) g1
        have e3 : pF a ((i : Int), (j : Int), (2 : Int)) = false := by simp [pF]
        have e4 : pF a ((i : Int), (j : Int), (0 : Int)) = decide (a = i) := by rw [Bool.eq_iff_iff]; simp [pF]; omega
        rw [e3, e4] at this
        by_cases e : a = i
        · simp [e, on] at this ⊢; omega
        · simp [e, on] at this ⊢; omega
      have cB : ∀ a : Nat, (A.set k0 ((i : Int), (j : Int), 2)).countP (pB a) = A.countP (pB a) := fun a => by
        have := countP_set (pB a) (y := ((i : Int), (j : Int), (2 : Int))) g1
        have e : pB a ((i : Int), (j : Int), (2 : Int)) = pB a ((i : Int), (j : Int), (0 : Int)) := by simp [pB]
        rw [e] at this; exact Nat.add_right_cancel this
      have I1 : Inv n i (w ||| ((1#32) <<< j)) (O.set i (ge 0 O i - 1)) Bd (mupd m ((i : Int), (j : Int)) ((m ((i : Int), (j : Int))).getD 0 - 1)) (A.set k0 ((i : Int), (j : Int), 2)) (Wk.set j true) := by
        refine { lo := by rw [List.length_set]; exact I.lo, lb := I.lb, lw := by rw [List.length_set]; exact I.lw, wk := wk', wh := fun a h => by rw [bits, if_neg (by omega)]; exact I.wh a h, ow := fun a h => ?_, b1 := fun x hx h1 a ht => ?_, b0 := fun a h h0 => ?_, un := fun a h => ?_, rg := rg' 2 (by omega) (by omega), mw := mw' 2 (by omega), fin := fin', st := fun a h1 h2 h3 => ?_ }
        · rw [ge_set hio]
          have c := cF a
          have o := I.ow a h
          by_cases e : a = i
          · subst e; rw [if_pos rfl] at c ⊢; omega
          · rw [if_neg e] at c ⊢; omega
        · rcases mem_set hx with rfl | hx'
          · simp at h1
          · exact I.b1 x hx' h1 a ht
        · rw [cB] at h0; exact I.b0 a h h0
        · rw [cB]; exact I.un a h
        · rintro ⟨z1, z2, z3⟩
          rw [bits] at z1
          rw [ge_set hio, if_neg h3] at z2
          by_cases e : a = j
          · rw [if_pos e] at z1; cases z1
          · rw [if_neg e] at z1; exact I.st a h1 h2 (by omega) ⟨z1, z2, z3⟩
      obtain ⟨O', Bd', A', r1, r2, r3, r4⟩ := settle h6 hn I1 hi (by rw [List.length_set]; omega)
      rw [List.length_set] at r4
      refine ⟨0, _, O', Bd', _, A', Wk.set j true, ?_, fun cs hcs => ?_, r3, by omega⟩
      · unfold F53
        simp only [c1, cond_false]
        rw [a1]
        simp only [n22, cond_true, cond_false, F89, e0, Option.bind_some, w2, shc_nat, jb, eb', jo, w1, Int.toNat_natCast, r1]
      · have ap := app1 8 (by decide) cs 0 (by omega)
        simp only [F22_L0, kd1, idx_some hk, c1, a2', n23', Bool.not_true, n22, cond_true, cond_false, Option.bind_some, tk, Ctl.on, r2, ap, w64_succ f1 (by omega)]
end

/-! All moves. -/
theorem move {n k : Nat} {l : List Mv} {w : BitVec 32} {O Bd : List Int} {m : Mc} {A : List Lt} {Wk : List Bool} {x : Mv} (I : Inv n 0 w O Bd m A Wk) (h6 : n ≤ 6) (hn : 1 ≤ n) (ha : A.length ≤ k) (hk : l[k]? = some x) (hl : l.length ≤ 60) : Both n k l w O Bd m A Wk x := by
  cases c1 : (decide (x.1 < 1) || decide (x.1 > 3)) with
  | true => exact wrongKind I ha hk hl c1
  | false =>
    obtain ⟨bad, a1, a2, a3⟩ := args (n := n) (x := x) (two := (x.1 != 3))
    cases bad with
    | true => exact wrongArg I ha hk hl c1 a1 a2
    | false =>
      obtain ⟨b1, b2, b3⟩ := a3 rfl
      obtain ⟨q, a, t, v⟩ := x
      simp only at b1 b2 b3 a1 a2 c1
      obtain ⟨i, rfl⟩ := nat_of b1
      have hi : i < n := by omega
      have hq : q = 1 ∨ q = 2 ∨ q = 3 := by
        have := c1
        simp only [Bool.or_eq_false_iff, decide_eq_false_iff_not] at this
        omega
      rcases hq with rfl | rfl | rfl
      · obtain ⟨b4, b5, b6⟩ := b3 rfl
        obtain ⟨j, rfl⟩ := nat_of b4
        exact sends I h6 ha hk hl hi c1 a1 a2 rfl rfl (by omega) (by omega)
      · obtain ⟨b4, b5, b6⟩ := b3 rfl
        obtain ⟨j, rfl⟩ := nat_of b4
        exact takes hn I h6 ha hk hl hi c1 a1 a2 rfl rfl (by omega) (by omega)
      · exact rests I h6 ha hk hl hi c1 a1 a2 hn rfl
theorem run_both {n : Nat} {l : List Mv} (h6 : n ≤ 6) (hn : 1 ≤ n) (hl : l.length ≤ 60) : ∀ (r k : Nat), k + r = l.length → ∀ {cs : List Int} {w : BitVec 32} {O Bd : List Int} {m : Mc} {A : List Lt} {Wk : List Bool},
    cs.length = k → A.length ≤ k → Inv n 0 w O Bd m A Wk →
    ∃ (cs' : List Int) (w' : BitVec 32) (O' Bd' : List Int) (m' : Mc) (A' : List Lt) (Wk' : List Bool),
      whileM (F20_L1 l) (cs, m, Bd, O, (n : Int), w, (k : Int)) = some (.brk (cs', m', Bd', O', (n : Int), w')) ∧
      whileM (F22_L0 (n : Int) l) (cs, A, Wk, (k : Int)) = some (.brk (cs', A', Wk')) ∧
      cs'.length = l.length ∧ A'.length ≤ l.length ∧ Inv n 0 w' O' Bd' m' A' Wk' := by
  intro r
  induction r with
  | zero =>
    intro k hk cs w O Bd m A Wk hcs ha I
    obtain rfl : k = l.length := by omega
    exact ⟨_, _, _, _, _, _, _, whileM_brk (by simp [F20_L1]), whileM_brk (by simp [F22_L0]), hcs, ha, I⟩
  | succ r ih =>
    intro k hk cs w O Bd m A Wk hcs ha I
    have hlt : k < l.length := by omega
    have hg : l[k]? = some l[k] := List.getElem?_eq_getElem hlt
    obtain ⟨e, w1, O1, Bd1, m1, A1, Wk1, r1, r2, r3, r4⟩ := move I h6 hn ha hg hl
    have n1 : F20_L1 l (cs, m, Bd, O, (n : Int), w, (k : Int)) = some (.nxt (cs ++ [e], m1, Bd1, O1, (n : Int), w1, ((k + 1 : Nat) : Int))) := by
      have hd : decide ((k : Int) < (l.length : Int)) = true := by rw [decide_eq_true_eq]; omega
      simp only [F20_L1, hd, cond_true, idx_some hg, Option.bind_some, r1, app1 8 (by decide) cs e (by omega), w64_succ hlt (by omega)]
    obtain ⟨cs', w', O', Bd', m', A', Wk', q1, q2, q3, q4, q5⟩ := ih (k + 1) (by omega) (cs := cs ++ [e]) (by simp [hcs]) r4 r3
    exact ⟨cs', w', O', Bd', m', A', Wk', by rw [whileM_nxt n1]; exact q1, by rw [whileM_nxt (r2 cs (by omega))]; exact q2, q3, q4, q5⟩
/-- A word of those that something is true of. -/
def wordOf (Q : Nat → Bool) : Nat → BitVec 32
  | 0 => 0#32
  | k + 1 => cond (Q k) (wordOf Q k ||| (1#32 <<< k)) (wordOf Q k)
theorem wordOf_bit (Q : Nat → Bool) : ∀ n, n ≤ 32 → ∀ b, (wordOf Q n).getLsbD b = (decide (b < n) && Q b)
  | 0, _, b => by simp [wordOf]
  | n + 1, h, b => by
    have ih := wordOf_bit Q n (by omega) b
    unfold wordOf
    cases c : Q n with
    | true =>
      rw [cond_true, BitVec.getLsbD_or, ih, bit_one (by omega), Bool.eq_iff_iff]
      simp only [Bool.or_eq_true, Bool.and_eq_true, decide_eq_true_eq]
      constructor
      · rintro (⟨z1, z2⟩ | rfl)
        · exact ⟨by omega, z2⟩
        · exact ⟨by omega, c⟩
      · rintro ⟨z1, z2⟩
        by_cases e : b = n
        · exact .inr e
        · exact .inl ⟨by omega, z2⟩
    | false =>
      rw [cond_false, ih, Bool.eq_iff_iff]
      simp only [Bool.and_eq_true, decide_eq_true_eq]
      constructor
      · rintro ⟨z1, z2⟩; exact ⟨by omega, z2⟩
      · rintro ⟨z1, z2⟩
        refine ⟨?_, z2⟩
        by_cases e : b = n
        · subst e; rw [c] at z2; cases z2
        · omega
/-- The same by sums. -/
theorem wordOf_add (Q : Nat → Bool) (n : Nat) (hn : n ≤ 32) : (List.range n).foldl (fun t k => cond (Q k) (t + (1#32 <<< k)) t) 0#32 = wordOf Q n := by
  apply BitVec.eq_of_getLsbD_eq
  intro b hb
  rw [fold_plus Q n hn b, wordOf_bit Q n hn b]

theorem tell_works {n c : Nat} {w : BitVec 32} {O Bd : List Int} {m : Mc} {A : List Lt} {Wk : List Bool} (I : Inv n c w O Bd m A Wk) (h6 : n ≤ 6) : whileM (F22_L3 (n : Int) Wk) (0, 0) = some (.brk w) := by
  have hw : w = wordOf (fun i => ge false Wk i) n := by
    apply BitVec.eq_of_getLsbD_eq
    intro b hb
    rw [wordOf_bit _ n (by omega) b]
    by_cases e : b < n
    · rw [I.wk b e, decide_eq_true e, Bool.true_and]
    · rw [I.wh b (by omega), decide_eq_false e, Bool.false_and]
  rw [hw, ← wordOf_add _ n (by omega)]
  have := while_upto (body := F22_L3 (n : Int) Wk) (fun k => ((List.range k).foldl (fun t k => cond (ge false Wk k) (t + (1#32 <<< k)) t) 0#32, (k : Int))) n (c := .brk ((List.range n).foldl (fun t k => cond (ge false Wk k) (t + (1#32 <<< k)) t) 0#32)) (fun k hk => ?_) (by simp [F22_L3]) (by simp)
  · exact this
  · have hd : decide ((k : Int) < (n : Int)) = true := by rw [decide_eq_true_eq]; omega
    have ib := idx_ge false (l := Wk) (j := k) (by rw [I.lw]; exact hk)
    cases z1 : ge false Wk k <;> (rw [z1] at ib; simp only [F22_L3, hd, cond_true, cond_false, ib, Option.bind_some, u64_nat (show k ≤ 18446744073709551615 by omega), List.range_succ, List.foldl_append, List.foldl_cons, List.foldl_nil, z1, w64_succ hk (by omega)])
def pW (x : Lt) : Bool := x.2.2 == 0
theorem tell_way (A : List Lt) (hl : A.length ≤ 1000) : whileM (F22_L4 A) (0, 0) = some (.brk (A.countP pW : Int)) := by
  have := while_upto (body := F22_L4 A) (fun k => (((A.take k).countP pW : Int), (k : Int))) A.length (c := .brk (A.countP pW : Int)) (fun k hk => ?_) (by simp [F22_L4]) (by simp)
  · simpa using this
  · have hd : decide ((k : Int) < (A.length : Int)) = true := by rw [decide_eq_true_eq]; omega
    have hg : A[k]? = some A[k] := List.getElem?_eq_getElem hk
    have cl : (A.take k).countP pW ≤ k := by
      have := List.countP_le_length (p := pW) (l := A.take k)
      rw [List.length_take] at this; omega
    rw [take_succ' hk, List.countP_append]
    cases c : pW A[k] <;> (have c' := c; unfold pW at c'; simp only [F22_L4, hd, cond_true, cond_false, idx_some hg, Option.bind_some, c', List.countP_cons, List.countP_nil, c, w64_succ hk (by omega)])
    · simp
    · rw [w64i (by omega) (by omega)]; simp
/-- The counts, as queues. -/
def asq (m : Mc) : Int × Int → Option (List Bool) := fun k => (m k).map fun v => List.replicate v.toNat true
theorem asq_rel {n c : Nat} {w : BitVec 32} {O Bd : List Int} {m : Mc} {A : List Lt} {Wk : List Bool} (I : Inv n c w O Bd m A Wk) {p : List ((Int × Int) × Int)} (hp : Enum m p) :
    Enum (asq m) (p.map fun x => (x.1, List.replicate x.2.toNat true)) ∧ WRel (fun _ => 0) (asq m) (A.filter pW) := by
  have en : Enum (asq m) (p.map fun x => (x.1, List.replicate x.2.toNat true)) := by
    refine ⟨?_, fun k v => ?_⟩
    · rw [List.map_map]; exact hp.1
    · rw [List.mem_map]
      constructor
      · rintro ⟨⟨k', v'⟩, h, e⟩
        obtain ⟨rfl, rfl⟩ := Prod.mk.inj e
        unfold asq
        rw [(hp.2 k' v').1 h]; rfl
      · intro h
        unfold asq at h
        cases z : m k with
        | none => rw [z] at h; cases h
        | some v' =>
          rw [z] at h
          have := Option.some.inj h
          exact ⟨(k, v'), (hp.2 k v').2 z, by rw [← this]⟩
  refine ⟨en, fun a b => ?_, _, en⟩
  have hm := I.mw a b
  have e1 : ((asq m (a, b)).getD []) = List.replicate (A.countP (pZ a b)) true := by
    unfold asq
    cases z : m (a, b) with
    | none =>
      rw [z] at hm
      have : A.countP (pZ a b) = 0 := by simp only [Option.getD_none] at hm; omega
      rw [this]; rfl
    | some v =>
      rw [z] at hm
      have : v = (A.countP (pZ a b) : Int) := hm
      simp [this]
  rw [e1, List.map_replicate, eq_comm, List.eq_replicate_iff]
  refine ⟨?_, fun x hx => ?_⟩
  · unfold qs
    rw [List.length_map, List.filter_filter, ← List.countP_eq_length_filter]
    congr 1
  · unfold qs at hx
    rw [List.mem_map] at hx
    obtain ⟨y, hy, rfl⟩ := hx
    rw [List.mem_filter, List.mem_filter] at hy
    simpa [pW] using hy.1.2
def sumv (p : List ((Int × Int) × Int)) : Nat := (p.map fun x => x.2.toNat).sum
theorem sum_val : ∀ (p : List ((Int × Int) × Int)) (s : Nat), (∀ x ∈ p, 0 ≤ x.2) → s + sumv p ≤ 100000 → foldR F20_L2 p (s : Int) = some (.nxt ((s + sumv p : Nat) : Int))
  | [], s, _, _ => by simp [foldR, sumv]
  | x :: p, s, hx, h => by
    have hm : sumv (x :: p) = x.2.toNat + sumv p := by simp [sumv]
    rw [hm] at h ⊢
    have h0 := hx x (by simp)
    rw [foldR]
    have e : F20_L2 x.1 x.2 (s : Int) = some (.nxt ((s + x.2.toNat : Nat) : Int)) := by
      unfold F20_L2
      rw [w64i (by omega) (by omega)]
      congr 2; omega
    rw [e]
    show foldR F20_L2 p ((s + x.2.toNat : Nat) : Int) = _
    rw [sum_val p (s + x.2.toNat) (fun y hy => hx y (by simp [hy])) (by omega)]
    congr 2; push_cast; omega
theorem way_sum {n c : Nat} {w : BitVec 32} {O Bd : List Int} {m : Mc} {A : List Lt} {Wk : List Bool} (I : Inv n c w O Bd m A Wk) (hl : A.length ≤ 1000) : rangeM m F20_L2 0 = some (.nxt (A.countP pW : Int)) := by
  obtain ⟨p, hp⟩ := I.fin
  refine rangeM_of hp fun p hp => ?_
  obtain ⟨e1, e2⟩ := asq_rel I hp
  have ht := e2.tot e1
  have hs : sumv p = A.countP pW := by
    rw [List.countP_eq_length_filter, ← ht]
    unfold sumv manyIn
    rw [List.map_map]
    congr 1
    apply List.map_congr_left
    intro x _
    simp
  have hc := List.countP_le_length (p := pW) (l := A)
  have := sum_val p 0 (fun x hx => by
    have h1 := (hp.2 x.1 x.2).1 hx
    have h2 := I.mw x.1.1 x.1.2
    have h3 : m (x.1.1, x.1.2) = some x.2 := h1
    rw [h3] at h2
    have h4 : x.2 = (A.countP (pZ x.1.1 x.1.2) : Int) := h2
    omega) (by omega)
  rw [Nat.zero_add, hs] at this
  exact this
theorem up_val (n : Nat) (h6 : n ≤ 6) : whileM (F20_L0 (n : Int)) ([], 0) = some (.brk ((List.range n).map fun i : Nat => (i : Int))) := by
  have := while_upto (body := F20_L0 (n : Int)) (fun k => ((List.range k).map fun i : Nat => (i : Int), (k : Int))) n (c := .brk ((List.range n).map fun i : Nat => (i : Int))) (fun k hk => ?_) (by simp [F20_L0]) (by simp)
  · exact this
  · have hd : decide ((k : Int) < (n : Int)) = true := by rw [decide_eq_true_eq]; omega
    have ap := app1 8 (by decide) ((List.range k).map fun i : Nat => (i : Int)) (k : Int) (by simp; omega)
    rw [List.range_succ, List.map_append]
    simp only [F20_L0, hd, cond_true, ap, Option.bind_some, w64_succ hk (by omega), List.map_cons, List.map_nil]
theorem law_QuietPlays (x0 : Int) (b0 : -9223372036854775808 ≤ x0 ∧ x0 ≤ 9223372036854775807) (x1 : List Mv) (l1 : x1.length ≤ 9223372036854775807) (w1 : ∀ x ∈ x1, (-9223372036854775808 ≤ x.1 ∧ x.1 ≤ 9223372036854775807) ∧ (-9223372036854775808 ≤ x.2.1 ∧ x.2.1 ≤ 9223372036854775807) ∧ (-9223372036854775808 ≤ x.2.2.1 ∧ x.2.2.1 ≤ 9223372036854775807) ∧ (-9223372036854775808 ≤ x.2.2.2 ∧ x.2.2.2 ≤ 9223372036854775807)) :
    F4 x0 x1 = some true := by
  have h0 := same_codes [] (by simp)
  cases c : (((decide (x0 < 1)) || (decide (x0 > 6))) || (decide ((x1.length : Int) > 60))) with
  | true => simp [F4, F20, F21, c, h0]
  | false =>
    have c' := c
    simp only [Bool.or_eq_false_iff, decide_eq_false_iff_not] at c'
    obtain ⟨n, rfl⟩ := nat_of (a := x0) (by omega)
    have h6 : n ≤ 6 := by omega
    have hn : 1 ≤ n := by omega
    have hl : x1.length ≤ 60 := by omega
    have one : ∀ b, (1#32).getLsbD b = decide (b = 0) := fun b => by
      have := bit_one (i := 0) (b := b) (by omega)
      rwa [show (1#32 <<< 0) = 1#32 from rfl] at this
    have gr : ∀ i, i < n → ge 0 ((List.range n).map fun i : Nat => (i : Int)) i = (i : Int) := fun i hi => by
      unfold ge; rw [List.getD_eq_getElem?_getD, List.getElem?_map, List.getElem?_range hi]; rfl
    have I : Inv n 0 1#32 (List.replicate n 0) ((List.range n).map fun i : Nat => (i : Int)) mzero [] ((List.replicate n false).set 0 true) := by
      refine { lo := by simp, lb := by simp, lw := by simp, wk := fun i hi => ?_, wh := fun i hi => by rw [one]; simp; omega, ow := fun i hi => by rw [ge_rep _ _ hi]; rfl, b1 := fun x hx => (by cases hx), b0 := fun i hi _ => gr i hi, un := fun i hi => by simp, rg := fun x hx => (by cases hx), mw := fun a b => rfl, fin := ⟨_, Enum.zero⟩, st := fun i h1 h2 _ => ?_ }
      · rw [one, ge_set (by simp; omega)]
        by_cases e : i = 0
        · rw [if_pos e, e]; rfl
        · rw [if_neg e, ge_rep _ _ hi]; simpa using e
      · rintro ⟨_, _, z⟩; exact z (gr i h2)
    obtain ⟨cs', w', O', Bd', m', A', Wk', r1, r2, r3, r4, r5⟩ := run_both h6 hn hl x1.length 0 (by omega) (cs := []) rfl (by simp) I
    have m8 := mkl_rep h6 (show 8 ≤ 128 by decide) (0 : Int)
    have m1 := mkl_rep h6 (show 1 ≤ 128 by decide) false
    have hb : ((w' &&& 1#32) == 0#32) = !w'.getLsbD 0 := by
      have := bit0 w' 0
      rwa [show w' >>> 0 = w' by simp] at this
    have jo : idx O' 0 = some (ge 0 O' 0) := idx_ge (0 : Int) (j := 0) (by rw [r5.lo]; omega)
    have jw : idx Wk' 0 = some (w'.getLsbD 0) := by
      have := idx_ge false (l := Wk') (j := 0) (by rw [r5.lw]; omega)
      rw [← r5.wk 0 (by omega)] at this
      exact this
    have ow := r5.ow 0 (by omega)
    have hsum := way_sum r5 (by omega)
    have hway := tell_way A' (by omega)
    have hwk := tell_works r5 h6
    have hF54 : F54 0 A' = some (ge 0 O' 0) := by rw [ow]; exact owed_val A' (by omega) 0
    have up := up_val n h6
    have i0 : idx (List.replicate n false) 0 = some false := by
      have := idx_ge false (l := List.replicate n false) (j := 0) (by simp; omega)
      rw [ge_rep _ _ (by omega)] at this; exact this
    have r1' : whileM (F20_L1 x1) ([], mzero, (List.range n).map fun i : Nat => (i : Int), List.replicate n 0, (n : Int), 1#32, 0) = some (.brk (cs', m', Bd', O', (n : Int), w')) := r1
    have r2' : whileM (F22_L0 (n : Int) x1) ([], [], (List.replicate n false).set 0 true, 0) = some (.brk (cs', A', Wk')) := r2
    have tn : (0 : Int).toNat = 0 := rfl
    have eF21 : F21 (n : Int) (x1.length : Int) = some 0 := by simp only [F21, c, cond_false]
    have h1 := same_codes cs' (by omega)
    cases zb : w'.getLsbD 0 with
    | true =>
      rw [zb] at jw hb
      have eF20 : F20 (n : Int) x1 = some ((cs', false, w', (A'.countP pW : Int)), 0) := by
        simp only [F20, c, cond_false, m8, Option.bind_some, up, Ctl.on, r1', hsum, Ctl.onN, hb, Bool.not_true]
      have eF22 : F22 (n : Int) x1 = some (cs', false, w', (A'.countP pW : Int)) := by
        simp only [F22, m1, Option.bind_some, i0, tn, r2', Ctl.on, hwk, hway, jw, Bool.not_true, cond_false]
      simp [F4, eF20, eF22, eF21, h1]
    | false =>
      rw [zb] at jw hb
      have eF20 : F20 (n : Int) x1 = some ((cs', ge 0 O' 0 == 0, w', (A'.countP pW : Int)), 0) := by
        simp only [F20, c, cond_false, m8, Option.bind_some, up, Ctl.on, r1', hsum, Ctl.onN, hb, Bool.not_false, cond_true, jo]
      have eF22 : F22 (n : Int) x1 = some (cs', ge 0 O' 0 == 0, w', (A'.countP pW : Int)) := by
        simp only [F22, m1, Option.bind_some, i0, tn, r2', Ctl.on, hwk, hway, jw, Bool.not_false, cond_true, hF54]
      simp [F4, eF20, eF22, eF21, h1]
end Go.Proofs.Ythfkdepcnhhepaa
