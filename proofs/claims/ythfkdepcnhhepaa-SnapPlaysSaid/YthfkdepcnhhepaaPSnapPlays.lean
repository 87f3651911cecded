/-
  The plain law of SnapPlays.
-/
import Derived.Test.YthfkdepcnhhepaaVM
import Derived.Test.YthfkdepcnhhepaaPWays
namespace Go.Proofs.Ythfkdepcnhhepaa
open Go Go.Bk
set_option linter.unusedVariables false
set_option linter.unusedSimpArgs false
set_option linter.unusedSectionVars false

abbrev Mp := Int × Int → Option (List Int)
abbrev Mb := Int × Int → Option Bool
abbrev gi (l : List Int) (j : Nat) : Int := ge 0 l j
abbrev gb (l : List Bool) (j : Nat) : Bool := ge false l j
abbrev gW (l : List (List Int)) (j : Nat) : List Int := ge [] l j
abbrev gC (l : List (List Bool)) (j : Nat) : List Bool := ge [] l j
structure Inv (n k : Nat) (hv : List Int) (m : Mp) (way : List Lt) (rc : List Bool) (c : Mb) (cl : List (List Bool)) (kp : List Int) (W : List (List Int)) : Prop where
  lh : hv.length = n
  lr : rc.length = n
  lc : cl.length = n
  lk : kp.length = n
  lw : W.length = n
  rw : ∀ i, i < n → (gW W i).length = n
  rcl : ∀ i, i < n → (gC cl i).length = n
  ways : WRel id m way
  few : way.length ≤ 6 * k
  cl : ∀ i j, i < n → j < n → (c ((i : Int), (j : Int))).getD false = gb (gC cl i) j
  ck : ∀ a v, c a = some v → v = true ∧ ∃ i j : Nat, i < n ∧ j < n ∧ j ≠ i ∧ a = ((i : Int), (j : Int))
  cf : ∃ p, Enum c p
section
variable {n k : Nat} {hv : List Int} {m : Mp} {way : List Lt} {rc : List Bool} {c : Mb} {cl : List (List Bool)} {kp : List Int} {W : List (List Int)} {l : List Mv} {x : Mv}
theorem Inv.up (h : Inv n k hv m way rc c cl kp W) : Inv n (k + 1) hv m way rc c cl kp W := { h with few := by have := h.few; omega }
def Both (n k : Nat) (l : List Mv) (hv : List Int) (m : Mp) (way : List Lt) (rc : List Bool) (c : Mb) (cl : List (List Bool)) (kp : List Int) (W : List (List Int)) (x : Mv) : Prop :=
  ∃ (e : Int) (hv' : List Int) (m' : Mp) (way' : List Lt) (rc' : List Bool) (c' : Mb) (cl' : List (List Bool)) (kp' : List Int) (W' : List (List Int)),
    F59 ((n : Int), hv, m, rc, c, (kp, W)) x = some (e, ((n : Int), hv', m', rc', c', (kp', W'))) ∧
    (∀ cs : List Int, cs.length ≤ 60 → F27_L1 (n : Int) l (way, rc, hv, cs, W, cl, kp, (k : Int)) = some (.nxt (way', rc', hv', cs ++ [e], W', cl', kp', ((k + 1 : Nat) : Int)))) ∧
    Inv n (k + 1) hv' m' way' rc' c' cl' kp' W'
variable (h : Inv n k hv m way rc c cl kp W) (hn : n ≤ 6) (hk : l[k]? = some x) (hl : l.length ≤ 60)
include h hn
/-- One keeps what it has, and sends marks. -/
theorem record (k60 : k ≤ 60) {i : Nat} (hi : i < n) : ∃ (m' : Mp) (way' : List Lt) (rc' : List Bool) (kp' : List Int), F94 ((n : Int), hv, m, rc, kp) (i : Int) = some ((n : Int), hv, m', rc', kp') ∧ F60 (i : Int) rc hv kp (n : Int) way = some (rc', hv, kp', way') ∧
    rc'.length = n ∧ kp'.length = n ∧ WRel id m' way' ∧ way'.length ≤ way.length + 6 := by
  have ir := idx_ge false (l := rc) (j := i) (by rw [h.lr]; exact hi)
  have ih := idx_ge (0 : Int) (l := hv) (j := i) (by rw [h.lh]; exact hi)
  have ik := idx_ge (0 : Int) (l := kp) (j := i) (by rw [h.lk]; exact hi)
  cases c1 : ge false rc i with
  | true =>
    exact ⟨m, way, rc, kp, by simp [F94, ir, c1], by simp [F60, ir, c1], h.lr, h.lk, h.ways, by omega⟩
  | false =>
    obtain ⟨P, hP⟩ : ∃ P : Nat → Bool, P = fun k => k != i := ⟨_, rfl⟩
    have rel : ∀ k, WRel id (sendM i P (0 : Int) k m) (sendW i P 0 k way) := fun k => send_rel h.ways i P (0 : Int) k
    have len := fun k => sendW_len i P 0 way k
    have l1 : whileM (F94_L0 ((n : Int), hv, m, rc, kp) (i : Int)) (m, 0) = some (.brk (sendM i P 0 n m)) := by
      have := while_upto (body := F94_L0 ((n : Int), hv, m, rc, kp) (i : Int)) (fun k => (sendM i P 0 k m, (k : Int))) n (c := .brk (sendM i P 0 n m)) (fun k hk => ?_) (by simp [F94_L0]) (by simp)
      · exact this
      · have hd : decide ((k : Int) < (n : Int)) = true := by rw [decide_eq_true_eq]; omega
        have hq := (rel k).len (i : Int) (k : Int)
        have hw := len k
        have hf := h.few
        by_cases e : k = i
        · have e1 : ((k : Int) != (i : Int)) = false := by simp [e]
          have e2 : P k = false := by rw [hP]; simp [e]
          simp only [F94_L0, hd, cond_true, e1, cond_false, Option.bind_some, w64_succ hk (by omega), sendM, e2, Bool.false_eq_true, if_false]
        · have e1 : ((k : Int) != (i : Int)) = true := by simp; omega
          have e2 : P k = true := by rw [hP]; simp [e]
          simp only [F94_L0, hd, cond_true, e1, Option.bind_some, w64_succ hk (by omega), sendM, e2, if_true, app1 8 (by decide) ((sendM i P 0 k m ((i : Int), (k : Int))).getD []) (0 : Int) (by omega)]
    have l2 : whileM (F60_L0 (i : Int) (n : Int)) (way, 0) = some (.brk (sendW i P 0 n way)) := by
      have := while_upto (body := F60_L0 (i : Int) (n : Int)) (fun k => (sendW i P 0 k way, (k : Int))) n (c := .brk (sendW i P 0 n way)) (fun k hk => ?_) (by simp [F60_L0]) (by simp)
      · exact this
      · have hd : decide ((k : Int) < (n : Int)) = true := by rw [decide_eq_true_eq]; omega
        have hw := len k
        have hf := h.few
        by_cases e : k = i
        · have e1 : ((k : Int) != (i : Int)) = false := by simp [e]
          have e2 : P k = false := by rw [hP]; simp [e]
          simp only [F60_L0, hd, cond_true, e1, cond_false, Option.bind_some, w64_succ hk (by omega), sendW, e2, Bool.false_eq_true, if_false]
        · have e1 : ((k : Int) != (i : Int)) = true := by simp; omega
          have e2 : P k = true := by rw [hP]; simp [e]
          simp only [F60_L0, hd, cond_true, e1, Option.bind_some, w64_succ hk (by omega), sendW, e2, if_true, app1 24 (by decide) (sendW i P 0 k way) ((i : Int), (k : Int), (0 : Int)) (by omega)]
    refine ⟨sendM i P 0 n m, sendW i P 0 n way, rc.set i true, kp.set i (ge 0 hv i), ?_, ?_, by rw [List.length_set]; exact h.lr, by rw [List.length_set]; exact h.lk, rel n, by have := len n; omega⟩
    · simp [F94, ir, ih, ik, c1, l1, Ctl.on]
    · simp [F60, ir, ih, ik, c1, l2, Ctl.on]
include hk hl
theorem kd : decide ((k : Int) < (l.length : Int)) = true := by rw [decide_eq_true_eq]; have := lt_of_get hk; omega
theorem wrongKind (c1 : (decide (x.1 < 1) || decide (x.1 > 3)) = true) : Both n k l hv m way rc c cl kp W x := by
  obtain ⟨r, hr⟩ : ∃ r, F61 way x.2.1 x.2.2.1 = some r := by
    rcases first_val way (by have := h.few; have := lt_of_get hk; omega) x.2.1 x.2.2.1 with ⟨_, q⟩ | ⟨_, _, q, _⟩ <;> exact ⟨_, q⟩
  refine ⟨6, hv, m, way, rc, c, cl, kp, W, by simp only [F59, c1, cond_true], fun cs hcs => ?_, h.up⟩
  simp only [F27_L1, kd h hn hk hl, idx_some hk, c1, hr, cond_true, Option.bind_some, app1 8 (by decide) cs 6 (by omega), w64_succ (lt_of_get hk) (by omega)]
omit hn hk hl h in
/-- Is it wrong? Both say the same. -/
theorem args {two : Bool} : ∃ bad : Bool, (∀ (α : Type) (K : Bool → Option α), (Option.bind (F92 x.2.1 (n : Int)) fun r11 => Option.bind (cond (r11) (some true) (Option.bind (cond two (Option.bind (F92 x.2.2.1 (n : Int)) fun r19 => some (r19 || (x.2.1 == x.2.2.1))) (some false)) fun b17 => some b17)) K) = K bad) ∧
    F57 (n : Int) (x.1, x.2.1, x.2.2.1, x.2.2.2) two = some (!bad) ∧ (bad = false → 0 ≤ x.2.1 ∧ x.2.1 < (n : Int) ∧ (two = true → 0 ≤ x.2.2.1 ∧ x.2.2.1 < (n : Int) ∧ x.2.2.1 ≠ x.2.1)) := by
  unfold F92 F57
  cases c : ((decide (x.2.1 < 0)) || (decide (x.2.1 ≥ (n : Int)))) with
  | true => exact ⟨true, by intro α K; simp, by simp, fun e => by cases e⟩
  | false =>
    simp only [Bool.or_eq_false_iff, decide_eq_false_iff_not] at c
    cases two with
    | false => exact ⟨false, by intro α K; simp, by simp, fun _ => ⟨by omega, by omega, fun e => by cases e⟩⟩
    | true =>
      refine ⟨((decide (x.2.2.1 < 0)) || (decide (x.2.2.1 ≥ (n : Int)))) || (x.2.1 == x.2.2.1), by intro α K; simp, ?_, fun e => ?_⟩
      · simp only [cond_false, Bool.not_true, Bool.false_or, Option.some.injEq]
        rw [Bool.eq_iff_iff]
        simp only [Bool.and_eq_true, decide_eq_true_eq, bne_iff_ne, Bool.not_eq_true', Bool.or_eq_false_iff, decide_eq_false_iff_not, beq_eq_false_iff_ne]
        omega
      · simp only [Bool.or_eq_false_iff, decide_eq_false_iff_not, beq_eq_false_iff_ne] at e
        exact ⟨by omega, by omega, fun _ => ⟨by omega, by omega, fun q => e.2 q.symm⟩⟩
theorem wrongArg (c1 : (decide (x.1 < 1) || decide (x.1 > 3)) = false) (a1 : ∀ (α : Type) (K : Bool → Option α), (Option.bind (F92 x.2.1 (n : Int)) fun r11 => Option.bind (cond (r11) (some true) (Option.bind (cond (x.1 != 3) (Option.bind (F92 x.2.2.1 (n : Int)) fun r19 => some (r19 || (x.2.1 == x.2.2.1))) (some false)) fun b17 => some b17)) K) = K true)
    (a2 : F57 (n : Int) (x.1, x.2.1, x.2.2.1, x.2.2.2) (x.1 != 3) = some false) : Both n k l hv m way rc c cl kp W x := by
  obtain ⟨r, hr⟩ : ∃ r, F61 way x.2.1 x.2.2.1 = some r := by
    rcases first_val way (by have := h.few; have := lt_of_get hk; omega) x.2.1 x.2.2.1 with ⟨_, q⟩ | ⟨_, _, q, _⟩ <;> exact ⟨_, q⟩
  refine ⟨2, hv, m, way, rc, c, cl, kp, W, ?_, fun cs hcs => ?_, h.up⟩
  · unfold F59
    simp only [c1, cond_false]
    rw [a1]; rfl
  · simp only [F27_L1, kd h hn hk hl, idx_some hk, c1, hr, a2, Bool.not_false, cond_true, cond_false, Option.bind_some, app1 8 (by decide) cs 2 (by omega), w64_succ (lt_of_get hk) (by omega)]
end
/-! What both do, when kind and places are good. -/
section
variable {n k : Nat} {hv : List Int} {m : Mp} {way : List Lt} {rc : List Bool} {c : Mb} {cl : List (List Bool)} {kp : List Int} {W : List (List Int)} {l : List Mv} {i j : Nat} {q t v : Int}
variable (h : Inv n k hv m way rc c cl kp W) (hn : n ≤ 6) (hk : l[k]? = some (q, (i : Int), t, v)) (hl : l.length ≤ 60) (hi : i < n) (c1 : (decide (q < 1) || decide (q > 3)) = false)
  (a1 : ∀ (α : Type) (K : Bool → Option α), (Option.bind (F92 (i : Int) (n : Int)) fun r11 => Option.bind (cond (r11) (some true) (Option.bind (cond (q != 3) (Option.bind (F92 t (n : Int)) fun r19 => some (r19 || ((i : Int) == t))) (some false)) fun b17 => some b17)) K) = K false)
  (a2 : F57 (n : Int) (q, (i : Int), t, v) (q != 3) = some true)
include h hn hk hl hi c1 a1 a2
theorem marks (hq : q = 3) : Both n k l hv m way rc c cl kp W (q, (i : Int), t, v) := by
  subst hq
  have f1 := lt_of_get hk
  have kd1 := kd h hn hk hl
  have few := h.few
  have ir := idx_ge false (l := rc) (j := i) (by rw [h.lr]; exact hi)
  obtain ⟨r, hr⟩ : ∃ r, F61 way (i : Int) t = some r := by
    rcases first_val way (by omega) (i : Int) t with ⟨_, q⟩ | ⟨_, _, q, _⟩ <;> exact ⟨_, q⟩
  cases e : ge false rc i with
  | true =>
    refine ⟨7, hv, m, way, rc, c, cl, kp, W, ?_, fun cs hcs => ?_, h.up⟩
    · unfold F59
      simp only [c1, cond_false]
      rw [a1]; simp [ir, e]
    · have ap := app1 8 (by decide) cs 7 (by omega)
      simp only [F27_L1, kd1, idx_some hk, c1, hr, a2, Bool.not_true, cond_true, cond_false, Option.bind_some, ap, w64_succ f1 (by omega), ir, e, beq_self_eq_true]
  | false =>
    obtain ⟨m', way', rc', kp', r1, r2, r3, r4, r5, r6⟩ := record h hn (by omega) hi
    refine ⟨0, hv, m', way', rc', c, cl, kp', W, ?_, fun cs hcs => ?_, { h.up with lr := r3, lk := r4, ways := r5, few := by omega }⟩
    · unfold F59
      simp only [c1, cond_false]
      rw [a1]; simp [ir, e, r1]
    · have ap := app1 8 (by decide) cs 0 (by omega)
      simp only [F27_L1, kd1, idx_some hk, c1, hr, a2, Bool.not_true, cond_true, cond_false, Option.bind_some, ap, w64_succ f1 (by omega), ir, e, beq_self_eq_true, r2]
theorem sends (hq : q = 1) (ht : t = (j : Int)) (hj : j < n) : Both n k l hv m way rc c cl kp W (q, (i : Int), t, v) := by
  subst hq; subst ht
  have f1 := lt_of_get hk
  have kd1 := kd h hn hk hl
  have few := h.few
  have ih := idx_ge (0 : Int) (l := hv) (j := i) (by rw [h.lh]; exact hi)
  obtain ⟨r, hr⟩ : ∃ r, F61 way (i : Int) (j : Int) = some r := by
    rcases first_val way (by omega) (i : Int) (j : Int) with ⟨_, q⟩ | ⟨_, _, q, _⟩ <;> exact ⟨_, q⟩
  have n13 : ((1 : Int) == 3) = false := rfl
  have n12 : ((1 : Int) == 2) = false := rfl
  by_cases e : v < 1 ∨ v > ge 0 hv i
  · refine ⟨4, hv, m, way, rc, c, cl, kp, W, ?_, fun cs hcs => ?_, h.up⟩
    · unfold F59
      simp only [c1, cond_false]
      rw [a1]
      by_cases e1 : v < 1
      · simp [n13, n12, e1]
      · simp [n13, n12, e1, ih, e.resolve_left e1]
    · have ap := app1 8 (by decide) cs 4 (by omega)
      by_cases e1 : v < 1
      · simp only [F27_L1, kd1, idx_some hk, c1, hr, a2, Bool.not_true, cond_true, cond_false, Option.bind_some, ap, w64_succ f1 (by omega), n13, n12, Bool.false_and, decide_eq_true e1]
      · simp only [F27_L1, kd1, idx_some hk, c1, hr, a2, Bool.not_true, cond_true, cond_false, Option.bind_some, ap, w64_succ f1 (by omega), n13, n12, Bool.false_and, decide_eq_false e1, ih, decide_eq_true (e.resolve_left e1)]
  · have e1 : ¬ v < 1 := fun q => e (.inl q)
    have e2 : ¬ v > ge 0 hv i := fun q => e (.inr q)
    have hq := h.ways.len (i : Int) (j : Int)
    have ap2 := app1 8 (by decide) ((m ((i : Int), (j : Int))).getD []) v (by omega)
    refine ⟨0, hv.set i (w64 (ge 0 hv i - v)), mupd m ((i : Int), (j : Int)) ((m ((i : Int), (j : Int))).getD [] ++ [v]), way ++ [((i : Int), (j : Int), v)], rc, c, cl, kp, W, ?_, fun cs hcs => ?_, { h.up with lh := by rw [List.length_set]; exact h.lh, ways := h.ways.send (i : Int) (j : Int) v, few := by simp; omega }⟩
    · unfold F59
      simp only [c1, cond_false]
      rw [a1]
      simp [n13, n12, e1, ih, ap2, e2]
    · have ap := app1 8 (by decide) cs 0 (by omega)
      have ap3 := app1 24 (by decide) way ((i : Int), (j : Int), v) (by omega)
      simp only [F27_L1, kd1, idx_some hk, c1, hr, a2, Bool.not_true, cond_true, cond_false, Option.bind_some, ap, w64_succ f1 (by omega), n13, n12, Bool.false_and, decide_eq_false e1, ih, decide_eq_false e2, ap3, Int.toNat_natCast]
theorem takes (hq : q = 2) (ht : t = (j : Int)) (hj : j < n) (hij : j ≠ i) : Both n k l hv m way rc c cl kp W (q, (i : Int), t, v) := by
  subst hq; subst ht
  have f1 := lt_of_get hk
  have kd1 := kd h hn hk hl
  have few := h.few
  have n23 : ((2 : Int) == 3) = false := rfl
  rcases first_val way (by omega) (i : Int) (j : Int) with ⟨g1, g2⟩ | ⟨p, y, g1, g2, g3, g4, g5⟩
  · -- nothing is on the way
    have hm := (h.ways.none_iff (i : Int) (j : Int)).2 g1
    refine ⟨5, hv, m, way, rc, c, cl, kp, W, ?_, fun cs hcs => ?_, h.up⟩
    · unfold F59 F93
      simp only [c1, cond_false]
      rw [a1]; simp [hm]
    · have ap := app1 8 (by decide) cs 5 (by omega)
      simp only [F27_L1, kd1, idx_some hk, c1, g2, a2, Bool.not_true, cond_true, cond_false, Option.bind_some, ap, w64_succ f1 (by omega), n23, beq_self_eq_true, Bool.true_and, show decide ((-1 : Int) < 0) = true from rfl]
  · obtain ⟨z, zs, hm⟩ : ∃ z zs, (m ((i : Int), (j : Int))).getD [] = z :: zs := by
      cases e : (m ((i : Int), (j : Int))).getD [] with
      | nil => have := (h.ways.none_iff (i : Int) (j : Int)).1 e; rw [g4] at this; cases this
      | cons z zs => exact ⟨z, zs, rfl⟩
    obtain ⟨ex, rel⟩ := h.ways.take hm g4 g5
    have ex' : y = z := ex
    subst ex'
    have hw := without_val (by omega) g2
    have ig := idx_some g3
    have gp : decide (((p : Int)) < 0) = false := by simp
    have hml : (((m ((i : Int), (j : Int))).getD []).length : Int) = (zs.length : Int) + 1 := by rw [hm]; simp
    have hne : ((((m ((i : Int), (j : Int))).getD []).length : Int) == 0) = false := by rw [hml]; simp; omega
    have hs : slI (y :: zs) 1 ((y :: zs).length : Int) = some zs := by
      unfold slI; rw [if_pos ⟨by omega, by simp only [List.length_cons]; omega, by omega⟩]; simp
    have i0 : idx (y :: zs) 0 = some y := by simp [idx]
    have wl : (way.eraseIdx p).length ≤ way.length := by rw [List.length_eraseIdx]; split <;> omega
    by_cases ez : y = 0
    · -- a mark
      subst ez
      have h2 : Inv n k hv (mupd m ((i : Int), (j : Int)) zs) (way.eraseIdx p) rc c cl kp W := { h with ways := rel, few := by omega }
      obtain ⟨m', way', rc', kp', r1, r2, r3, r4, r5, r6⟩ := record h2 hn (by omega) hj
      have icl := idx_ge ([] : List Bool) (l := cl) (j := i) (by rw [h.lc]; exact hi)
      have icj := idx_ge false (l := gC cl i) (j := j) (by rw [h.rcl i hi]; exact hj)
      have hil : i < cl.length := by rw [h.lc]; exact hi
      have hjl : j < (gC cl i).length := by rw [h.rcl i hi]; exact hj
      refine ⟨0, hv, m', way', rc', mupd c ((i : Int), (j : Int)) true, cl.set i ((gC cl i).set j true), kp', W, ?_, fun cs hcs => ?_, { h.up with lr := r3, lk := r4, ways := r5, few := by omega, lc := by rw [List.length_set]; exact h.lc, rcl := fun a ha => ?_, cl := fun a b ha hb => ?_, ck := fun a v ha => ?_, cf := ?_ }⟩
      · unfold F59 F93
        simp only [c1, cond_false]
        rw [a1]
        have hne' : (((zs.length : Int) + 1) == 0) = false := by rw [← hml]; exact hne
        simp [hm, hne', hs, i0, r1]
        simp at hs; simp [hs, r1]
      · have ap := app1 8 (by decide) cs 0 (by omega)
        simp only [F27_L1, kd1, idx_some hk, c1, g1, a2, Bool.not_true, cond_true, cond_false, Option.bind_some, ap, w64_succ f1 (by omega), n23, beq_self_eq_true, Bool.true_and, gp, ig, hw, r2, icl, icj, Int.toNat_natCast]
      · rw [gC, ge_set hil]
        by_cases e : a = i
        · rw [if_pos e, List.length_set]; exact h.rcl i hi
        · rw [if_neg e]; exact h.rcl a ha
      · rw [gC, ge_set hil]
        unfold mupd
        by_cases e : a = i
        · subst e
          rw [if_pos rfl, gb, ge_set hjl]
          by_cases e2 : b = j
          · subst e2; simp
          · have : ¬ (((a : Int), (b : Int)) = ((a : Int), (j : Int))) := by simp; omega
            rw [if_neg this, if_neg e2]; exact h.cl a b ha hb
        · have : ¬ (((a : Int), (b : Int)) = ((i : Int), (j : Int))) := by simp; omega
          rw [if_neg this, if_neg e]; exact h.cl a b ha hb
      · unfold mupd at ha
        by_cases e : a = ((i : Int), (j : Int))
        · rw [if_pos e] at ha; exact ⟨(Option.some.inj ha).symm, i, j, hi, hj, hij, e⟩
        · rw [if_neg e] at ha; exact h.ck a v ha
      · obtain ⟨pp, hpp⟩ := h.cf; exact ⟨_, hpp.upd _ _⟩
    · -- a value
      have ih := idx_ge (0 : Int) (l := hv) (j := j) (by rw [h.lh]; exact hj)
      have ir := idx_ge false (l := rc) (j := j) (by rw [h.lr]; exact hj)
      have icl := idx_ge ([] : List Bool) (l := cl) (j := i) (by rw [h.lc]; exact hi)
      have icj := idx_ge false (l := gC cl i) (j := j) (by rw [h.rcl i hi]; exact hj)
      have iW := idx_ge ([] : List Int) (l := W) (j := i) (by rw [h.lw]; exact hi)
      have iWj := idx_ge (0 : Int) (l := gW W i) (j := j) (by rw [h.rw i hi]; exact hj)
      have hiW : i < W.length := by rw [h.lw]; exact hi
      have ezb : (y == 0) = false := by simpa using ez
      have hcl : (c ((i : Int), (j : Int))).getD false = ge false (gC cl i) j := h.cl i j hi hj
      have hne' : (((zs.length : Int) + 1) == 0) = false := by rw [← hml]; exact hne
      have hs' := hs
      simp only [List.length_cons, Int.natCast_add, Int.cast_ofNat_Int] at hs'
      cases e : (ge false rc j && !(ge false (gC cl i) j)) with
      | true =>
        have e' := e
        simp only [Bool.and_eq_true, Bool.not_eq_true'] at e'
        refine ⟨0, hv.set j (w64 (ge 0 hv j + y)), mupd m ((i : Int), (j : Int)) zs, way.eraseIdx p, rc, c, cl, kp, W.set i ((gW W i).set j (w64 (ge 0 (gW W i) j + y))), ?_, fun cs hcs => ?_, { h.up with lh := by rw [List.length_set]; exact h.lh, ways := rel, few := by omega, lw := by rw [List.length_set]; exact h.lw, rw := fun a ha => ?_ }⟩
        · unfold F59 F93
          simp only [c1, cond_false]
          rw [a1]
          simp [hm, hne', i0, ezb, ih, ir, hcl, e'.1, e'.2, iW, iWj]
          simp at hs; simp [hs]
        · have ap := app1 8 (by decide) cs 0 (by omega)
          simp only [F27_L1, kd1, idx_some hk, c1, g1, a2, Bool.not_true, cond_true, cond_false, Option.bind_some, ap, w64_succ f1 (by omega), n23, beq_self_eq_true, Bool.true_and, gp, ig, hw, ezb, ih, ir, e'.1, icl, icj, e'.2, Bool.not_false, iW, iWj, Int.toNat_natCast]
        · rw [gW, ge_set hiW]
          by_cases e : a = i
          · rw [if_pos e, List.length_set]; exact h.rw i hi
          · rw [if_neg e]; exact h.rw a ha
      | false =>
        refine ⟨0, hv.set j (w64 (ge 0 hv j + y)), mupd m ((i : Int), (j : Int)) zs, way.eraseIdx p, rc, c, cl, kp, W, ?_, fun cs hcs => ?_, { h.up with lh := by rw [List.length_set]; exact h.lh, ways := rel, few := by omega }⟩
        · unfold F59 F93
          simp only [c1, cond_false]
          rw [a1]
          simp [hm, hne', i0, ezb, ih, ir, hcl, e]
          simp at hs; simp [hs]
        · have ap := app1 8 (by decide) cs 0 (by omega)
          cases e3 : ge false rc j with
          | false => simp only [F27_L1, kd1, idx_some hk, c1, g1, a2, Bool.not_true, cond_true, cond_false, Option.bind_some, ap, w64_succ f1 (by omega), n23, beq_self_eq_true, Bool.true_and, gp, ig, hw, ezb, ih, ir, e3, Int.toNat_natCast]
          | true =>
            rw [e3] at e
            simp only [Bool.true_and, Bool.not_eq_false'] at e
            simp only [F27_L1, kd1, idx_some hk, c1, g1, a2, Bool.not_true, cond_true, cond_false, Option.bind_some, ap, w64_succ f1 (by omega), n23, beq_self_eq_true, Bool.true_and, gp, ig, hw, ezb, ih, ir, e3, icl, icj, e, Int.toNat_natCast]
end

/-! All moves. -/
theorem move {n k : Nat} {hv : List Int} {m : Mp} {way : List Lt} {rc : List Bool} {c : Mb} {cl : List (List Bool)} {kp : List Int} {W : List (List Int)} {l : List Mv} {x : Mv} (h : Inv n k hv m way rc c cl kp W) (hn : n ≤ 6) (hk : l[k]? = some x) (hl : l.length ≤ 60) : Both n k l hv m way rc c cl kp W x := by
  cases c1 : (decide (x.1 < 1) || decide (x.1 > 3)) with
  | true => exact wrongKind h hn hk hl c1
  | false =>
    obtain ⟨bad, a1, a2, a3⟩ := args (n := n) (x := x) (two := (x.1 != 3))
    cases bad with
    | true => exact wrongArg h hn hk hl c1 a1 a2
    | false =>
      obtain ⟨b1, b2, b3⟩ := a3 rfl
      obtain ⟨q, a, t, v⟩ := x
      simp only at b1 b2 b3 a1 a2 c1
      obtain ⟨i, rfl⟩ := nat_of b1
      have hi : i < n := by omega
      have hq : q = 1 ∨ q = 2 ∨ q = 3 := by
        have := c1
        simp only [Bool.or_eq_false_iff, decide_eq_false_iff_not] at this
        omega
      rcases hq with rfl | rfl | rfl
      · obtain ⟨b4, b5, b6⟩ := b3 rfl
        obtain ⟨j, rfl⟩ := nat_of b4
        exact sends h hn hk hl hi c1 a1 a2 rfl rfl (by omega)
      · obtain ⟨b4, b5, b6⟩ := b3 rfl
        obtain ⟨j, rfl⟩ := nat_of b4
        exact takes h hn hk hl hi c1 a1 a2 rfl rfl (by omega) (by omega)
      · exact marks h hn hk hl hi c1 a1 a2 rfl
theorem run_both {n : Nat} {l : List Mv} (hn : n ≤ 6) (hl : l.length ≤ 60) : ∀ (r k : Nat), k + r = l.length → ∀ {cs : List Int} {hv : List Int} {m : Mp} {way : List Lt} {rc : List Bool} {c : Mb} {cl : List (List Bool)} {kp : List Int} {W : List (List Int)},
    cs.length = k → Inv n k hv m way rc c cl kp W →
    ∃ (cs' : List Int) (hv' : List Int) (m' : Mp) (way' : List Lt) (rc' : List Bool) (c' : Mb) (cl' : List (List Bool)) (kp' : List Int) (W' : List (List Int)),
      whileM (F26_L1 l) (m, c, cs, kp, W, hv, rc, (n : Int), (k : Int)) = some (.brk (m', c', cs', kp', W', hv', rc', (n : Int))) ∧
      whileM (F27_L1 (n : Int) l) (way, rc, hv, cs, W, cl, kp, (k : Int)) = some (.brk (way', rc', hv', cs', W', cl', kp')) ∧
      cs'.length = l.length ∧ Inv n l.length hv' m' way' rc' c' cl' kp' W' := by
  intro r
  induction r with
  | zero =>
    intro k hk cs hv m way rc c cl kp W hcs h
    obtain rfl : k = l.length := by omega
    exact ⟨_, _, _, _, _, _, _, _, _, whileM_brk (by simp [F26_L1]), whileM_brk (by simp [F27_L1]), hcs, h⟩
  | succ r ih =>
    intro k hk cs hv m way rc c cl kp W hcs h
    have hlt : k < l.length := by omega
    have hg : l[k]? = some l[k] := List.getElem?_eq_getElem hlt
    obtain ⟨e, hv1, m1, way1, rc1, c1, cl1, kp1, W1, r1, r2, r3⟩ := move h hn hg hl
    have n1 : F26_L1 l (m, c, cs, kp, W, hv, rc, (n : Int), (k : Int)) = some (.nxt (m1, c1, cs ++ [e], kp1, W1, hv1, rc1, (n : Int), ((k + 1 : Nat) : Int))) := by
      have hd : decide ((k : Int) < (l.length : Int)) = true := by rw [decide_eq_true_eq]; omega
      simp only [F26_L1, hd, cond_true, idx_some hg, Option.bind_some, r1, app1 8 (by decide) cs e (by omega), w64_succ hlt (by omega)]
    obtain ⟨cs', hv', m', way', rc', c', cl', kp', W', w1, w2, w3, w4⟩ := ih (k + 1) (by omega) (cs := cs ++ [e]) (by simp [hcs]) r3
    exact ⟨cs', hv', m', way', rc', c', cl', kp', W', by rw [whileM_nxt n1]; exact w1, by rw [whileM_nxt (r2 cs (by omega))]; exact w2, w3, w4⟩
theorem rep_set {α : Type} {n k : Nat} (hk : k < n) (a b : α) : (List.replicate k a ++ List.replicate (n - k) b).set k a = List.replicate (k + 1) a ++ List.replicate (n - (k + 1)) b := by
  have hs : n - k = (n - (k + 1)) + 1 := by omega
  rw [hs, List.replicate_succ, List.set_append_right _ _ (by simp)]
  simp [List.replicate_succ']
theorem rep_idx {α : Type} {n k : Nat} (hk : k < n) (a b : α) : idx (List.replicate k a ++ List.replicate (n - k) b) (k : Int) = some b :=
  idx_some (by rw [List.getElem?_append_right (by simp), List.length_replicate, Nat.sub_self, List.getElem?_replicate, if_pos (by omega)])
theorem begin1 {n : Nat} (hn : n ≤ 6) : whileM (F26_L0 (n : Int)) (List.replicate n [], List.replicate n 0, 0) = some (.brk (List.replicate n (List.replicate n 0), List.replicate n 100)) := by
  have h := while_upto (body := F26_L0 (n : Int)) (fun k => (List.replicate k (List.replicate n (0 : Int)) ++ List.replicate (n - k) [], List.replicate k (100 : Int) ++ List.replicate (n - k) 0, (k : Int))) n (c := .brk (List.replicate n (List.replicate n 0), List.replicate n 100)) (fun k hk => ?_) (by simp [F26_L0]) (by simp)
  · simpa using h
  · have hd : decide ((k : Int) < (n : Int)) = true := by rw [decide_eq_true_eq]; omega
    simp only [F26_L0, hd, cond_true, rep_idx hk, mkl_rep hn (show 8 ≤ 128 by decide), Option.bind_some, Int.toNat_natCast, rep_set hk, w64_succ hk (by omega)]
theorem begin2 {n : Nat} (hn : n ≤ 6) : whileM (F27_L0 (n : Int)) ([], List.replicate n [], List.replicate n 0, 0) = some (.brk (List.replicate n (List.replicate n 0), List.replicate n (List.replicate n false), List.replicate n 100)) := by
  have h := while_upto (body := F27_L0 (n : Int)) (fun k => (List.replicate k (List.replicate n (0 : Int)), List.replicate k (List.replicate n false) ++ List.replicate (n - k) [], List.replicate k (100 : Int) ++ List.replicate (n - k) 0, (k : Int))) n (c := .brk (List.replicate n (List.replicate n 0), List.replicate n (List.replicate n false), List.replicate n 100)) (fun k hk => ?_) (by simp [F27_L0]) (by simp)
  · simpa using h
  · have hd : decide ((k : Int) < (n : Int)) = true := by rw [decide_eq_true_eq]; omega
    simp only [F27_L0, hd, cond_true, rep_idx hk, mkl_rep hn (show 8 ≤ 128 by decide), mkl_rep hn (show 1 ≤ 128 by decide), Option.bind_some, Int.toNat_natCast, rep_set hk, w64_succ hk (by omega), app1 24 (by decide) (List.replicate k (List.replicate n (0 : Int))) (List.replicate n 0) (by simp; omega), ← List.replicate_succ']
theorem done1 (rc : List Bool) (hl : rc.length ≤ 60) (b0 : Bool) : whileM (F26_L2 rc) (b0, 0) = some (.brk (b0 && rc.all id)) := by
  have h := while_upto (body := F26_L2 rc) (fun k => (b0 && (rc.take k).all id, (k : Int))) rc.length (c := .brk (b0 && rc.all id)) (fun k hk => ?_) (by simp [F26_L2]) (by simp)
  · simpa using h
  · have hd : decide ((k : Int) < (rc.length : Int)) = true := by rw [decide_eq_true_eq]; omega
    have hg : rc[k]? = some rc[k] := List.getElem?_eq_getElem hk
    simp only [F26_L2, hd, cond_true, idx_some hg, Option.bind_some, w64_succ hk (by omega), take_succ' hk, List.all_append, List.all_cons, List.all_nil, Bool.and_true, id, Bool.and_assoc]
def pj (rc : List Bool) (cl : List (List Bool)) (i j : Nat) : Bool := ge false rc i && ((i == j) || ge false (ge [] cl i) j)
theorem done3 {n : Nat} (hn : n ≤ 6) {rc : List Bool} {cl : List (List Bool)} (h1 : rc.length = n) (h2 : cl.length = n) (h3 : ∀ i, i < n → (ge [] cl i).length = n) (b0 : Bool) {i : Nat} (hi : i < n) : whileM (F27_L3 (n : Int) rc cl (i : Int)) (b0, 0) = some (.brk (b0 && (List.range n).all (pj rc cl i))) := by
  have h := while_upto (body := F27_L3 (n : Int) rc cl (i : Int)) (fun k => (b0 && (List.range k).all (pj rc cl i), (k : Int))) n (c := .brk (b0 && (List.range n).all (pj rc cl i))) (fun k hk => ?_) (by simp [F27_L3]) (by simp)
  · simpa using h
  · have hd : decide ((k : Int) < (n : Int)) = true := by rw [decide_eq_true_eq]; omega
    have ir := idx_ge false (l := rc) (j := i) (by omega)
    have ic := idx_ge ([] : List Bool) (l := cl) (j := i) (by omega)
    have ij := idx_ge false (l := ge [] cl i) (j := k) (by rw [h3 i hi]; exact hk)
    have eb : ((i : Int) == (k : Int)) = (i == k) := by
      rw [Bool.eq_iff_iff]; simp only [beq_iff_eq]; omega
    simp only [F27_L3, hd, cond_true, List.range_succ, List.all_append, List.all_cons, List.all_nil, Bool.and_true]
    have e : (b0 && ((List.range k).all (pj rc cl i) && pj rc cl i k)) = ((b0 && (List.range k).all (pj rc cl i)) && pj rc cl i k) := (Bool.and_assoc _ _ _).symm
    rw [e]
    generalize (b0 && (List.range k).all (pj rc cl i)) = b
    unfold pj
    cases b with
    | false => simp [w64_succ hk (by omega : n ≤ 9223372036854775807)]
    | true =>
      cases c1 : ge false rc i with
      | false => simp [ir, c1, w64_succ hk (by omega : n ≤ 9223372036854775807)]
      | true =>
        cases c2 : (i == k) with
        | true => simp only [ir, c1, eb, c2, cond_true, Option.bind_some, w64_succ hk (by omega : n ≤ 9223372036854775807), Bool.true_or, Bool.and_true]
        | false => simp only [ir, c1, eb, c2, ic, ij, cond_true, cond_false, Option.bind_some, w64_succ hk (by omega : n ≤ 9223372036854775807), Bool.false_or, Bool.true_and]
theorem done2 {n : Nat} (hn : n ≤ 6) {rc : List Bool} {cl : List (List Bool)} (h1 : rc.length = n) (h2 : cl.length = n) (h3 : ∀ i, i < n → (ge [] cl i).length = n) : whileM (F27_L2 (n : Int) rc cl) (true, 0) = some (.brk ((List.range n).all fun i => (List.range n).all (pj rc cl i))) := by
  have h := while_upto (body := F27_L2 (n : Int) rc cl) (fun k => ((List.range k).all fun i => (List.range n).all (pj rc cl i), (k : Int))) n (c := .brk ((List.range n).all fun i => (List.range n).all (pj rc cl i))) (fun k hk => ?_) (by simp [F27_L2]) (by simp)
  · simpa using h
  · have hd : decide ((k : Int) < (n : Int)) = true := by rw [decide_eq_true_eq]; omega
    simp only [F27_L2, hd, cond_true, done3 hn h1 h2 h3 _ hk, Option.bind_some, Ctl.on, w64_succ hk (by omega), List.range_succ, List.all_append, List.all_cons, List.all_nil, Bool.and_true]
theorem done_same {n k : Nat} {hv : List Int} {m : Mp} {way : List Lt} {rc : List Bool} {c : Mb} {cl : List (List Bool)} {kp : List Int} {W : List (List Int)} (h : Inv n k hv m way rc c cl kp W) (hn : n ≤ 6) (h1 : 1 ≤ n) :
    (((mlen c : Int) == (w64 ((n : Int) * (w64 ((n : Int) - 1))))) && rc.all id) = ((List.range n).all fun i => (List.range n).all (pj rc cl i)) := by
  obtain ⟨p, hp⟩ := h.cf
  have hw : w64 ((n : Int) * (w64 ((n : Int) - 1))) = ((n * (n - 1) : Nat) : Int) := by
    rw [w64i (x := (n : Int) - 1) (by omega) (by omega)]
    have e : (n : Int) * ((n : Int) - 1) = ((n * (n - 1) : Nat) : Int) := by
      rw [Int.natCast_mul, Int.natCast_sub h1]; rfl
    have : n * (n - 1) ≤ 6 * 5 := Nat.mul_le_mul hn (by omega)
    rw [e]; exact w64i (by omega) (by omega)
  rw [hw, mlen_of hp]
  obtain ⟨pl, pn⟩ := pairs_len hn
  have hkeys : ∀ a ∈ p.map (·.1), a ∈ (pairs n).map (fun q : Nat × Nat => ((q.1 : Int), (q.2 : Int))) := by
    intro a ha
    obtain ⟨x, hx, rfl⟩ := List.mem_map.1 ha
    obtain ⟨_, i, j, h1, h2, h3, e⟩ := h.ck x.1 x.2 ((hp.2 x.1 x.2).1 hx)
    exact List.mem_map.2 ⟨(i, j), pairs_mem.2 ⟨h1, h2, h3⟩, e.symm⟩
  have hcount : (p.length = n * (n - 1)) ↔ ∀ i j, i < n → j < n → j ≠ i → ge false (ge [] cl i) j = true := by
    constructor
    · intro e i j hi hj hij
      have := same_len hp.1 hkeys (by rw [List.length_map, List.length_map, pl, e]; exact Nat.le_refl _) ((i : Int), (j : Int)) (List.mem_map.2 ⟨(i, j), pairs_mem.2 ⟨hi, hj, hij⟩, rfl⟩)
      obtain ⟨x, hx, ex⟩ := List.mem_map.1 this
      have hc := (hp.2 x.1 x.2).1 hx
      have := (h.ck x.1 x.2 hc).1
      rw [ex, this] at hc
      have h2 := h.cl i j hi hj
      rw [hc] at h2
      exact h2.symm
    · intro all
      have le1 : p.length ≤ n * (n - 1) := by
        have := nodup_len (p := p.map (·.1)) hp.1 hkeys
        rw [List.length_map, List.length_map, pl] at this; exact this
      have le2 : n * (n - 1) ≤ p.length := by
        have : (((pairs n).map (fun q : Nat × Nat => ((q.1 : Int), (q.2 : Int)))).length) ≤ (p.map (·.1)).length := by
          refine nodup_len ?_ ?_
          · exact List.Pairwise.map _ (fun a b hab e => hab (by obtain ⟨e1, e2⟩ := Prod.mk.inj e; exact Prod.ext (by exact_mod_cast e1) (by exact_mod_cast e2))) pn
          · intro x hx
            obtain ⟨⟨i, j⟩, hq, rfl⟩ := List.mem_map.1 hx
            obtain ⟨a1, a2, a3⟩ := pairs_mem.1 hq
            have h2 := h.cl i j a1 a2
            have h3 := all i j a1 a2 a3
            simp only [gb, gC] at h2
            rw [h3] at h2
            cases e : c ((i : Int), (j : Int)) with
            | none => rw [e] at h2; cases h2
            | some v => exact List.mem_map.2 ⟨_, (hp.2 _ _).2 e, rfl⟩
        rw [List.length_map, List.length_map, pl] at this; exact this
      omega
  rw [Bool.eq_iff_iff]
  simp only [Bool.and_eq_true, beq_iff_eq, List.all_eq_true, List.mem_range, id, pj, Bool.or_eq_true]
  have hc1 : ((p.length : Int) = ((n * (n - 1) : Nat) : Int)) ↔ p.length = n * (n - 1) := by omega
  rw [hc1, hcount]
  constructor
  · rintro ⟨a1, a2⟩ i hi j hj
    refine ⟨a2 _ ?_, ?_⟩
    · exact List.mem_of_getElem? (get_ge false (by rw [h.lr]; exact hi))
    · by_cases e : i = j
      · exact .inl e
      · exact .inr (a1 i j hi hj (fun q => e q.symm))
  · intro a
    refine ⟨fun i j hi hj hij => ((a i hi j hj).2).resolve_left (fun q => hij q.symm), fun x hx => ?_⟩
    obtain ⟨i, hi⟩ := List.getElem?_of_mem hx
    have hlt := (List.getElem?_eq_some_iff.1 hi).1
    rw [h.lr] at hlt
    have := (a i hlt i hlt).1
    rw [get_ge false (by rw [h.lr]; exact hlt)] at hi
    rw [← Option.some.inj hi]; exact this
theorem law_SnapPlays (x0 : Int) (b0 : -9223372036854775808 ≤ x0 ∧ x0 ≤ 9223372036854775807) (x1 : List Mv) (l1 : x1.length ≤ 9223372036854775807) (w1 : ∀ x ∈ x1, (-9223372036854775808 ≤ x.1 ∧ x.1 ≤ 9223372036854775807) ∧ (-9223372036854775808 ≤ x.2.1 ∧ x.2.1 ≤ 9223372036854775807) ∧ (-9223372036854775808 ≤ x.2.2.1 ∧ x.2.2.1 ≤ 9223372036854775807) ∧ (-9223372036854775808 ≤ x.2.2.2 ∧ x.2.2.2 ≤ 9223372036854775807)) :
    F6 x0 x1 = some true := by
  cases c : (((decide (x0 < 1)) || (decide (x0 > 6))) || (decide ((x1.length : Int) > 60))) with
  | true =>
    have h1 := same_codes [] (by simp)
    have h2 := same_lists [] (by simp) (by simp)
    have h3 := same_ints [] (by simp)
    simp [F6, F26, F21, c, h1, h2, h3]
  | false =>
    have c' := c
    simp only [Bool.or_eq_false_iff, decide_eq_false_iff_not] at c'
    obtain ⟨n, rfl⟩ := nat_of (a := x0) (by omega)
    have hn : n ≤ 6 := by omega
    have hl : x1.length ≤ 60 := by omega
    have I : Inv n 0 (List.replicate n 100) mzero [] (List.replicate n false) mzero (List.replicate n (List.replicate n false)) (List.replicate n 0) (List.replicate n (List.replicate n 0)) := by
      refine ⟨by simp, by simp, by simp, by simp, by simp, fun i hi => ?_, fun i hi => ?_, WRel.zero, by simp, fun i j hi hj => ?_, fun a v ha => (by cases ha), ⟨_, Enum.zero⟩⟩
      · rw [gW, ge_rep _ _ hi]; simp
      · rw [gC, ge_rep _ _ hi]; simp
      · rw [gC, ge_rep _ _ hi, gb, ge_rep _ _ hj]; rfl
    obtain ⟨cs', hv', m', way', rc', c', cl', kp', W', r1, r2, r3, r4⟩ := run_both hn hl x1.length 0 (by omega) (cs := []) rfl I
    have m8 := mkl_rep hn (show 8 ≤ 128 by decide) (0 : Int)
    have m1 := mkl_rep hn (show 1 ≤ 128 by decide) false
    have m24 := mkl_rep hn (show 24 ≤ 128 by decide) ([] : List Int)
    have m24b := mkl_rep hn (show 24 ≤ 128 by decide) ([] : List Bool)
    have eF26 : F26 (n : Int) x1 = some ((cs', (List.range n).all (fun i => (List.range n).all (pj rc' cl' i)), kp', W'), 0) := by
      have r1' : whileM (F26_L1 x1) (mzero, mzero, [], List.replicate n 0, List.replicate n (List.replicate n 0), List.replicate n 100, List.replicate n false, (n : Int), 0) = some (.brk (m', c', cs', kp', W', hv', rc', (n : Int))) := r1
      simp only [F26, c, cond_false, m8, m1, m24, Option.bind_some, begin1 hn, r1', Ctl.on, done1 rc' (by rw [r4.lr]; omega), done_same r4 hn (by omega)]
    have eF27 : F27 (n : Int) x1 = some (cs', (List.range n).all (fun i => (List.range n).all (pj rc' cl' i)), kp', W') := by
      have r2' : whileM (F27_L1 (n : Int) x1) ([], List.replicate n false, List.replicate n 100, [], List.replicate n (List.replicate n 0), List.replicate n (List.replicate n false), List.replicate n 0, 0) = some (.brk (way', rc', hv', cs', W', cl', kp')) := r2
      simp only [F27, m8, m1, m24b, Option.bind_some, begin2 hn, r2', Ctl.on, done2 hn r4.lr r4.lc r4.rcl]
    have h1 := same_codes cs' (by omega)
    have h2 := same_lists W' (by rw [r4.lw]; omega) (fun y hy => by
      obtain ⟨i, hi⟩ := List.getElem?_of_mem hy
      have hlt := (List.getElem?_eq_some_iff.1 hi).1
      rw [r4.lw] at hlt
      have := r4.rw i hlt
      rw [get_ge [] (by rw [r4.lw]; exact hlt)] at hi
      rw [← Option.some.inj hi]; rw [this]; omega)
    have h3 := same_ints kp' (by rw [r4.lk]; omega)
    have eF21 : F21 (n : Int) (x1.length : Int) = some 0 := by simp only [F21, c, cond_false]
    simp [F6, eF26, eF27, eF21, h1, h2, h3]
end Go.Proofs.Ythfkdepcnhhepaa
