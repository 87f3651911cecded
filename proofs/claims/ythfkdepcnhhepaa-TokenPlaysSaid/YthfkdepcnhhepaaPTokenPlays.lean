/-
  The plain law of TokenPlays.
-/
import Derived.Test.YthfkdepcnhhepaaYM
import Derived.Test.YthfkdepcnhhepaaPWays
namespace Go.Proofs.Ythfkdepcnhhepaa
open Go Go.Bk
set_option linter.unusedVariables false
set_option linter.unusedSimpArgs false
set_option linter.unusedSectionVars false

abbrev Mq := Int × Int → Option (List Bool)
/-- The token's letter is 1. -/
def e1 (b : Bool) : Int := cond b 1 0
def toks (way : List Lt) : Nat := way.countP fun l => l.2.2 == 1
theorem toks_app (way : List Lt) (l : Lt) : toks (way ++ [l]) = toks way + (if l.2.2 = 1 then 1 else 0) := by
  unfold toks; rw [List.countP_append, List.countP_cons, List.countP_nil]; simp
theorem toks_erase : ∀ {way : List Lt} {p : Nat} {l : Lt}, way[p]? = some l → toks (way.eraseIdx p) + (if l.2.2 = 1 then 1 else 0) = toks way
  | [], p, l, h => by cases h
  | x :: way, 0, l, h => by
    obtain rfl : x = l := by simpa using h
    unfold toks; rw [List.eraseIdx_cons_zero, List.countP_cons]; simp
  | x :: way, p + 1, l, h => by
    have ih := toks_erase (way := way) (p := p) (l := l) (by simpa using h)
    unfold toks at ih ⊢
    rw [List.eraseIdx_cons_succ, List.countP_cons, List.countP_cons]
    omega
theorem sl_tail {α : Type} (y : α) (zs : List α) : slI (y :: zs) 1 ((y :: zs).length : Int) = some zs := by
  unfold slI
  rw [if_pos ⟨by omega, by simp; omega, by simp⟩]
  simp
structure Inv (n r l : Nat) (P : List Int) (R : List (List Int)) (h g : Int) (m : Mq) (way : List Lt) (H N : List Bool) : Prop where
  lp : P.length = n
  lr : R.length = n
  lh : H.length = n
  ln : N.length = n
  hh : ∀ i, i < n → ge false H i = decide (h = (i : Int))
  nn : ∀ i, i < n → ge false N i = decide (g = (i : Int))
  rel : WRel e1 m way
  few : way.length ≤ l
  rows : ∀ i, (ge [] R i).length ≤ r
  gh : g = -1 ∨ (g = h ∧ 0 ≤ h)
  h0 : -1 ≤ h
  tk : toks way + (if h = -1 then 0 else 1) = 1
theorem Inv.up {n r l r' l' : Nat} {P : List Int} {R : List (List Int)} {h g : Int} {m : Mq} {way : List Lt} {H N : List Bool} (I : Inv n r l P R h g m way H N) (hr : r ≤ r') (hl : l ≤ l') : Inv n r' l' P R h g m way H N :=
  { I with few := by have := I.few; omega, rows := fun i => by have := I.rows i; omega }
theorem send_val {m : Mq} {way : List Lt} (rel : WRel e1 m way) (hl : way.length ≤ 1000) (a b : Int) (t : Bool) : F139 m a b t = some (mupd m (a, b) ((m (a, b)).getD [] ++ [t])) := by
  have := rel.len a b
  simp only [F139, app1 1 (by decide) ((m (a, b)).getD []) t (by omega), Option.bind_some]
def GiveTo (n r l : Nat) (P : List Int) (R : List (List Int)) (h g : Int) (m : Mq) (way : List Lt) (H N : List Bool) (i : Nat) : Prop :=
  ∃ (P' : List Int) (R' : List (List Int)) (h' g' : Int) (m' : Mq) (way' : List Lt) (H' N' : List Bool),
    F127 (P, R, h, g, m) (i : Int) = some (P', R', h', g', m') ∧ F85 (i : Int) H N R P way = some (H', N', R', P', way') ∧ Inv n r (l + 2) P' R' h' g' m' way' H' N'
theorem give {n r l : Nat} {P : List Int} {R : List (List Int)} {h g : Int} {m : Mq} {way : List Lt} {H N : List Bool} (I : Inv n r l P R h g m way H N) {i : Nat} (hi : i < n) (hl : l ≤ 900) (hr : r ≤ 900) : GiveTo n r l P R h g m way H N i := by
  have few := I.few
  have hip : i < P.length := by rw [I.lp]; exact hi
  have hir : i < R.length := by rw [I.lr]; exact hi
  have hih : i < H.length := by rw [I.lh]; exact hi
  have hin : i < N.length := by rw [I.ln]; exact hi
  have jp := idx_ge (0 : Int) hip
  have jr := idx_ge ([] : List Int) hir
  have jh := idx_ge false hih
  have jn := idx_ge false hin
  rw [I.hh i hi] at jh
  rw [I.nn i hi] at jn
  by_cases c1 : h = (i : Int)
  · by_cases c2 : g = (i : Int)
    · refine ⟨P, R, h, g, m, way, H, N, ?_, ?_, I.up (by omega) (by omega)⟩
      · simp [F127, c2]
      · simp [F85, jh, jn, c1, c2]
    · have c1' : (h != (i : Int)) = false := by simp [c1]
      have c2' : (g == (i : Int)) = false := by simp [c2]
      have d1 : decide (h = (i : Int)) = true := by simp [c1]
      have d2 : decide (g = (i : Int)) = false := by simp [c2]
      rw [d1] at jh
      rw [d2] at jn
      cases e : ge [] R i with
      | nil =>
        rw [e] at jr
        refine ⟨P, R, h, g, m, way, H, N, ?_, ?_, I.up (by omega) (by omega)⟩
        · simp [F127, c1', c2', jr]
        · simp [F85, jh, jn, jr]
      | cons to rest =>
        rw [e] at jr
        have g1 : g = -1 := by
          rcases I.gh with q | q
          · exact q
          · exact absurd (q.1.trans c1) c2
        have ne0 : (((to :: rest).length : Int) == 0) = false := by simp; omega
        have hs := sl_tail to rest
        have j0 : idx (to :: rest) 0 = some to := idx_some (k := 0) rfl
        have ap0 : appl 8 ([] : List Int) rest = some rest := by
          have := I.rows i
          rw [e] at this
          have := appM 8 (by decide) [] rest (by simp at this ⊢; omega)
          simpa using this
        have rows' : ∀ a, (ge [] (R.set i rest) a).length ≤ r := fun a => by
          rw [ge_set hir]
          have q := I.rows i
          rw [e] at q
          split
          · simp at q; omega
          · exact I.rows a
        by_cases c3 : to = (i : Int)
        · have c3' : (to == (i : Int)) = true := by simp [c3]
          refine ⟨P, R.set i rest, h, (i : Int), m, way, H, N.set i true, ?_, ?_, ?_⟩
          · simp only [F127, c1', c2', jr, Bool.or_false, cond_false, Option.bind_some, ne0, j0, hs, c3', cond_true, Int.toNat_natCast]
          · simp only [F85, jh, jn, jr, Bool.not_true, cond_false, Option.bind_some, ne0, j0, hs, ap0, c3', cond_true, Int.toNat_natCast]
          · refine { I with lr := by rw [List.length_set]; exact I.lr, ln := by rw [List.length_set]; exact I.ln, nn := fun a ha => ?_, few := by omega, rows := rows', gh := .inr ⟨c1.symm, by omega⟩ }
            rw [ge_set hin]
            by_cases e2 : a = i
            · subst e2; simp
            · rw [if_neg e2, I.nn a ha, g1, Bool.eq_iff_iff]; simp; omega
        · have c3' : (to == (i : Int)) = false := by simp [c3]
          have s1 := send_val I.rel (by omega) (i : Int) to true
          have rel1 := I.rel.send (i : Int) to true
          obtain ⟨m1, hm1⟩ : ∃ m1, m1 = mupd m ((i : Int), to) ((m ((i : Int), to)).getD [] ++ [true]) := ⟨_, rfl⟩
          rw [← hm1] at rel1 s1
          have w1 : appl 24 way [((i : Int), to, 1)] = some (way ++ [((i : Int), to, 1)]) := app1 24 (by decide) way _ (by omega)
          have l1 : (way ++ [((i : Int), to, (1 : Int))]).length = way.length + 1 := by simp
          have s2 := send_val rel1 (by show (way ++ [((i : Int), to, (1 : Int))]).length ≤ 1000; omega) (i : Int) to false
          have rel2 := rel1.send (i : Int) to false
          have w2 : appl 24 (way ++ [((i : Int), to, 1)]) [((i : Int), to, 0)] = some (way ++ [((i : Int), to, 1)] ++ [((i : Int), to, 0)]) := app1 24 (by decide) _ _ (by omega)
          have l2 : (way ++ [((i : Int), to, (1 : Int))] ++ [((i : Int), to, (0 : Int))]).length = way.length + 2 := by simp
          have tk := I.tk
          rw [if_neg (by omega)] at tk
          have t1 : toks (way ++ [((i : Int), to, (1 : Int))]) = 1 := by rw [toks_app, if_pos rfl]; omega
          have t2 : toks (way ++ [((i : Int), to, (1 : Int))] ++ [((i : Int), to, (0 : Int))]) = 1 := by rw [toks_app, t1, if_neg (show ¬ (0 : Int) = 1 by decide)]
          have hh' : ∀ a, a < n → ge false (H.set i false) a = decide ((-1 : Int) = (a : Int)) := fun a ha => by
            rw [ge_set hih]
            by_cases e2 : a = i
            · rw [if_pos e2]; simp
            · rw [if_neg e2, I.hh a ha, c1, Bool.eq_iff_iff]; simp; omega
          have jr2 : idx (R.set i rest) (i : Int) = some rest := idx_setG hir rest
          cases z : decide ((rest.length : Int) > 0) with
          | true =>
            refine ⟨P.set i to, R.set i rest, -1, g, mupd m1 ((i : Int), to) ((m1 ((i : Int), to)).getD [] ++ [false]), way ++ [((i : Int), to, 1)] ++ [((i : Int), to, 0)], H.set i false, N, ?_, ?_, ?_⟩
            · simp only [F127, c1', c2', jr, Bool.or_false, cond_false, Option.bind_some, ne0, j0, hs, c3', cond_true, Int.toNat_natCast, jp, s1, jr2, z, s2]
            · simp only [F85, jh, jn, jr, Bool.not_true, cond_false, Option.bind_some, ne0, j0, hs, ap0, c3', cond_true, Int.toNat_natCast, jp, w1, w2, jr2, z]
            · exact ⟨by rw [List.length_set]; exact I.lp, by rw [List.length_set]; exact I.lr, by rw [List.length_set]; exact I.lh, I.ln, hh', I.nn, rel2, by omega, rows', .inl g1, by omega, by rw [t2]; rfl⟩
          | false =>
            refine ⟨P.set i to, R.set i rest, -1, g, m1, way ++ [((i : Int), to, 1)], H.set i false, N, ?_, ?_, ?_⟩
            · simp only [F127, c1', c2', jr, Bool.or_false, cond_false, Option.bind_some, ne0, j0, hs, c3', cond_true, Int.toNat_natCast, jp, s1, jr2, z, s2]
            · simp only [F85, jh, jn, jr, Bool.not_true, cond_false, Option.bind_some, ne0, j0, hs, ap0, c3', cond_true, Int.toNat_natCast, jp, w1, w2, jr2, z]
            · exact ⟨by rw [List.length_set]; exact I.lp, by rw [List.length_set]; exact I.lr, by rw [List.length_set]; exact I.lh, I.ln, hh', I.nn, rel1, by omega, rows', .inl g1, by omega, by rw [t1]; rfl⟩
  · refine ⟨P, R, h, g, m, way, H, N, ?_, ?_, I.up (by omega) (by omega)⟩
    · have c1' : (h != (i : Int)) = true := by simp [c1]
      simp [F127, c1']
    · simp [F85, jh, c1]
theorem stand {n r l : Nat} {P : List Int} {R : List (List Int)} {h g : Int} {m : Mq} {way : List Lt} {H N : List Bool} (I : Inv n r l P R h g m way H N) {i : Nat} (hi : i < n) (w : Int) (hl : l ≤ 800) (hr : r ≤ 800) :
    ∃ (P' : List Int) (R' : List (List Int)) (h' g' : Int) (m' : Mq) (way' : List Lt) (H' N' : List Bool),
      F126 (P, R, h, g, m) (i : Int) w = some (P', R', h', g', m') ∧ F86 (i : Int) w R P way H N = some (R', P', way', H', N') ∧ Inv n (r + 1) (l + 3) P' R' h' g' m' way' H' N' := by
  have few := I.few
  have hip : i < P.length := by rw [I.lp]; exact hi
  have hir : i < R.length := by rw [I.lr]; exact hi
  have jp := idx_ge (0 : Int) hip
  have jr := idx_ge ([] : List Int) hir
  have q := I.rows i
  have ap := app1 8 (by decide) (ge [] R i) w (by omega)
  have jr2 : idx (R.set i (ge [] R i ++ [w])) (i : Int) = some (ge [] R i ++ [w]) := idx_setG hir _
  have I1 : Inv n (r + 1) l P (R.set i (ge [] R i ++ [w])) h g m way H N := by
    refine { I with lr := by rw [List.length_set]; exact I.lr, rows := fun a => ?_ }
    rw [ge_set hir]
    split
    · simp; omega
    · have := I.rows a; omega
  cases z1 : (((ge [] R i ++ [w]).length : Int) == 1) && (ge 0 P i != (i : Int)) with
  | false =>
    obtain ⟨P', R', h', g', m', way', H', N', r1, r2, r3⟩ := give I1 hi (by omega) (by omega)
    refine ⟨P', R', h', g', m', way', H', N', ?_, ?_, r3.up (by omega) (by omega)⟩
    · cases z2 : (((ge [] R i ++ [w]).length : Int) == 1) <;> simp only [z2, Bool.true_and, Bool.false_and] at z1 <;> simp only [F126, jr, ap, Option.bind_some, Int.toNat_natCast, jr2, z2, cond_true, cond_false, jp, z1, r1]
    · cases z2 : (((ge [] R i ++ [w]).length : Int) == 1) <;> simp only [z2, Bool.true_and, Bool.false_and] at z1 <;> simp only [F86, jr, ap, Option.bind_some, Int.toNat_natCast, jr2, z2, cond_true, cond_false, jp, z1, r2]
  | true =>
    simp only [Bool.and_eq_true] at z1
    have s1 := send_val I.rel (by omega) (i : Int) (ge 0 P i) false
    have w1 : appl 24 way [((i : Int), ge 0 P i, 0)] = some (way ++ [((i : Int), ge 0 P i, 0)]) := app1 24 (by decide) way _ (by omega)
    have I2 : Inv n (r + 1) (l + 1) P (R.set i (ge [] R i ++ [w])) h g (mupd m ((i : Int), ge 0 P i) ((m ((i : Int), ge 0 P i)).getD [] ++ [false])) (way ++ [((i : Int), ge 0 P i, 0)]) H N := by
      refine { I1 with rel := I.rel.send _ _ false, few := by simp; omega, tk := ?_ }
      rw [toks_app, if_neg (show ¬ (0 : Int) = 1 by decide)]; exact I.tk
    obtain ⟨P', R', h', g', m', way', H', N', r1, r2, r3⟩ := give I2 hi (by omega) (by omega)
    refine ⟨P', R', h', g', m', way', H', N', ?_, ?_, r3.up (by omega) (by omega)⟩
    · simp only [F126, jr, ap, Option.bind_some, Int.toNat_natCast, jr2, z1, cond_true, cond_false, jp, s1, r1]
    · simp only [F86, jr, ap, Option.bind_some, Int.toNat_natCast, jr2, z1, cond_true, cond_false, jp, w1, r2]

theorem contains_val (l : List Int) (hl : l.length ≤ 1000000) (a : Int) : F84 l a = some (decide (a ∈ l)) := by
  have h : whileM (F128_L0 l a) 0 = some (found () (scan (fun k e => if (a == e) = true then some (k : Int) else none) l 0)) := by
    refine while_scan (by omega) _ (fun k e h => ?_) (by simp [F128_L0])
    have hk := lt_of_get h
    have hd : decide ((k : Int) < (l.length : Int)) = true := by rw [decide_eq_true_eq]; omega
    cases c : (a == e) <;> (simp only [F128_L0, idx_some h, hd, c, going, Option.bind_some, cond_true, cond_false]; simp)
  unfold F84 F128
  rw [h]
  cases c : scan (fun k e => if (a == e) = true then some (k : Int) else none) l 0 with
  | none =>
    have : a ∉ l := fun hm => by
      obtain ⟨i, hi⟩ := List.mem_iff_getElem?.1 hm
      have := (scan_none.1 c) i a hi
      simp at this
    simp [found, Ctl.on, this]
  | some r =>
    obtain ⟨i, e, hi, he⟩ := scan_val c
    split at he
    · rename_i q
      rw [beq_iff_eq] at q
      have hm : a ∈ l := by rw [q]; exact List.mem_of_getElem? hi
      obtain rfl := Option.some.inj he
      simp [found, Ctl.on, hm]
    · cases he

/-! One move. -/
def Both (n k : Nat) (up : List Int) (l : List Mv) (P : List Int) (R : List (List Int)) (h g : Int) (m : Mq) (way : List Lt) (H N : List Bool) (x : Mv) : Prop :=
  ∃ (e : Int) (P' : List Int) (R' : List (List Int)) (h' g' : Int) (m' : Mq) (way' : List Lt) (H' N' : List Bool),
    F83 (P, R, h, g, m) x = some (e, (P', R', h', g', m')) ∧
    (∀ cs : List Int, cs.length ≤ 60 → F48_L1 up l (way, N, H, R, P, cs, (k : Int)) = some (.nxt (way', N', H', R', P', cs ++ [e], ((k + 1 : Nat) : Int)))) ∧
    Inv n (k + 1) (3 * (k + 1)) P' R' h' g' m' way' H' N'
section
variable {n k : Nat} {up : List Int} {l : List Mv} {P : List Int} {R : List (List Int)} {h g : Int} {m : Mq} {way : List Lt} {H N : List Bool} {x : Mv}
variable (I : Inv n k (3 * k) P R h g m way H N) (hk : l[k]? = some x) (hl : l.length ≤ 60)
theorem kd (hk : l[k]? = some x) : decide ((k : Int) < (l.length : Int)) = true := by rw [decide_eq_true_eq]; have := lt_of_get hk; omega
include I in
/-- Is it wrong? Both say the same. -/
theorem args {two : Bool} : ∃ bad : Bool, (∀ (α : Type) (K : Bool → Option α), (Option.bind (F124 x.2.1 R.length) fun r11 => Option.bind (cond (r11) (some true) (Option.bind (cond two (Option.bind (F124 x.2.2.1 R.length) fun r19 => some (r19 || (x.2.1 == x.2.2.1))) (some false)) fun b17 => some b17)) K) = K bad) ∧
    F57 (n : Int) (x.1, x.2.1, x.2.2.1, x.2.2.2) two = some (!bad) ∧ (bad = false → 0 ≤ x.2.1 ∧ x.2.1 < (n : Int) ∧ (two = true → 0 ≤ x.2.2.1 ∧ x.2.2.1 < (n : Int) ∧ x.2.2.1 ≠ x.2.1)) := by
  unfold F124 F57
  rw [I.lr]
  cases c : ((decide (x.2.1 < 0)) || (decide (x.2.1 ≥ (n : Int)))) with
  | true => exact ⟨true, by intro α K; simp, by simp, fun e => by cases e⟩
  | false =>
    simp only [Bool.or_eq_false_iff, decide_eq_false_iff_not] at c
    cases two with
    | false => exact ⟨false, by intro α K; simp, by simp, fun _ => ⟨by omega, by omega, fun e => by cases e⟩⟩
    | true =>
      refine ⟨((decide (x.2.2.1 < 0)) || (decide (x.2.2.1 ≥ (n : Int)))) || (x.2.1 == x.2.2.1), by intro α K; simp, ?_, fun e => ?_⟩
      · simp only [cond_false, Bool.not_true, Bool.false_or, Option.some.injEq]
        rw [Bool.eq_iff_iff]
        simp only [Bool.and_eq_true, decide_eq_true_eq, bne_iff_ne, Bool.not_eq_true', Bool.or_eq_false_iff, decide_eq_false_iff_not, beq_eq_false_iff_ne]
        omega
      · simp only [Bool.or_eq_false_iff, decide_eq_false_iff_not, beq_eq_false_iff_ne] at e
        exact ⟨by omega, by omega, fun _ => ⟨by omega, by omega, fun q => e.2 q.symm⟩⟩
include I hk hl
theorem some_first : ∃ r, F61 way x.2.1 x.2.2.1 = some r := by
  rcases first_val way (by have := I.few; have := lt_of_get hk; omega) x.2.1 x.2.2.1 with ⟨_, q⟩ | ⟨_, _, q, _⟩ <;> exact ⟨_, q⟩
theorem wrongKind (c1 : (decide (x.1 < 1) || decide (x.1 > 3)) = true) : Both n k up l P R h g m way H N x := by
  obtain ⟨r, hr⟩ := some_first I hk hl
  refine ⟨6, P, R, h, g, m, way, H, N, by simp only [F83, c1, cond_true], fun cs hcs => ?_, I.up (by omega) (by omega)⟩
  simp only [F48_L1, kd hk, idx_some hk, c1, hr, cond_true, Option.bind_some, app1 8 (by decide) cs 6 (by omega), w64_succ (lt_of_get hk) (by omega)]
theorem wrongArg (c1 : (decide (x.1 < 1) || decide (x.1 > 3)) = false) (a1 : ∀ (α : Type) (K : Bool → Option α), (Option.bind (F124 x.2.1 R.length) fun r11 => Option.bind (cond (r11) (some true) (Option.bind (cond (x.1 == 2) (Option.bind (F124 x.2.2.1 R.length) fun r19 => some (r19 || (x.2.1 == x.2.2.1))) (some false)) fun b17 => some b17)) K) = K true)
    (a2 : F57 (up.length : Int) (x.1, x.2.1, x.2.2.1, x.2.2.2) (x.1 == 2) = some false) : Both n k up l P R h g m way H N x := by
  obtain ⟨r, hr⟩ := some_first I hk hl
  refine ⟨2, P, R, h, g, m, way, H, N, ?_, fun cs hcs => ?_, I.up (by omega) (by omega)⟩
  · unfold F83
    simp only [c1, cond_false]
    rw [a1]; rfl
  · simp only [F48_L1, kd hk, idx_some hk, c1, hr, a2, Bool.not_false, cond_true, cond_false, Option.bind_some, app1 8 (by decide) cs 2 (by omega), w64_succ (lt_of_get hk) (by omega)]
end
section
variable {n k : Nat} {up : List Int} {l : List Mv} {P : List Int} {R : List (List Int)} {h g : Int} {m : Mq} {way : List Lt} {H N : List Bool} {i j : Nat} {q t v : Int}
variable (I : Inv n k (3 * k) P R h g m way H N) (hk : l[k]? = some (q, (i : Int), t, v)) (hl : l.length ≤ 60) (hi : i < n) (c1 : (decide (q < 1) || decide (q > 3)) = false)
variable (a1 : ∀ (α : Type) (K : Bool → Option α), (Option.bind (F124 (i : Int) R.length) fun r11 => Option.bind (cond (r11) (some true) (Option.bind (cond (q == 2) (Option.bind (F124 t R.length) fun r19 => some (r19 || ((i : Int) == t))) (some false)) fun b17 => some b17)) K) = K false)
variable (a2 : F57 (up.length : Int) (q, (i : Int), t, v) (q == 2) = some true)
include I hk hl hi c1 a1 a2
theorem wants (hq : q = 1) : Both n k up l P R h g m way H N (q, (i : Int), t, v) := by
  subst hq
  obtain ⟨r, hr⟩ := some_first I hk hl
  have f1 := lt_of_get hk
  have kd1 := kd hk
  have few := I.few
  have a2' : F57 (up.length : Int) (1, (i : Int), t, v) false = some true := a2
  have n11 : ((1 : Int) == 1) = true := rfl
  have n12 : ((1 : Int) == 2) = false := rfl
  have n13 : ((1 : Int) == 3) = false := rfl
  have hir : i < R.length := by rw [I.lr]; exact hi
  have hin : i < N.length := by rw [I.ln]; exact hi
  have jr := idx_ge ([] : List Int) hir
  have jn := idx_ge false hin
  rw [I.nn i hi] at jn
  have row := I.rows i
  have ct := contains_val (ge [] R i) (by omega) (i : Int)
  have hv := has_val (ge [] R i) (by omega) (i : Int)
  have hg : (g == (i : Int)) = decide (g = (i : Int)) := by rw [Bool.eq_iff_iff]; simp
  cases zB : decide (g = (i : Int)) with
  | true =>
    rw [zB] at hg jn
    refine ⟨7, P, R, h, g, m, way, H, N, ?_, fun cs hcs => ?_, I.up (by omega) (by omega)⟩
    · unfold F83
      simp only [c1, cond_false]
      rw [a1]
      simp only [n11, n12, cond_true, cond_false, hg, Option.bind_some]
    · have ap := app1 8 (by decide) cs 7 (by omega)
      simp only [F48_L1, kd1, idx_some hk, c1, hr, a2', Bool.not_true, n11, n12, n13, cond_true, cond_false, Option.bind_some, jn, ap, w64_succ f1 (by omega)]
  | false =>
    rw [zB] at hg jn
    cases zM : decide ((i : Int) ∈ ge [] R i) with
    | true =>
      rw [zM] at ct hv
      refine ⟨7, P, R, h, g, m, way, H, N, ?_, fun cs hcs => ?_, I.up (by omega) (by omega)⟩
      · unfold F83
        simp only [c1, cond_false]
        rw [a1]
        simp only [n11, n12, cond_true, cond_false, hg, Option.bind_some, jr, ct]
      · have ap := app1 8 (by decide) cs 7 (by omega)
        simp only [F48_L1, kd1, idx_some hk, c1, hr, a2', Bool.not_true, n11, n12, n13, cond_true, cond_false, Option.bind_some, jn, jr, hv, ap, w64_succ f1 (by omega)]
    | false =>
      rw [zM] at ct hv
      obtain ⟨P', R', h', g', m', way', H', N', r1, r2, r3⟩ := stand I hi (i : Int) (by omega) (by omega)
      refine ⟨0, P', R', h', g', m', way', H', N', ?_, fun cs hcs => ?_, r3.up (by omega) (by omega)⟩
      · unfold F83
        simp only [c1, cond_false]
        rw [a1]
        simp only [n11, n12, cond_true, cond_false, hg, Option.bind_some, jr, ct, r1]
      · have ap := app1 8 (by decide) cs 0 (by omega)
        simp only [F48_L1, kd1, idx_some hk, c1, hr, a2', Bool.not_true, n11, n12, n13, cond_true, cond_false, Option.bind_some, jn, jr, hv, r2, ap, w64_succ f1 (by omega)]
theorem leaves (hq : q = 3) : Both n k up l P R h g m way H N (q, (i : Int), t, v) := by
  subst hq
  obtain ⟨r, hr⟩ := some_first I hk hl
  have f1 := lt_of_get hk
  have kd1 := kd hk
  have few := I.few
  have a2' : F57 (up.length : Int) (3, (i : Int), t, v) false = some true := a2
  have n31 : ((3 : Int) == 1) = false := rfl
  have n32 : ((3 : Int) == 2) = false := rfl
  have n33 : ((3 : Int) == 3) = true := rfl
  have hin : i < N.length := by rw [I.ln]; exact hi
  have jn := idx_ge false hin
  rw [I.nn i hi] at jn
  have hg : (g != (i : Int)) = !decide (g = (i : Int)) := by rw [Bool.eq_iff_iff]; simp
  cases zB : decide (g = (i : Int)) with
  | false =>
    rw [zB] at hg jn
    refine ⟨7, P, R, h, g, m, way, H, N, ?_, fun cs hcs => ?_, I.up (by omega) (by omega)⟩
    · unfold F83
      simp only [c1, cond_false]
      rw [a1]
      simp only [n31, n32, cond_true, cond_false, hg, Option.bind_some, Bool.not_false]
    · have ap := app1 8 (by decide) cs 7 (by omega)
      simp only [F48_L1, kd1, idx_some hk, c1, hr, a2', Bool.not_true, Bool.not_false, n31, n32, n33, cond_true, cond_false, Option.bind_some, jn, ap, w64_succ f1 (by omega)]
  | true =>
    rw [zB] at hg jn
    have gi : g = (i : Int) := by simpa using zB
    have I1 : Inv n k (3 * k) P R h (-1) m way H (N.set i false) := by
      refine { I with ln := by rw [List.length_set]; exact I.ln, nn := fun a ha => ?_, gh := .inl rfl }
      rw [ge_set hin]
      by_cases e : a = i
      · rw [if_pos e]; simp
      · rw [if_neg e, I.nn a ha, gi, Bool.eq_iff_iff]; simp; omega
    obtain ⟨P', R', h', g', m', way', H', N', r1, r2, r3⟩ := give I1 hi (by omega) (by omega)
    refine ⟨0, P', R', h', g', m', way', H', N', ?_, fun cs hcs => ?_, r3.up (by omega) (by omega)⟩
    · unfold F83
      simp only [c1, cond_false]
      rw [a1]
      simp only [n31, n32, cond_true, cond_false, hg, Option.bind_some, Bool.not_true, r1]
    · have ap := app1 8 (by decide) cs 0 (by omega)
      simp only [F48_L1, kd1, idx_some hk, c1, hr, a2', Bool.not_true, Bool.not_false, n31, n32, n33, cond_true, cond_false, Option.bind_some, jn, Int.toNat_natCast, r2, ap, w64_succ f1 (by omega)]
theorem comes (hq : q = 2) (ht : t = (j : Int)) (hj : j < n) : Both n k up l P R h g m way H N (q, (i : Int), t, v) := by
  subst hq; subst ht
  have f1 := lt_of_get hk
  have kd1 := kd hk
  have few := I.few
  have a2' : F57 (up.length : Int) (2, (i : Int), (j : Int), v) true = some true := a2
  have n21 : ((2 : Int) == 1) = false := rfl
  have n22 : ((2 : Int) == 2) = true := rfl
  have n23 : ((2 : Int) == 3) = false := rfl
  rcases first_val way (by omega) (i : Int) (j : Int) with ⟨g0, g1⟩ | ⟨p, y, g1, g2, g3, g4, g5⟩
  · have hm := (I.rel.none_iff (i : Int) (j : Int)).2 g0
    refine ⟨5, P, R, h, g, m, way, H, N, ?_, fun cs hcs => ?_, I.up (by omega) (by omega)⟩
    · unfold F83
      simp only [c1, cond_false]
      rw [a1]
      simp only [n22, cond_true, cond_false, Option.bind_some, F125, hm]
      rfl
    · have ap := app1 8 (by decide) cs 5 (by omega)
      have gm : decide ((-1 : Int) < 0) = true := rfl
      simp only [F48_L1, kd1, idx_some hk, c1, g1, a2', Bool.not_true, n21, n22, n23, cond_true, cond_false, Option.bind_some, gm, ap, w64_succ f1 (by omega)]
  · obtain ⟨b, zs, hm⟩ : ∃ b zs, (m ((i : Int), (j : Int))).getD [] = b :: zs := by
      cases e : (m ((i : Int), (j : Int))).getD [] with
      | nil => have := (I.rel.none_iff _ _).1 e; rw [g4] at this; cases this
      | cons z zs => exact ⟨z, zs, rfl⟩
    obtain ⟨ex, rel⟩ := I.rel.take hm g4 g5
    have hw := without_val (by omega) g2
    have ig := idx_some g3
    have gp : decide (((p : Int)) < 0) = false := by simp
    have hml : (((m ((i : Int), (j : Int))).getD []).length : Int) = (zs.length : Int) + 1 := by rw [hm]; simp
    have hne : ((((m ((i : Int), (j : Int))).getD []).length : Int) == 0) = false := by rw [hml]; simp; omega
    have hs := sl_tail b zs
    have i0 : idx (b :: zs) 0 = some b := by simp [idx]
    have wl : (way.eraseIdx p).length ≤ way.length := by rw [List.length_eraseIdx]; split <;> omega
    have te := toks_erase g3
    have tk := I.tk
    have hjp : j < P.length := by rw [I.lp]; exact hj
    have hjh : j < H.length := by rw [I.lh]; exact hj
    have jp := idx_ge (0 : Int) hjp
    have jh := idx_ge false hjh
    cases b with
    | false =>
      have ey : y = 0 := ex
      subst ey
      rw [if_neg (show ¬ (0 : Int) = 1 by decide)] at te
      have n01 : ((0 : Int) == 1) = false := rfl
      have I1 : Inv n k (3 * k) P R h g (mupd m ((i : Int), (j : Int)) zs) (way.eraseIdx p) H N := { I with rel := rel, few := by omega, tk := by omega }
      obtain ⟨P', R', h', g', m', way', H', N', r1, r2, r3⟩ := stand I1 hj (i : Int) (by omega) (by omega)
      refine ⟨0, P', R', h', g', m', way', H', N', ?_, fun cs hcs => ?_, r3.up (by omega) (by omega)⟩
      · unfold F83 F125
        simp only [c1, cond_false]
        rw [a1]
        simp only [n22, cond_true, cond_false, Option.bind_some, hne]
        rw [hm, hs]
        simp only [i0, Option.bind_some, Bool.not_false, cond_true, r1]
      · have ap := app1 8 (by decide) cs 0 (by omega)
        simp only [F48_L1, kd1, idx_some hk, c1, g1, a2', Bool.not_true, n21, n22, n23, n01, cond_true, cond_false, Option.bind_some, gp, ig, hw, r2, ap, w64_succ f1 (by omega)]
    | true =>
      have ey : y = 1 := ex
      subst ey
      rw [if_pos rfl] at te
      have n11 : ((1 : Int) == 1) = true := rfl
      have h1 : h = -1 := by
        refine Classical.byContradiction fun e => ?_
        rw [if_neg e] at tk; omega
      rw [if_pos h1] at tk
      have g1' : g = -1 := by rcases I.gh with z | z <;> omega
      have I1 : Inv n k (3 * k) (P.set j (j : Int)) R (j : Int) g (mupd m ((i : Int), (j : Int)) zs) (way.eraseIdx p) (H.set j true) N := by
        refine { I with lp := by rw [List.length_set]; exact I.lp, lh := by rw [List.length_set]; exact I.lh, hh := fun a ha => ?_, rel := rel, few := by omega, gh := .inl g1', h0 := by omega, tk := by rw [if_neg (by omega)]; omega }
        rw [ge_set hjh]
        by_cases e : a = j
        · rw [if_pos e]; simp [e]
        · rw [if_neg e, I.hh a ha, h1, Bool.eq_iff_iff]; simp; omega
      obtain ⟨P', R', h', g', m', way', H', N', r1, r2, r3⟩ := give I1 hj (by omega) (by omega)
      refine ⟨0, P', R', h', g', m', way', H', N', ?_, fun cs hcs => ?_, r3.up (by omega) (by omega)⟩
      · unfold F83 F125
        simp only [c1, cond_false]
        rw [a1]
        simp only [n22, cond_true, cond_false, Option.bind_some, hne]
        rw [hm, hs]
        simp only [i0, Option.bind_some, Bool.not_true, cond_false, jp, Int.toNat_natCast, r1]
      · have ap := app1 8 (by decide) cs 0 (by omega)
        simp only [F48_L1, kd1, idx_some hk, c1, g1, a2', Bool.not_true, n21, n22, n23, n11, cond_true, cond_false, Option.bind_some, gp, ig, hw, jh, jp, Int.toNat_natCast, r2, ap, w64_succ f1 (by omega)]
end
/-! All moves. -/
theorem move {n k : Nat} {up : List Int} {l : List Mv} {P : List Int} {R : List (List Int)} {h g : Int} {m : Mq} {way : List Lt} {H N : List Bool} {x : Mv} (I : Inv n k (3 * k) P R h g m way H N) (hup : up.length = n) (hk : l[k]? = some x) (hl : l.length ≤ 60) : Both n k up l P R h g m way H N x := by
  cases c1 : (decide (x.1 < 1) || decide (x.1 > 3)) with
  | true => exact wrongKind I hk hl c1
  | false =>
    obtain ⟨bad, a1, a2, a3⟩ := args (x := x) I (two := (x.1 == 2))
    rw [← hup] at a2
    cases bad with
    | true => exact wrongArg I hk hl c1 a1 a2
    | false =>
      obtain ⟨b1, b2, b3⟩ := a3 rfl
      obtain ⟨q, a, t, v⟩ := x
      simp only at b1 b2 b3 a1 a2 c1
      obtain ⟨i, rfl⟩ := nat_of b1
      have hi : i < n := by omega
      have hq : q = 1 ∨ q = 2 ∨ q = 3 := by
        have := c1
        simp only [Bool.or_eq_false_iff, decide_eq_false_iff_not] at this
        omega
      rcases hq with rfl | rfl | rfl
      · exact wants I hk hl hi c1 a1 a2 rfl
      · obtain ⟨b4, b5, b6⟩ := b3 rfl
        obtain ⟨j, rfl⟩ := nat_of b4
        exact comes I hk hl hi c1 a1 a2 rfl rfl (by omega)
      · exact leaves I hk hl hi c1 a1 a2 rfl

/-! The tree. -/
def badP (n : Nat) (e : Int) : Bool := (decide (e < 0)) || (decide (e ≥ (n : Int)))
def fu (up : List Int) (i : Nat) : Nat := (ge 0 up i).toNat
def it (f : Nat → Nat) : Nat → Nat → Nat
  | 0, i => i
  | k + 1, i => f (it f k i)
def rts (up : List Int) (k : Nat) : List Int := ((List.range k).filter (fun i => fu up i == i)).map (fun i : Nat => (i : Int))
theorem rts_succ (up : List Int) (k : Nat) : rts up (k + 1) = rts up k ++ (if fu up k = k then [(k : Int)] else []) := by
  unfold rts
  rw [List.range_succ, List.filter_append, List.map_append]
  congr 1
  by_cases e : fu up k = k <;> simp [e]
theorem rts_len (up : List Int) (k : Nat) : (rts up k).length ≤ k := by
  unfold rts
  rw [List.length_map]
  have := List.length_filter_le (fun i => fu up i == i) (List.range k)
  simpa using this
theorem rts_mem {up : List Int} {k i : Nat} : (i : Int) ∈ rts up k ↔ i < k ∧ fu up i = i := by
  unfold rts
  rw [List.mem_map]
  constructor
  · rintro ⟨a, ha, e⟩
    obtain rfl : a = i := by omega
    simpa using ha
  · intro h; exact ⟨i, by simpa using h, rfl⟩
section
variable {up : List Int} (h6 : up.length ≤ 6)
include h6
theorem anybad : F49 up (fun z => F123 z up) = some (up.any (badP up.length)) := by
  have h : whileM (F87_L0 up (fun z => F123 z up)) 0 = some (found () (scan (fun k e => if badP up.length e = true then some (k : Int) else none) up 0)) := by
    refine while_scan (by omega) _ (fun k e h => ?_) (by simp [F87_L0])
    have hk := lt_of_get h
    have hd : decide ((k : Int) < (up.length : Int)) = true := by rw [decide_eq_true_eq]; omega
    have hF : F123 e up = some (badP up.length e) := rfl
    cases c : badP up.length e <;> (simp only [F87_L0, idx_some h, hd, hF, c, going, Option.bind_some, cond_true, cond_false]; simp)
  unfold F49 F87
  rw [h]
  cases c : scan (fun k e => if badP up.length e = true then some (k : Int) else none) up 0 with
  | none =>
    have : up.any (badP up.length) = false := by
      rw [List.any_eq_false]
      intro x hx hb
      obtain ⟨i, hi⟩ := List.mem_iff_getElem?.1 hx
      have := (scan_none.1 c) i x hi
      simp [hb] at this
    simp [found, Ctl.on, this]
  | some r =>
    obtain ⟨i, e, hi, he⟩ := scan_val c
    split at he
    · rename_i q
      have hm : up.any (badP up.length) = true := List.any_eq_true.2 ⟨e, List.mem_of_getElem? hi, q⟩
      obtain rfl := Option.some.inj he
      simp [found, Ctl.on, hm]
    · cases he
theorem checkbad : whileM (F47_L0 up) 0 = some (found () (cond (up.any (badP up.length)) (some 2) none)) := by
  rw [← scan_any (k := 0)]
  refine while_scan (by omega) _ (fun k e h => ?_) (by simp [F47_L0])
  have hk := lt_of_get h
  have hd : decide ((k : Int) < (up.length : Int)) = true := by rw [decide_eq_true_eq]; omega
  cases c : badP up.length e <;> (unfold badP at c; simp only [F47_L0, idx_some h, hd, c, going, Option.bind_some, cond_true, cond_false]; simp)
variable (ha : up.any (badP up.length) = false)
include ha
theorem fu_idx {i : Nat} (hi : i < up.length) : idx up (i : Int) = some (fu up i : Int) ∧ fu up i < up.length := by
  have j := idx_ge (0 : Int) hi
  have hm : ge 0 up i ∈ up := List.mem_of_getElem? (get_ge (0 : Int) hi)
  have := (List.any_eq_false.1 ha) _ hm
  unfold badP at this
  simp only [Bool.or_eq_true, decide_eq_true_eq, not_or] at this
  unfold fu
  refine ⟨?_, by omega⟩
  rw [j, Int.toNat_of_nonneg (by omega)]
theorem it_lt {i : Nat} (hi : i < up.length) : ∀ k, it (fu up) k i < up.length
  | 0 => hi
  | k + 1 => (fu_idx h6 ha (it_lt hi k)).2
theorem climb {i : Nat} (hi : i < up.length) : whileM (F81_L2 up) ((i : Int), 0) = some (.brk ((it (fu up) up.length i : Nat) : Int)) := by
  have := while_upto (body := F81_L2 up) (fun k => (((it (fu up) k i : Nat) : Int), (k : Int))) up.length (c := .brk ((it (fu up) up.length i : Nat) : Int)) (fun k hk => ?_) (by simp [F81_L2]) (by simp)
  · exact this
  · have hd : decide ((k : Int) < (up.length : Int)) = true := by rw [decide_eq_true_eq]; omega
    simp only [F81_L2, hd, cond_true, (fu_idx h6 ha (it_lt h6 ha hi k)).1, Option.bind_some, it, w64_succ hk (by omega)]
theorem climb2 {i : Nat} (hi : i < up.length) : whileM (F47_L2 up) ((i : Int), 0) = some (.brk ((it (fu up) up.length i : Nat) : Int)) := climb h6 ha hi
theorem roots_val : whileM (F81_L0 up) ([], 0) = some (.brk (rts up up.length)) := by
  have := while_upto (body := F81_L0 up) (fun k => (rts up k, (k : Int))) up.length (c := .brk (rts up up.length)) (fun k hk => ?_) (by simp [F81_L0]) (by simp)
  · exact this
  · have hd : decide ((k : Int) < (up.length : Int)) = true := by rw [decide_eq_true_eq]; omega
    have rl := rts_len up k
    have ap := app1 8 (by decide) (rts up k) (k : Int) (by omega)
    have e : ((k : Int) == (fu up k : Int)) = decide (fu up k = k) := by rw [Bool.eq_iff_iff]; simp; omega
    rw [rts_succ]
    by_cases c : fu up k = k
    · simp only [F81_L0, hd, cond_true, (fu_idx h6 ha hk).1, Option.bind_some, e, decide_eq_true c, ap, w64_succ hk (by omega), if_pos c]
    · simp only [F81_L0, hd, cond_true, cond_false, (fu_idx h6 ha hk).1, Option.bind_some, e, decide_eq_false c, w64_succ hk (by omega), if_neg c, List.append_nil]
theorem check_val : whileM (F47_L1 up) (0, 0) = some (found ((rts up up.length).length : Int) (scan (fun k (_ : Unit) => (fun k => if fu up (it (fu up) up.length k) = it (fu up) up.length k then none else some (3 : Int)) k) (List.replicate up.length ()) 0)) := by
  have := while_scanN (body := F47_L1 up) (fun k => (((rts up k).length : Int), (k : Int))) up.length (b := ((rts up up.length).length : Int)) (fun k => if fu up (it (fu up) up.length k) = it (fu up) up.length k then none else some (3 : Int)) (fun k hk => ?_) (by simp [F47_L1])
  · exact this
  · have hd : decide ((k : Int) < (up.length : Int)) = true := by rw [decide_eq_true_eq]; omega
    have rl := rts_len up k
    have e : ((k : Int) == (fu up k : Int)) = decide (fu up k = k) := by rw [Bool.eq_iff_iff]; simp; omega
    have hi2 := it_lt h6 ha hk up.length
    have e2 : (((fu up (it (fu up) up.length k) : Nat) : Int) != ((it (fu up) up.length k : Nat) : Int)) = !decide (fu up (it (fu up) up.length k) = it (fu up) up.length k) := by rw [Bool.eq_iff_iff]; simp; omega
    have e3 : ((rts up (k + 1)).length : Int) = cond (decide (fu up k = k)) (w64 (((rts up k).length : Int) + 1)) ((rts up k).length : Int) := by
      rw [rts_succ]
      by_cases c : fu up k = k
      · rw [if_pos c, decide_eq_true c, cond_true, w64i (by omega) (by omega)]; simp
      · rw [if_neg c, decide_eq_false c, cond_false]; simp
    by_cases c : fu up k = k <;> by_cases c2 : fu up (it (fu up) up.length k) = it (fu up) up.length k
    · rw [decide_eq_true c, cond_true] at e3
      simp only [F47_L1, hd, cond_true, cond_false, (fu_idx h6 ha hk).1, Option.bind_some, e, decide_eq_true c, climb2 h6 ha hk, Ctl.on, (fu_idx h6 ha hi2).1, e2, decide_eq_true c2, Bool.not_true, if_pos c2, going, w64_succ hk (by omega), e3]
    · simp only [F47_L1, hd, cond_true, cond_false, (fu_idx h6 ha hk).1, Option.bind_some, e, decide_eq_true c, climb2 h6 ha hk, Ctl.on, (fu_idx h6 ha hi2).1, e2, decide_eq_false c2, Bool.not_false, if_neg c2, going, w64_succ hk (by omega)]
    · rw [decide_eq_false c, cond_false] at e3
      simp only [F47_L1, hd, cond_true, cond_false, (fu_idx h6 ha hk).1, Option.bind_some, e, decide_eq_false c, climb2 h6 ha hk, Ctl.on, (fu_idx h6 ha hi2).1, e2, decide_eq_true c2, Bool.not_true, if_pos c2, going, w64_succ hk (by omega), e3]
    · simp only [F47_L1, hd, cond_true, cond_false, (fu_idx h6 ha hk).1, Option.bind_some, e, decide_eq_false c, climb2 h6 ha hk, Ctl.on, (fu_idx h6 ha hi2).1, e2, decide_eq_false c2, Bool.not_false, if_neg c2, going, w64_succ hk (by omega)]
theorem all_val (r : Nat) : whileM (F81_L1 up [(r : Int)]) 0 = some (found () (scan (fun k (_ : Unit) => (fun k => if it (fu up) up.length k = r then none else some ((0 : Int), (3 : Int))) k) (List.replicate up.length ()) 0)) := by
  have := while_scanN (body := F81_L1 up [(r : Int)]) (fun k => (k : Int)) up.length (b := ()) (fun k => if it (fu up) up.length k = r then none else some ((0 : Int), (3 : Int))) (fun k hk => ?_) (by simp [F81_L1])
  · exact this
  · have hd : decide ((k : Int) < (up.length : Int)) = true := by rw [decide_eq_true_eq]; omega
    have j0 : idx [(r : Int)] 0 = some (r : Int) := idx_some (k := 0) rfl
    have e2 : (((it (fu up) up.length k : Nat) : Int) != (r : Int)) = !decide (it (fu up) up.length k = r) := by rw [Bool.eq_iff_iff]; simp; omega
    by_cases c2 : it (fu up) up.length k = r
    · simp only [F81_L1, hd, cond_true, cond_false, Option.bind_some, climb h6 ha hk, Ctl.on, j0, e2, decide_eq_true c2, Bool.not_true, if_pos c2, going, w64_succ hk (by omega)]
    · simp only [F81_L1, hd, cond_true, cond_false, Option.bind_some, climb h6 ha hk, Ctl.on, j0, e2, decide_eq_false c2, Bool.not_false, if_neg c2, going, w64_succ hk (by omega)]
end
theorem tree_both {up : List Int} (h6 : up.length ≤ 6) : (∃ r c : Int, c ≠ 0 ∧ F81 up = some (r, c) ∧ F47 up = some c) ∨
    ∃ r : Nat, r < up.length ∧ F81 up = some ((r : Int), 0) ∧ F47 up = some 0 ∧ ∀ i, i < up.length → (ge 0 up i = (i : Int) ↔ i = r) := by
  have a1 := anybad h6
  have a2 := checkbad h6
  cases ha : up.any (badP up.length) with
  | true =>
    rw [ha] at a1 a2
    refine .inl ⟨0, 2, by decide, ?_, ?_⟩
    · simp only [F81, a1, Option.bind_some, cond_true]
    · simp only [F47, a2, Option.bind_some, cond_true, found, Ctl.on]
  | false =>
    rw [ha] at a1 a2
    have b1 := roots_val h6 ha
    have b2 := check_val h6 ha
    by_cases c : (rts up up.length).length = 1
    · obtain ⟨z, hz⟩ := List.length_eq_one_iff.1 c
      have hzm : z ∈ rts up up.length := by rw [hz]; simp
      obtain ⟨r, hr⟩ : ∃ r : Nat, z = (r : Int) := by
        unfold rts at hzm
        obtain ⟨i, _, e⟩ := List.mem_map.1 hzm
        exact ⟨i, e.symm⟩
      subst hr
      obtain ⟨r1, r2⟩ := rts_mem.1 hzm
      have uniq : ∀ i, i < up.length → (fu up i = i ↔ i = r) := fun i hi => by
        constructor
        · intro e
          have := rts_mem.2 ⟨hi, e⟩
          rw [hz] at this
          simp at this
          omega
        · rintro rfl; exact r2
      have b3 := all_val h6 ha r
      have j0 : idx [(r : Int)] 0 = some (r : Int) := idx_some (k := 0) rfl
      have n1 : ((([(r : Int)] : List Int).length : Int) != 1) = false := rfl
      have n2 : (((1 : Nat) : Int) != 1) = false := rfl
      rw [hz] at b1
      rw [c] at b2
      by_cases all : ∀ i, i < up.length → it (fu up) up.length i = r
      · have s1 := (scanN_none (n := up.length) (f := fun k => if it (fu up) up.length k = r then none else some ((0 : Int), (3 : Int)))).2 fun k hk => if_pos (all k hk)
        have s2 := (scanN_none (n := up.length) (f := fun k => if fu up (it (fu up) up.length k) = it (fu up) up.length k then none else some (3 : Int))).2 fun k hk => if_pos ((uniq _ (it_lt h6 ha hk _)).2 (all k hk))
        rw [s1] at b3
        rw [s2] at b2
        refine .inr ⟨r, r1, ?_, ?_, fun i hi => ?_⟩
        · simp only [F81, a1, Option.bind_some, cond_false, b1, Ctl.on, n1, b3, found, j0]
        · simp only [F47, a2, Option.bind_some, cond_false, b2, found, Ctl.on, n2]
        · rw [← uniq i hi]
          have := (fu_idx h6 ha hi).1
          rw [idx_ge (0 : Int) hi] at this
          have := Option.some.inj this
          omega
      · obtain ⟨i, hi, ne⟩ : ∃ i, i < up.length ∧ it (fu up) up.length i ≠ r := by
          refine Classical.byContradiction fun e => all fun i hi => Classical.byContradiction fun q => e ⟨i, hi, q⟩
        refine .inl ⟨0, 3, by decide, ?_, ?_⟩
        · cases s1 : scan (fun k (_ : Unit) => (fun k => if it (fu up) up.length k = r then none else some ((0 : Int), (3 : Int))) k) (List.replicate up.length ()) 0 with
          | none => exact absurd (scanN_none.1 s1 i hi) (by rw [if_neg ne]; simp)
          | some q =>
            obtain ⟨k, hk, e⟩ := scanN_val s1
            split at e
            · cases e
            · obtain rfl := Option.some.inj e
              rw [s1] at b3
              simp only [F81, a1, Option.bind_some, cond_false, b1, Ctl.on, n1, b3, found, j0]
        · cases s1 : scan (fun k (_ : Unit) => (fun k => if fu up (it (fu up) up.length k) = it (fu up) up.length k then none else some (3 : Int)) k) (List.replicate up.length ()) 0 with
          | none => exact absurd (scanN_none.1 s1 i hi) (by rw [if_neg (fun z => ne ((uniq _ (it_lt h6 ha hi _)).1 z))]; simp)
          | some q =>
            obtain ⟨k, hk, e⟩ := scanN_val s1
            split at e
            · cases e
            · obtain rfl := Option.some.inj e
              rw [s1] at b2
              simp only [F47, a2, Option.bind_some, cond_false, b2, found, Ctl.on, n2]
    · have n1 : (((rts up up.length).length : Int) != 1) = true := by simp; omega
      refine .inl ⟨0, 3, by decide, ?_, ?_⟩
      · simp only [F81, a1, Option.bind_some, cond_false, b1, Ctl.on, n1, cond_true]
      · cases s1 : scan (fun k (_ : Unit) => (fun k => if fu up (it (fu up) up.length k) = it (fu up) up.length k then none else some (3 : Int)) k) (List.replicate up.length ()) 0 with
        | none =>
          rw [s1] at b2
          simp only [F47, a2, Option.bind_some, cond_false, b2, found, Ctl.on, n1, cond_true]
        | some q =>
          obtain ⟨k, hk, e⟩ := scanN_val s1
          split at e
          · cases e
          · obtain rfl := Option.some.inj e
            rw [s1] at b2
            simp only [F47, a2, Option.bind_some, cond_false, b2, found, Ctl.on, n1]

theorem run_both {n : Nat} {up : List Int} {l : List Mv} (hup : up.length = n) (hl : l.length ≤ 60) : ∀ (r k : Nat), k + r = l.length → ∀ {cs : List Int} {P : List Int} {R : List (List Int)} {h g : Int} {m : Mq} {way : List Lt} {H N : List Bool},
    cs.length = k → Inv n k (3 * k) P R h g m way H N →
    ∃ (cs' P' : List Int) (R' : List (List Int)) (h' g' : Int) (m' : Mq) (way' : List Lt) (H' N' : List Bool),
      whileM (F46_L0 l) (cs, m, P, R, h, g, (k : Int)) = some (.brk (cs', m', P', R', h', g')) ∧
      whileM (F48_L1 up l) (way, N, H, R, P, cs, (k : Int)) = some (.brk (way', N', H', R', P', cs')) ∧
      cs'.length = l.length ∧ Inv n l.length (3 * l.length) P' R' h' g' m' way' H' N' := by
  intro r
  induction r with
  | zero =>
    intro k hk cs P R h g m way H N hcs I
    obtain rfl : k = l.length := by omega
    exact ⟨_, _, _, _, _, _, _, _, _, whileM_brk (by simp [F46_L0]), whileM_brk (by simp [F48_L1]), hcs, I⟩
  | succ r ih =>
    intro k hk cs P R h g m way H N hcs I
    have hlt : k < l.length := by omega
    have hg : l[k]? = some l[k] := List.getElem?_eq_getElem hlt
    obtain ⟨e, P1, R1, h1, g1, m1, way1, H1, N1, r1, r2, r3⟩ := move I hup hg hl
    have n1 : F46_L0 l (cs, m, P, R, h, g, (k : Int)) = some (.nxt (cs ++ [e], m1, P1, R1, h1, g1, ((k + 1 : Nat) : Int))) := by
      have hd : decide ((k : Int) < (l.length : Int)) = true := by rw [decide_eq_true_eq]; omega
      simp only [F46_L0, hd, cond_true, idx_some hg, Option.bind_some, r1, app1 8 (by decide) cs e (by omega), w64_succ hlt (by omega)]
    obtain ⟨cs', P', R', h', g', m', way', H', N', w1, w2, w3, w4⟩ := ih (k + 1) (by omega) (cs := cs ++ [e]) (by simp [hcs]) r3
    exact ⟨cs', P', R', h', g', m', way', H', N', by rw [whileM_nxt n1]; exact w1, by rw [whileM_nxt (r2 cs (by omega))]; exact w2, w3, w4⟩
/-- A word of those that something is true of. -/
def wordOf (Q : Nat → Bool) : Nat → BitVec 32
  | 0 => 0#32
  | k + 1 => cond (Q k) (wordOf Q k ||| (1#32 <<< k)) (wordOf Q k)
theorem wordOf_bit (Q : Nat → Bool) : ∀ n, n ≤ 32 → ∀ b, (wordOf Q n).getLsbD b = (decide (b < n) && Q b)
  | 0, _, b => by simp [wordOf]
  | n + 1, h, b => by
    have ih := wordOf_bit Q n (by omega) b
    unfold wordOf
    cases c : Q n with
    | true =>
      rw [cond_true, BitVec.getLsbD_or, ih, bit_one (by omega), Bool.eq_iff_iff]
      simp only [Bool.or_eq_true, Bool.and_eq_true, decide_eq_true_eq]
      constructor
      · rintro (⟨z1, z2⟩ | rfl)
        · exact ⟨by omega, z2⟩
        · exact ⟨by omega, c⟩
      · rintro ⟨z1, z2⟩
        by_cases e : b = n
        · exact .inr e
        · exact .inl ⟨by omega, z2⟩
    | false =>
      rw [cond_false, ih, Bool.eq_iff_iff]
      simp only [Bool.and_eq_true, decide_eq_true_eq]
      constructor
      · rintro ⟨z1, z2⟩; exact ⟨by omega, z2⟩
      · rintro ⟨z1, z2⟩
        refine ⟨?_, z2⟩
        by_cases e : b = n
        · subst e; rw [c] at z2; cases z2
        · omega
/-- The same by sums. -/
theorem wordOf_add (Q : Nat → Bool) (n : Nat) (hn : n ≤ 32) : (List.range n).foldl (fun t k => cond (Q k) (t + (1#32 <<< k)) t) 0#32 = wordOf Q n := by
  apply BitVec.eq_of_getLsbD_eq
  intro b hb
  rw [fold_plus Q n hn b, wordOf_bit Q n hn b]

def inP (g : Int) (i : Nat) : Bool := decide (g = (i : Int))
def askP (R : List (List Int)) (i : Nat) : Bool := decide ((i : Int) ∈ ge [] R i)
section
variable {n k l : Nat} {up : List Int} {P : List Int} {R : List (List Int)} {h g : Int} {m : Mq} {way : List Lt} {H N : List Bool}
theorem tell1 (I : Inv n k l P R h g m way H N) (hn : n ≤ 6) (hk : k ≤ 60) : whileM (F46_L1 R g) (0, 0, 0) = some (.brk (wordOf (inP g) n, wordOf (askP R) n)) := by
  have := while_upto (body := F46_L1 R g) (fun k => (wordOf (inP g) k, wordOf (askP R) k, (k : Int))) n (c := .brk (wordOf (inP g) n, wordOf (askP R) n)) (fun k hk => ?_) (by simp [F46_L1, I.lr]) (by simp)
  · exact this
  · have hd : decide ((k : Int) < (R.length : Int)) = true := by rw [decide_eq_true_eq, I.lr]; omega
    have ir := idx_ge ([] : List Int) (l := R) (j := k) (by rw [I.lr]; exact hk)
    have rw' := I.rows k
    have e1 : (g == (k : Int)) = inP g k := by unfold inP; rw [Bool.eq_iff_iff]; simp
    have e2 : F84 (ge [] R k) (k : Int) = some (askP R k) := contains_val _ (by omega) _
    cases z1 : inP g k <;> cases z2 : askP R k <;> (rw [z1] at e1; rw [z2] at e2; simp only [F46_L1, hd, cond_true, cond_false, ir, Option.bind_some, e1, e2, shc_nat, wordOf, z1, z2, w64_succ hk (by omega)])
theorem tell2 (I : Inv n k l P R h g m way H N) (hup : up.length = n) (hn : n ≤ 6) (hk : k ≤ 60) : whileM (F48_L2 up N R) (0, 0, 0) = some (.brk (wordOf (inP g) n, wordOf (askP R) n)) := by
  rw [← wordOf_add (inP g) n (by omega), ← wordOf_add (askP R) n (by omega)]
  have := while_upto (body := F48_L2 up N R) (fun k => ((List.range k).foldl (fun t k => cond (inP g k) (t + (1#32 <<< k)) t) 0#32, (List.range k).foldl (fun t k => cond (askP R k) (t + (1#32 <<< k)) t) 0#32, (k : Int))) n (c := .brk ((List.range n).foldl (fun t k => cond (inP g k) (t + (1#32 <<< k)) t) 0#32, (List.range n).foldl (fun t k => cond (askP R k) (t + (1#32 <<< k)) t) 0#32)) (fun k hk => ?_) (by simp [F48_L2, hup]) (by simp)
  · exact this
  · have hd : decide ((k : Int) < (up.length : Int)) = true := by rw [decide_eq_true_eq, hup]; omega
    have ib := idx_ge false (l := N) (j := k) (by rw [I.ln]; exact hk)
    have ir := idx_ge ([] : List Int) (l := R) (j := k) (by rw [I.lr]; exact hk)
    have rw' := I.rows k
    have e1 : ge false N k = inP g k := I.nn k hk
    have e2 : F66 (ge [] R k) (k : Int) = some (askP R k) := has_val _ (by omega) _
    cases z1 : inP g k <;> cases z2 : askP R k <;> (rw [z1] at e1; rw [z2] at e2; simp only [F48_L2, hd, cond_true, cond_false, ib, ir, Option.bind_some, e1, e2, u64_nat (show k ≤ 18446744073709551615 by omega), List.range_succ, List.foldl_append, List.foldl_cons, List.foldl_nil, z1, z2, w64_succ hk (by omega)])
end
theorem sum_val : ∀ (p : List ((Int × Int) × List Bool)) (s : Nat), s + manyIn p ≤ 100000 → foldR F46_L2 p (s : Int) = some (.nxt ((s + manyIn p : Nat) : Int))
  | [], s, _ => by simp [foldR, manyIn]
  | x :: p, s, h => by
    have hm : manyIn (x :: p) = x.2.length + manyIn p := by simp [manyIn]
    rw [hm] at h ⊢
    rw [foldR]
    have e : F46_L2 x.1 x.2 (s : Int) = some (.nxt ((s + x.2.length : Nat) : Int)) := by
      unfold F46_L2
      rw [w64i (by omega) (by omega)]; push_cast; rfl
    rw [e]
    show foldR F46_L2 p ((s + x.2.length : Nat) : Int) = _
    rw [sum_val p (s + x.2.length) (by omega)]
    congr 2; push_cast; omega
/-- Who has it first. -/
theorem first_has {up : List Int} (h6 : up.length ≤ 6) : ∃ H : List Bool, whileM (F48_L0 up) (List.replicate up.length false, 0) = some (.brk H) ∧ H.length = up.length ∧ ∀ i, i < up.length → ge false H i = decide (ge 0 up i = (i : Int)) := by
  have step : ∀ (k : Nat) (t : List Bool), k < up.length → (t.length = up.length ∧ ∀ i, i < k → ge false t i = decide (ge 0 up i = (i : Int))) →
      ∃ t', F48_L0 up (t, (k : Int)) = some (.nxt (t', ((k + 1 : Nat) : Int))) ∧ (t'.length = up.length ∧ ∀ i, i < k + 1 → ge false t' i = decide (ge 0 up i = (i : Int))) := by
    intro k t hk ht
    have hd : decide ((k : Int) < (up.length : Int)) = true := by rw [decide_eq_true_eq]; omega
    have hkt : k < t.length := by rw [ht.1]; exact hk
    have iu := idx_ge (0 : Int) hk
    have it := idx_ge false hkt
    have eb : (ge 0 up k == (k : Int)) = decide (ge 0 up k = (k : Int)) := by rw [Bool.eq_iff_iff]; simp
    refine ⟨t.set k (decide (ge 0 up k = (k : Int))), ?_, by rw [List.length_set]; exact ht.1, fun i hi => ?_⟩
    · simp only [F48_L0, hd, cond_true, iu, it, Option.bind_some, Int.toNat_natCast, eb, w64_succ hk (by omega)]
    · rw [ge_set hkt]
      by_cases e : i = k
      · rw [if_pos e, e]
      · rw [if_neg e]; exact ht.2 i (by omega)
  obtain ⟨t, h1, h2, h3⟩ := while_ex (body := F48_L0 up) (fun k (t : List Bool) => (t, (k : Int))) up.length (fun t => t) (fun k t => t.length = up.length ∧ ∀ i, i < k → ge false t i = decide (ge 0 up i = (i : Int)))
    step (fun t ht => by simp [F48_L0]) (List.replicate up.length false) ⟨by simp, fun i hi => by omega⟩
  exact ⟨t, h1, h2, h3⟩
theorem law_TokenPlays (x0 : List Int) (l0 : x0.length ≤ 9223372036854775807) (w0 : ∀ x ∈ x0, -9223372036854775808 ≤ x ∧ x ≤ 9223372036854775807) (x1 : List Mv) (l1 : x1.length ≤ 9223372036854775807) (w1 : ∀ x ∈ x1, (-9223372036854775808 ≤ x.1 ∧ x.1 ≤ 9223372036854775807) ∧ (-9223372036854775808 ≤ x.2.1 ∧ x.2.1 ≤ 9223372036854775807) ∧ (-9223372036854775808 ≤ x.2.2.1 ∧ x.2.2.1 ≤ 9223372036854775807) ∧ (-9223372036854775808 ≤ x.2.2.2 ∧ x.2.2.2 ≤ 9223372036854775807)) :
    F14 x0 x1 = some true := by
  have h0 := same_codes [] (by simp)
  cases c : (((decide ((x0.length : Int) < 1)) || (decide ((x0.length : Int) > 6))) || (decide ((x1.length : Int) > 60))) with
  | true => simp [F14, F46, F21, F40, c, h0]
  | false =>
    have c' := c
    simp only [Bool.or_eq_false_iff, decide_eq_false_iff_not] at c'
    have hn : x0.length ≤ 6 := by omega
    have hl : x1.length ≤ 60 := by omega
    have eF21 : F21 (x0.length : Int) (x1.length : Int) = some 0 := by simp only [F21, c, cond_false]
    rcases tree_both hn with ⟨r, cc, hc, t1, t2⟩ | ⟨r, hr, t1, t2, t3⟩
    · have n1 : (cc != 0) = true := by simp [hc]
      have n2 : (cc == 0) = false := by simp [hc]
      have eF46 : F46 x0 x1 = some (([], 0, 0, 0), cc) := by simp only [F46, c, cond_false, t1, Option.bind_some, n1, cond_true]
      simp [F14, eF46, eF21, t2, n2, F40, h0]
    · obtain ⟨H, f1, f2, f3⟩ := first_has hn
      have I : Inv x0.length 0 (3 * 0) x0 (List.replicate x0.length []) (r : Int) (-1) mzero [] H (List.replicate x0.length false) := by
        refine ⟨rfl, by simp, f2, by simp, fun i hi => ?_, fun i hi => ?_, WRel.zero, by simp, fun i => ?_, .inl rfl, by omega, ?_⟩
        · rw [f3 i hi, Bool.eq_iff_iff, decide_eq_true_eq, decide_eq_true_eq, t3 i hi]; omega
        · rw [ge_rep _ _ hi]; simp
        · by_cases hi : i < x0.length
          · rw [ge_rep _ _ hi]; simp
          · unfold ge; rw [List.getD_eq_getElem?_getD, List.getElem?_eq_none (by simp; omega)]; simp
        · rw [if_neg (by omega)]; rfl
      obtain ⟨cs', P', R', h', g', m', way', H', N', r1, r2, r3, r4⟩ := run_both rfl hl x1.length 0 (by omega) (cs := []) rfl I
      have m1 := mkl_rep hn (show 1 ≤ 128 by decide) false
      have m24 := mkl_rep hn (show 24 ≤ 128 by decide) ([] : List Int)
      have ap0 : appl 8 ([] : List Int) x0 = some x0 := by
        have := appM 8 (by decide) [] x0 (by simp; omega)
        simpa using this
      have hsum : rangeM m' F46_L2 0 = some (.nxt (way'.length : Int)) := by
        obtain ⟨p, hp⟩ := r4.rel.fin
        refine rangeM_of hp fun p hp => ?_
        have ht := r4.rel.tot hp
        have := sum_val p 0 (by rw [ht]; have := r4.few; omega)
        rw [Nat.zero_add, ht] at this
        exact this
      have n0 : ((0 : Int) != 0) = false := rfl
      have eF46 : F46 x0 x1 = some ((cs', wordOf (inP g') x0.length, wordOf (askP R') x0.length, (way'.length : Int)), 0) := by
        have r1' : whileM (F46_L0 x1) ([], mzero, x0, List.replicate x0.length [], (r : Int), -1, 0) = some (.brk (cs', m', P', R', h', g')) := r1
        simp only [F46, F82, c, cond_false, t1, n0, ap0, m24, Option.bind_some, r1', Ctl.on, tell1 r4 hn hl, hsum, Ctl.onN]
      have eF48 : F48 x0 x1 = some (cs', wordOf (inP g') x0.length, wordOf (askP R') x0.length, (way'.length : Int)) := by
        have r2' : whileM (F48_L1 x0 x1) ([], List.replicate x0.length false, H, List.replicate x0.length [], x0, [], 0) = some (.brk (way', N', H', R', P', cs')) := r2
        simp only [F48, ap0, m1, m24, Option.bind_some, f1, r2', Ctl.on, tell2 r4 rfl hn hl]
      have h1 := same_codes cs' (by omega)
      simp [F14, eF46, eF48, eF21, t2, F40, h1]
end Go.Proofs.Ythfkdepcnhhepaa
