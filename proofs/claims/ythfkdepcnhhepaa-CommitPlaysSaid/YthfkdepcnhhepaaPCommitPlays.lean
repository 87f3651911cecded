/-
  The plain law of CommitPlays.
-/
import Derived.Test.YthfkdepcnhhepaaCM
import Derived.Test.YthfkdepcnhhepaaPw
import Derived.Test.YthfkdepcnhhepaaBk6
namespace Go.Proofs.Ythfkdepcnhhepaa
open Go Go.Bk
set_option linter.unusedVariables false
set_option linter.unusedSimpArgs false

abbrev Mv := Int × Int × Int × Int
def vi (y : List Int) (j : Nat) : Int := y.getD j 0
def gb (y : List Bool) (j : Nat) : Bool := y.getD j false
theorem idx_vi {y : List Int} {j : Nat} (h : j < y.length) : idx y (j : Int) = some (vi y j) := idx_some (by simp [vi, List.getD_eq_getElem?_getD, List.getElem?_eq_getElem h])
theorem idx_gb {y : List Bool} {j : Nat} (h : j < y.length) : idx y (j : Int) = some (gb y j) := idx_some (by simp [gb, List.getD_eq_getElem?_getD, List.getElem?_eq_getElem h])
theorem idx_set {α : Type} {y : List α} {j : Nat} (h : j < y.length) (v : α) : idx (y.set j v) (j : Int) = some v := idx_some (by rw [List.getElem?_set_self h])
theorem set_gb {y : List Bool} {j : Nat} (h : j < y.length) (hv : gb y j = true) : y.set j true = y := by
  have h0 : y[j]? = some true := by rw [← hv]; simp [gb, List.getD_eq_getElem?_getD, List.getElem?_eq_getElem h]
  apply List.ext_getElem?
  intro b
  rw [List.getElem?_set]
  by_cases c : j = b
  · subst c; rw [h0]; simp [h]
  · simp [c]
theorem app8 (l : List Int) (z : Int) (h : l.length ≤ 60) : appl 8 l [z] = some (l ++ [z]) := by
  unfold appl; rw [if_pos]
  exact ⟨by simp; omega, by simp; omega⟩
def dec (x : Int) : Bool := (x == 2) || (x == 3)
theorem f138 (x : Int) : F138 x = some (dec x) := rfl
theorem f79_val {c y : List Int} {j : Nat} (h : j < y.length) : F79 (j : Int) (c, y) = some (dec (vi y j)) := by
  unfold F79 dec
  simp only [idx_vi h, Option.bind_some]
  cases (vi y j == 2) <;> simp
theorem f79_0 {c y : List Int} (h : 0 < y.length) : F79 0 (c, y) = some (dec (vi y 0)) := f79_val (j := 0) h
/-- All, or nobody. -/
def all1 (Y : List Bool) : Bool := (Y.drop 1).all id
def tal (S : List Int) (Y : List Bool) : List Int := S.set 0 (cond (all1 Y) 2 3)
theorem tal_prog {S : List Int} {Y : List Bool} {n : Nat} (hn : 1 ≤ n) (hn6 : n ≤ 6) (hS : S.length = n) (hY : Y.length = n) : whileM (F120_L0 (Y.drop 1)) (S.set 0 2, 0) = some (.brk (tal S Y)) := by
  have hw := while_upto (body := F120_L0 (Y.drop 1)) (fun k => (S.set 0 (cond (((Y.drop 1).take k).all id) 2 3), (k : Int))) (Y.drop 1).length (c := .brk (tal S Y))
    (fun k hk => by
      have hg : (Y.drop 1)[k]? = some (Y.drop 1)[k] := List.getElem?_eq_getElem hk
      have hkl : decide ((k : Int) < ((Y.drop 1).length : Int)) = true := by rw [decide_eq_true_eq]; omega
      have hl : (Y.drop 1).length ≤ 6 := by simp; omega
      have hn1 : ((Y.drop 1).take (k + 1)).all id = (((Y.drop 1).take k).all id && (Y.drop 1)[k]) := by rw [List.take_add_one, hg, List.all_append]; simp
      have q : ∀ v : Int, idx (S.set 0 v) 0 = some v := fun v => idx_set (j := 0) (by omega) v
      rw [hn1]
      generalize ((Y.drop 1).take k).all id = z
      generalize (Y.drop 1)[k] = x at hg
      simp only [F120_L0, idx_some hg, q, Option.bind_some, hkl, cond_true, w64_succ hk (by omega)]
      cases x <;> cases z <;> simp [List.set_set])
    (by
      have hkl : decide ((((Y.drop 1).length : Nat) : Int) < ((Y.drop 1).length : Int)) = false := by rw [decide_eq_false_iff_not]; omega
      simp only [F120_L0, hkl, cond_false, List.take_length]
      rfl) (by intro s h; cases h)
  exact hw
theorem tal_ref {S : List Int} {Y : List Bool} {n : Nat} (hn : 1 ≤ n) (hn6 : n ≤ 6) (hS : S.length = n) (hY : Y.length = n) : whileM (F45_L1 (n : Int) Y) (S.set 0 2, 1) = some (.brk (tal S Y)) := by
  have hw := while_upto (body := F45_L1 (n : Int) Y) (fun k => (S.set 0 (cond (((Y.drop 1).take k).all id) 2 3), ((k + 1 : Nat) : Int))) (n - 1) (c := .brk (tal S Y))
    (fun k hk => by
      have hk1 : k + 1 < n := by omega
      have hkd : k < (Y.drop 1).length := by simp; omega
      have hg : (Y.drop 1)[k]? = some (Y.drop 1)[k] := List.getElem?_eq_getElem hkd
      have hg2 : Y[k + 1]? = some (Y.drop 1)[k] := by rw [← hg, List.getElem?_drop]; congr 1; omega
      have hkl : decide (((k + 1 : Nat) : Int) < (n : Int)) = true := by rw [decide_eq_true_eq]; omega
      have hn1 : ((Y.drop 1).take (k + 1)).all id = (((Y.drop 1).take k).all id && (Y.drop 1)[k]) := by rw [List.take_add_one, hg, List.all_append]; simp
      have q : ∀ v : Int, idx (S.set 0 v) 0 = some v := fun v => idx_set (j := 0) (by omega) v
      have hwz : w64 (((k + 1 : Nat) : Int) + 1) = ((k + 1 + 1 : Nat) : Int) := w64_succ hk1 (by omega)
      rw [hn1]
      generalize ((Y.drop 1).take k).all id = z
      generalize (Y.drop 1)[k] = x at hg2
      simp only [F45_L1, idx_some hg2, q, Option.bind_some, hkl, cond_true, hwz]
      cases x <;> cases z <;> simp [List.set_set])
    (by
      have hkl : decide (((n - 1 + 1 : Nat) : Int) < (n : Int)) = false := by rw [decide_eq_false_iff_not]; omega
      have ht : (Y.drop 1).take (n - 1) = Y.drop 1 := List.take_of_length_le (by simp; omega)
      simp only [F45_L1, hkl, cond_false, ht]
      rfl) (by intro s h; cases h)
  exact hw
structure Ok3 (n : Nat) (S : List Int) (G Y : List Bool) : Prop where
  s : S.length = n
  g : G.length = n
  y : Y.length = n
/-- What one move does, in both. -/
def Same (n : Nat) (ms : List Mv) (k : Nat) (S : List Int) (G Y : List Bool) (e : Mv) : Prop :=
  ∃ (c : Int) (S' : List Int) (G' Y' : List Bool), Ok3 n S' G' Y' ∧ F78 (S, G, Y) e = some (c, (S', G', Y')) ∧
    ∀ codes : List Int, codes.length = k → F45_L0 (n : Int) ms (codes, Y, G, S, (k : Int)) = some (.nxt (codes ++ [c], Y', G', S', ((k + 1 : Nat) : Int)))
section
variable {n : Nat} (hn : 1 ≤ n) (hn6 : n ≤ 6) {ms : List Mv} {k : Nat} (hms : ms.length ≤ 60) {S : List Int} {G Y : List Bool} (I : Ok3 n S G Y)
include hn hn6 hms I
theorem step_out {K F T V : Int} (hg : ms[k]? = some (K, F, T, V)) (hK : ((decide (K < 1)) || (decide (K > 6))) = true) : Same n ms k S G Y (K, F, T, V) := by
  have hk := lt_of_get hg
  have hkl : decide ((k : Int) < (ms.length : Int)) = true := by simpa using hk
  have hw := w64_succ hk (show ms.length ≤ 9223372036854775807 by omega)
  have hnn := hn
  have hnn6 := hn6
  refine ⟨6, S, G, Y, I, ?_, fun codes hc => ?_⟩
  · simp only [F78, hK, cond_true]
  · have hK' := hK
    simp only [Bool.or_eq_true, decide_eq_true_eq] at hK'
    have e1 : (K == 1) = false := by rw [beq_eq_false_iff_ne]; omega
    have e2 : (K == 2) = false := by rw [beq_eq_false_iff_ne]; omega
    have e3 : (K == 3) = false := by rw [beq_eq_false_iff_ne]; omega
    have e6 : (K == 6) = false := by rw [beq_eq_false_iff_ne]; omega
    simp only [F45_L0, F80, idx_some hg, hkl, hw, hK, e1, e2, e3, e6, Bool.or_false, Option.bind_some, cond_true, cond_false, app8 codes _ (show codes.length ≤ 60 by omega)]
theorem step_back {F T V : Int} (hg : ms[k]? = some (5, F, T, V)) : Same n ms k S G Y (5, F, T, V) := by
  have hk := lt_of_get hg
  have hkl : decide ((k : Int) < (ms.length : Int)) = true := by simpa using hk
  have hw := w64_succ hk (show ms.length ≤ 9223372036854775807 by omega)
  have hS := I.s
  have hG := I.g
  have hY := I.y
  have s0 : idx S 0 = some (vi S 0) := idx_vi (j := 0) (by omega)
  have g0 : idx G 0 = some (gb G 0) := idx_gb (j := 0) (by omega)
  have y0 : ∀ c, F79 0 (c, S) = some (dec (vi S 0)) := fun c => f79_0 (by omega)
  have gl : (S.length : Int) = n := by omega
  have hpos : 0 < n := by omega
  have hnz : ¬ n = 0 := by omega
  by_cases hF : 0 ≤ F ∧ F < n
  · obtain ⟨i, rfl⟩ : ∃ i : Nat, F = i := ⟨F.toNat, by omega⟩
    have hi : i < n := by omega
    have si : idx S (i : Int) = some (vi S i) := idx_vi (by omega)
    have gi : idx G (i : Int) = some (gb G i) := idx_gb (by omega)
    have yi : idx Y (i : Int) = some (gb Y i) := idx_gb (by omega)
    have di : ∀ c, F79 (i : Int) (c, S) = some (dec (vi S i)) := fun c => f79_val (by omega)
    have r1 : ¬ (i : Int) < 0 := by omega
    have r2 : ¬ (n : Int) ≤ (i : Int) := by omega
    have r3 : (0 : Int) ≤ (i : Int) := by omega
    have r4 : (i : Int) < (n : Int) := by omega
    cases x : gb G i with
    | false =>
      refine ⟨7, S, G, Y, ⟨hS, hG, hY⟩, ?_, fun codes hc => ?_⟩
      · simp [F78, F116, F117, F118, F119, F120, F121, F122, f138, gl, hpos, hnz, si, gi, yi, di, s0, g0, y0, r1, r2, r3, r4, x]
      · simp [F45_L0, F80, idx_some hg, hk, hkl, hw, app8 codes _ (show codes.length ≤ 60 by omega), hpos, hnz, si, gi, yi, di, s0, g0, y0, r1, r2, r3, r4, x]
    | true =>
      by_cases z : i = 0
      · subst z
        cases d : dec (vi S 0) with
        | true =>
          refine ⟨0, S, G.set 0 false, Y, ⟨by simp [hS], by simp [hG], by simp [hY]⟩, ?_, fun codes hc => ?_⟩
          · simp [F78, F116, F117, F118, F119, F120, F121, F122, f138, gl, hpos, hnz, si, gi, yi, di, s0, g0, y0, r1, r2, r3, r4, x, d]
          · simp [F45_L0, F80, idx_some hg, hk, hkl, hw, app8 codes _ (show codes.length ≤ 60 by omega), hpos, hnz, si, gi, yi, di, s0, g0, y0, r1, r2, r3, r4, x, d]
        | false =>
          refine ⟨0, S.set 0 3, G.set 0 false, Y, ⟨by simp [hS], by simp [hG], by simp [hY]⟩, ?_, fun codes hc => ?_⟩
          · simp [F78, F116, F117, F118, F119, F120, F121, F122, f138, gl, hpos, hnz, si, gi, yi, di, s0, g0, y0, r1, r2, r3, r4, x, d]
          · simp [F45_L0, F80, idx_some hg, hk, hkl, hw, app8 codes _ (show codes.length ≤ 60 by omega), hpos, hnz, si, gi, yi, di, s0, g0, y0, r1, r2, r3, r4, x, d]
      · have z' : ¬ (i : Int) = 0 := by omega
        have zb : ((i : Int) == 0) = false := by simpa using z'
        refine ⟨0, S, G.set i false, Y, ⟨by simp [hS], by simp [hG], by simp [hY]⟩, ?_, fun codes hc => ?_⟩
        · simp [F78, F116, F117, F118, F119, F120, F121, F122, f138, gl, hpos, hnz, si, gi, yi, di, s0, g0, y0, r1, r2, r3, r4, x, z, z', zb]
        · simp [F45_L0, F80, idx_some hg, hk, hkl, hw, app8 codes _ (show codes.length ≤ 60 by omega), hpos, hnz, si, gi, yi, di, s0, g0, y0, r1, r2, r3, r4, x, z, z', zb]
  · by_cases f : F < 0
    · have a1 : F < 0 := f
      have a2 : ¬ 0 ≤ F := by omega
      have a3 : ¬ 0 < F := by omega
      have a4 : F < (n : Int) := by omega
      have a5 : ¬ (n : Int) ≤ F := by omega
      have a6 : ¬ F = 0 := by omega
      refine ⟨2, S, G, Y, ⟨hS, hG, hY⟩, ?_, fun codes hc => ?_⟩
      · simp [F78, F116, F117, F118, F119, F120, F121, F122, f138, gl, hpos, hnz, a1, a2, a3, a4, a5, a6]
      · simp [F45_L0, F80, idx_some hg, hk, hkl, hw, app8 codes _ (show codes.length ≤ 60 by omega), hpos, hnz, a1, a2, a3, a4, a5, a6]
    · have a1 : ¬ F < 0 := f
      have a2 : 0 ≤ F := by omega
      have a3 : 0 < F := by omega
      have a4 : ¬ F < (n : Int) := by omega
      have a5 : (n : Int) ≤ F := by omega
      have a6 : ¬ F = 0 := by omega
      refine ⟨2, S, G, Y, ⟨hS, hG, hY⟩, ?_, fun codes hc => ?_⟩
      · simp [F78, F116, F117, F118, F119, F120, F121, F122, f138, gl, hpos, hnz, a1, a2, a3, a4, a5, a6]
      · simp [F45_L0, F80, idx_some hg, hk, hkl, hw, app8 codes _ (show codes.length ≤ 60 by omega), hpos, hnz, a1, a2, a3, a4, a5, a6]
theorem step_crash {F T V : Int} (hg : ms[k]? = some (4, F, T, V)) : Same n ms k S G Y (4, F, T, V) := by
  have hk := lt_of_get hg
  have hkl : decide ((k : Int) < (ms.length : Int)) = true := by simpa using hk
  have hw := w64_succ hk (show ms.length ≤ 9223372036854775807 by omega)
  have hS := I.s
  have hG := I.g
  have hY := I.y
  have s0 : idx S 0 = some (vi S 0) := idx_vi (j := 0) (by omega)
  have g0 : idx G 0 = some (gb G 0) := idx_gb (j := 0) (by omega)
  have y0 : ∀ c, F79 0 (c, S) = some (dec (vi S 0)) := fun c => f79_0 (by omega)
  have gl : (S.length : Int) = n := by omega
  have hpos : 0 < n := by omega
  have hnz : ¬ n = 0 := by omega
  by_cases hF : 0 ≤ F ∧ F < n
  · obtain ⟨i, rfl⟩ : ∃ i : Nat, F = i := ⟨F.toNat, by omega⟩
    have hi : i < n := by omega
    have si : idx S (i : Int) = some (vi S i) := idx_vi (by omega)
    have gi : idx G (i : Int) = some (gb G i) := idx_gb (by omega)
    have yi : idx Y (i : Int) = some (gb Y i) := idx_gb (by omega)
    have di : ∀ c, F79 (i : Int) (c, S) = some (dec (vi S i)) := fun c => f79_val (by omega)
    have r1 : ¬ (i : Int) < 0 := by omega
    have r2 : ¬ (n : Int) ≤ (i : Int) := by omega
    have r3 : (0 : Int) ≤ (i : Int) := by omega
    have r4 : (i : Int) < (n : Int) := by omega
    cases x : gb G i with
    | false =>
      refine ⟨0, S, G.set i true, Y, ⟨by simp [hS], by simp [hG], by simp [hY]⟩, ?_, fun codes hc => ?_⟩
      · simp [F78, F116, F117, F118, F119, F120, F121, F122, f138, gl, hpos, hnz, si, gi, yi, di, s0, g0, y0, r1, r2, r3, r4, x]
      · simp [F45_L0, F80, idx_some hg, hk, hkl, hw, app8 codes _ (show codes.length ≤ 60 by omega), hpos, hnz, si, gi, yi, di, s0, g0, y0, r1, r2, r3, r4, x]
    | true =>
      have hs := set_gb (y := G) (j := i) (by omega) x
      refine ⟨7, S, G, Y, ⟨hS, hG, hY⟩, ?_, fun codes hc => ?_⟩
      · simp [F78, F116, F117, F118, F119, F120, F121, F122, f138, gl, hpos, hnz, si, gi, yi, di, s0, g0, y0, r1, r2, r3, r4, x, hs]
      · simp [F45_L0, F80, idx_some hg, hk, hkl, hw, app8 codes _ (show codes.length ≤ 60 by omega), hpos, hnz, si, gi, yi, di, s0, g0, y0, r1, r2, r3, r4, x, hs]
  · by_cases f : F < 0
    · have a1 : F < 0 := f
      have a2 : ¬ 0 ≤ F := by omega
      have a3 : ¬ 0 < F := by omega
      have a4 : F < (n : Int) := by omega
      have a5 : ¬ (n : Int) ≤ F := by omega
      have a6 : ¬ F = 0 := by omega
      refine ⟨2, S, G, Y, ⟨hS, hG, hY⟩, ?_, fun codes hc => ?_⟩
      · simp [F78, F116, F117, F118, F119, F120, F121, F122, f138, gl, hpos, hnz, a1, a2, a3, a4, a5, a6]
      · simp [F45_L0, F80, idx_some hg, hk, hkl, hw, app8 codes _ (show codes.length ≤ 60 by omega), hpos, hnz, a1, a2, a3, a4, a5, a6]
    · have a1 : ¬ F < 0 := f
      have a2 : 0 ≤ F := by omega
      have a3 : 0 < F := by omega
      have a4 : ¬ F < (n : Int) := by omega
      have a5 : (n : Int) ≤ F := by omega
      have a6 : ¬ F = 0 := by omega
      refine ⟨2, S, G, Y, ⟨hS, hG, hY⟩, ?_, fun codes hc => ?_⟩
      · simp [F78, F116, F117, F118, F119, F120, F121, F122, f138, gl, hpos, hnz, a1, a2, a3, a4, a5, a6]
      · simp [F45_L0, F80, idx_some hg, hk, hkl, hw, app8 codes _ (show codes.length ≤ 60 by omega), hpos, hnz, a1, a2, a3, a4, a5, a6]
theorem step_vote {F T V : Int} (hg : ms[k]? = some (1, F, T, V)) : Same n ms k S G Y (1, F, T, V) := by
  have hk := lt_of_get hg
  have hkl : decide ((k : Int) < (ms.length : Int)) = true := by simpa using hk
  have hw := w64_succ hk (show ms.length ≤ 9223372036854775807 by omega)
  have hS := I.s
  have hG := I.g
  have hY := I.y
  have s0 : idx S 0 = some (vi S 0) := idx_vi (j := 0) (by omega)
  have g0 : idx G 0 = some (gb G 0) := idx_gb (j := 0) (by omega)
  have y0 : ∀ c, F79 0 (c, S) = some (dec (vi S 0)) := fun c => f79_0 (by omega)
  have gl : (S.length : Int) = n := by omega
  have hpos : 0 < n := by omega
  have hnz : ¬ n = 0 := by omega
  by_cases hF : 0 < F ∧ F < n
  · obtain ⟨i, rfl⟩ : ∃ i : Nat, F = i := ⟨F.toNat, by omega⟩
    have hi : i < n := by omega
    have si : idx S (i : Int) = some (vi S i) := idx_vi (by omega)
    have gi : idx G (i : Int) = some (gb G i) := idx_gb (by omega)
    have yi : idx Y (i : Int) = some (gb Y i) := idx_gb (by omega)
    have di : ∀ c, F79 (i : Int) (c, S) = some (dec (vi S i)) := fun c => f79_val (by omega)
    have r0 : (0 : Int) < (i : Int) := by omega
    have rz : ¬ (i : Int) = 0 := by omega
    have rz' : ¬ i = 0 := by omega
    have zb : ((i : Int) == 0) = false := by simpa using rz
    have r0n : 0 < i := by omega
    have r1 : ¬ (i : Int) < 0 := by omega
    have r2 : ¬ (n : Int) ≤ (i : Int) := by omega
    have r3 : (0 : Int) ≤ (i : Int) := by omega
    have r4 : (i : Int) < (n : Int) := by omega
    cases x : gb G i with
    | true =>
      refine ⟨4, S, G, Y, ⟨hS, hG, hY⟩, ?_, fun codes hc => ?_⟩
      · simp [F78, F116, F117, F118, F119, F120, F121, F122, f138, gl, hpos, hnz, si, gi, yi, di, s0, g0, y0, r1, r2, r3, r4, r0, rz, rz', zb, r0n, x]
      · simp [F45_L0, F80, idx_some hg, hk, hkl, hw, app8 codes _ (show codes.length ≤ 60 by omega), hpos, hnz, si, gi, yi, di, s0, g0, y0, r1, r2, r3, r4, r0, rz, rz', zb, r0n, x]
    | false =>
      by_cases v : vi S i = 0
      · by_cases w : V = 1
        · subst w
          have q := idx_set (y := S) (j := i) (by omega) 3
          refine ⟨0, S.set i 1, G, Y.set i (!gb G 0), ⟨by simp [hS], by simp [hG], by simp [hY]⟩, ?_, fun codes hc => ?_⟩
          · simp [F78, F116, F117, F118, F119, F120, F121, F122, f138, gl, hpos, hnz, si, gi, yi, di, s0, g0, y0, r1, r2, r3, r4, r0, rz, rz', zb, r0n, x, v, q, List.set_set]
          · simp [F45_L0, F80, idx_some hg, hk, hkl, hw, app8 codes _ (show codes.length ≤ 60 by omega), hpos, hnz, si, gi, yi, di, s0, g0, y0, r1, r2, r3, r4, r0, rz, rz', zb, r0n, x, v, q, List.set_set]
        · have wb : (V == 1) = false := by simpa using w
          refine ⟨0, S.set i 3, G, Y, ⟨by simp [hS], by simp [hG], by simp [hY]⟩, ?_, fun codes hc => ?_⟩
          · simp [F78, F116, F117, F118, F119, F120, F121, F122, f138, gl, hpos, hnz, si, gi, yi, di, s0, g0, y0, r1, r2, r3, r4, r0, rz, rz', zb, r0n, x, v, w, wb]
          · simp [F45_L0, F80, idx_some hg, hk, hkl, hw, app8 codes _ (show codes.length ≤ 60 by omega), hpos, hnz, si, gi, yi, di, s0, g0, y0, r1, r2, r3, r4, r0, rz, rz', zb, r0n, x, v, w, wb]
      · have vb : (vi S i != 0) = true := by simpa using v
        refine ⟨7, S, G, Y, ⟨hS, hG, hY⟩, ?_, fun codes hc => ?_⟩
        · simp [F78, F116, F117, F118, F119, F120, F121, F122, f138, gl, hpos, hnz, si, gi, yi, di, s0, g0, y0, r1, r2, r3, r4, r0, rz, rz', zb, r0n, x, v, vb]
        · simp [F45_L0, F80, idx_some hg, hk, hkl, hw, app8 codes _ (show codes.length ≤ 60 by omega), hpos, hnz, si, gi, yi, di, s0, g0, y0, r1, r2, r3, r4, r0, rz, rz', zb, r0n, x, v, vb]
  · by_cases f0 : F = 0
    · subst f0
      refine ⟨2, S, G, Y, ⟨hS, hG, hY⟩, ?_, fun codes hc => ?_⟩
      · simp [F78, F116, F117, F118, F119, F120, F121, F122, f138, gl, hpos, hnz, ]
      · simp [F45_L0, F80, idx_some hg, hk, hkl, hw, app8 codes _ (show codes.length ≤ 60 by omega), hpos, hnz, ]
    · by_cases f : F < 0
      · have a1 : F < 0 := f
        have a2 : ¬ 0 ≤ F := by omega
        have a3 : ¬ 0 < F := by omega
        have a4 : F < (n : Int) := by omega
        have a5 : ¬ (n : Int) ≤ F := by omega
        have a6 : ¬ F = 0 := by omega
        refine ⟨2, S, G, Y, ⟨hS, hG, hY⟩, ?_, fun codes hc => ?_⟩
        · simp [F78, F116, F117, F118, F119, F120, F121, F122, f138, gl, hpos, hnz, a1, a2, a3, a4, a5, a6]
        · simp [F45_L0, F80, idx_some hg, hk, hkl, hw, app8 codes _ (show codes.length ≤ 60 by omega), hpos, hnz, a1, a2, a3, a4, a5, a6]
      · have a1 : ¬ F < 0 := f
        have a2 : 0 ≤ F := by omega
        have a3 : 0 < F := by omega
        have a4 : ¬ F < (n : Int) := by omega
        have a5 : (n : Int) ≤ F := by omega
        have a6 : ¬ F = 0 := by omega
        refine ⟨2, S, G, Y, ⟨hS, hG, hY⟩, ?_, fun codes hc => ?_⟩
        · simp [F78, F116, F117, F118, F119, F120, F121, F122, f138, gl, hpos, hnz, a1, a2, a3, a4, a5, a6]
        · simp [F45_L0, F80, idx_some hg, hk, hkl, hw, app8 codes _ (show codes.length ≤ 60 by omega), hpos, hnz, a1, a2, a3, a4, a5, a6]
theorem step_tally {F T V : Int} (hg : ms[k]? = some (2, F, T, V)) : Same n ms k S G Y (2, F, T, V) := by
  have hk := lt_of_get hg
  have hkl : decide ((k : Int) < (ms.length : Int)) = true := by simpa using hk
  have hw := w64_succ hk (show ms.length ≤ 9223372036854775807 by omega)
  have hS := I.s
  have hG := I.g
  have hY := I.y
  have s0 : idx S 0 = some (vi S 0) := idx_vi (j := 0) (by omega)
  have g0 : idx G 0 = some (gb G 0) := idx_gb (j := 0) (by omega)
  have y0 : ∀ c, F79 0 (c, S) = some (dec (vi S 0)) := fun c => f79_0 (by omega)
  have gl : (S.length : Int) = n := by omega
  have hpos : 0 < n := by omega
  have hnz : ¬ n = 0 := by omega
  have p0 : (0 : Int) < (n : Int) := by omega
  have p1 : ¬ (n : Int) ≤ 0 := by omega
  have hsl : slI Y 1 (Y.length : Int) = some (Y.drop 1) := by unfold slI; rw [if_pos ⟨by omega, by omega, by omega⟩]; simp
  cases x : gb G 0 with
  | true =>
    refine ⟨4, S, G, Y, ⟨hS, hG, hY⟩, ?_, fun codes hc => ?_⟩
    · simp [F78, F116, F117, F118, F119, F120, F121, F122, f138, gl, hpos, hnz, s0, g0, y0, p0, p1, x]
    · simp [F45_L0, F80, idx_some hg, hk, hkl, hw, app8 codes _ (show codes.length ≤ 60 by omega), hpos, hnz, s0, g0, y0, p0, p1, x]
  | false =>
    cases d : dec (vi S 0) with
    | true =>
      refine ⟨7, S, G, Y, ⟨hS, hG, hY⟩, ?_, fun codes hc => ?_⟩
      · simp [F78, F116, F117, F118, F119, F120, F121, F122, f138, gl, hpos, hnz, s0, g0, y0, p0, p1, x, d]
      · simp [F45_L0, F80, idx_some hg, hk, hkl, hw, app8 codes _ (show codes.length ≤ 60 by omega), hpos, hnz, s0, g0, y0, p0, p1, x, d]
    | false =>
      have w1 := tal_prog hn hn6 hS hY
      rw [List.drop_one] at w1
      have w2 := tal_ref hn hn6 hS hY
      refine ⟨0, tal S Y, G, Y, ⟨by simp [tal, hS], hG, hY⟩, ?_, fun codes hc => ?_⟩
      · simp [F78, F116, F117, F118, F119, F120, F121, F122, f138, gl, hpos, hnz, s0, g0, y0, p0, p1, x, d, hsl, w1, w2]
      · simp [F45_L0, F80, idx_some hg, hk, hkl, hw, app8 codes _ (show codes.length ≤ 60 by omega), hpos, hnz, s0, g0, y0, p0, p1, x, d, hsl, w1, w2]
theorem step_tell {F T V : Int} (hg : ms[k]? = some (3, F, T, V)) : Same n ms k S G Y (3, F, T, V) := by
  have hk := lt_of_get hg
  have hkl : decide ((k : Int) < (ms.length : Int)) = true := by simpa using hk
  have hw := w64_succ hk (show ms.length ≤ 9223372036854775807 by omega)
  have hS := I.s
  have hG := I.g
  have hY := I.y
  have s0 : idx S 0 = some (vi S 0) := idx_vi (j := 0) (by omega)
  have g0 : idx G 0 = some (gb G 0) := idx_gb (j := 0) (by omega)
  have y0 : ∀ c, F79 0 (c, S) = some (dec (vi S 0)) := fun c => f79_0 (by omega)
  have gl : (S.length : Int) = n := by omega
  have hpos : 0 < n := by omega
  have hnz : ¬ n = 0 := by omega
  have p0 : (0 : Int) < (n : Int) := by omega
  have p1 : ¬ (n : Int) ≤ 0 := by omega
  by_cases hT : 0 < T ∧ T < n
  · obtain ⟨t, rfl⟩ : ∃ t : Nat, T = t := ⟨T.toNat, by omega⟩
    have st : idx S (t : Int) = some (vi S t) := idx_vi (by omega)
    have gt : idx G (t : Int) = some (gb G t) := idx_gb (by omega)
    have dt : ∀ c, F79 (t : Int) (c, S) = some (dec (vi S t)) := fun c => f79_val (by omega)
    have t0 : (0 : Int) < (t : Int) := by omega
    have t1 : (t : Int) < (n : Int) := by omega
    have t2 : ¬ (n : Int) ≤ (t : Int) := by omega
    have t3 : 0 < t := by omega
    have t4 : t < n := by omega
    cases x : gb G 0 with
    | true =>
      refine ⟨4, S, G, Y, ⟨hS, hG, hY⟩, ?_, fun codes hc => ?_⟩
      · simp [F78, F116, F117, F118, F119, F120, F121, F122, f138, gl, hpos, hnz, s0, g0, y0, p0, p1, st, gt, dt, t0, t1, t2, t3, t4, x]
      · simp [F45_L0, F80, idx_some hg, hk, hkl, hw, app8 codes _ (show codes.length ≤ 60 by omega), hpos, hnz, s0, g0, y0, p0, p1, st, gt, dt, t0, t1, t2, t3, t4, x]
    | false =>
      cases y : gb G t with
      | true =>
        refine ⟨4, S, G, Y, ⟨hS, hG, hY⟩, ?_, fun codes hc => ?_⟩
        · simp [F78, F116, F117, F118, F119, F120, F121, F122, f138, gl, hpos, hnz, s0, g0, y0, p0, p1, st, gt, dt, t0, t1, t2, t3, t4, x, y]
        · simp [F45_L0, F80, idx_some hg, hk, hkl, hw, app8 codes _ (show codes.length ≤ 60 by omega), hpos, hnz, s0, g0, y0, p0, p1, st, gt, dt, t0, t1, t2, t3, t4, x, y]
      | false =>
        cases d : dec (vi S 0) with
        | false =>
          refine ⟨5, S, G, Y, ⟨hS, hG, hY⟩, ?_, fun codes hc => ?_⟩
          · simp [F78, F116, F117, F118, F119, F120, F121, F122, f138, gl, hpos, hnz, s0, g0, y0, p0, p1, st, gt, dt, t0, t1, t2, t3, t4, x, y, d]
          · simp [F45_L0, F80, idx_some hg, hk, hkl, hw, app8 codes _ (show codes.length ≤ 60 by omega), hpos, hnz, s0, g0, y0, p0, p1, st, gt, dt, t0, t1, t2, t3, t4, x, y, d]
        | true =>
          cases c : dec (vi S t) with
          | true =>
            refine ⟨8, S, G, Y, ⟨hS, hG, hY⟩, ?_, fun codes hc => ?_⟩
            · simp [F78, F116, F117, F118, F119, F120, F121, F122, f138, gl, hpos, hnz, s0, g0, y0, p0, p1, st, gt, dt, t0, t1, t2, t3, t4, x, y, d, c]
            · simp [F45_L0, F80, idx_some hg, hk, hkl, hw, app8 codes _ (show codes.length ≤ 60 by omega), hpos, hnz, s0, g0, y0, p0, p1, st, gt, dt, t0, t1, t2, t3, t4, x, y, d, c]
          | false =>
            refine ⟨0, S.set t (vi S 0), G, Y, ⟨by simp [hS], by simp [hG], by simp [hY]⟩, ?_, fun codes hc => ?_⟩
            · simp [F78, F116, F117, F118, F119, F120, F121, F122, f138, gl, hpos, hnz, s0, g0, y0, p0, p1, st, gt, dt, t0, t1, t2, t3, t4, x, y, d, c]
            · simp [F45_L0, F80, idx_some hg, hk, hkl, hw, app8 codes _ (show codes.length ≤ 60 by omega), hpos, hnz, s0, g0, y0, p0, p1, st, gt, dt, t0, t1, t2, t3, t4, x, y, d, c]
  · by_cases f : 0 < T
    · have a1 : 0 < T := f
      have a2 : ¬ T < (n : Int) := by omega
      have a3 : (n : Int) ≤ T := by omega
      refine ⟨2, S, G, Y, ⟨hS, hG, hY⟩, ?_, fun codes hc => ?_⟩
      · simp [F78, F116, F117, F118, F119, F120, F121, F122, f138, gl, hpos, hnz, a1, a2, a3, p0, p1]
      · simp [F45_L0, F80, idx_some hg, hk, hkl, hw, app8 codes _ (show codes.length ≤ 60 by omega), hpos, hnz, a1, a2, a3, p0, p1]
    · have a1 : ¬ 0 < T := f
      have a2 : T < (n : Int) := by omega
      have a3 : ¬ (n : Int) ≤ T := by omega
      refine ⟨2, S, G, Y, ⟨hS, hG, hY⟩, ?_, fun codes hc => ?_⟩
      · simp [F78, F116, F117, F118, F119, F120, F121, F122, f138, gl, hpos, hnz, a1, a2, a3, p0, p1]
      · simp [F45_L0, F80, idx_some hg, hk, hkl, hw, app8 codes _ (show codes.length ≤ 60 by omega), hpos, hnz, a1, a2, a3, p0, p1]
theorem step_ask {F T V : Int} (hg : ms[k]? = some (6, F, T, V)) : Same n ms k S G Y (6, F, T, V) := by
  have hk := lt_of_get hg
  have hkl : decide ((k : Int) < (ms.length : Int)) = true := by simpa using hk
  have hw := w64_succ hk (show ms.length ≤ 9223372036854775807 by omega)
  have hS := I.s
  have hG := I.g
  have hY := I.y
  have s0 : idx S 0 = some (vi S 0) := idx_vi (j := 0) (by omega)
  have g0 : idx G 0 = some (gb G 0) := idx_gb (j := 0) (by omega)
  have y0 : ∀ c, F79 0 (c, S) = some (dec (vi S 0)) := fun c => f79_0 (by omega)
  have gl : (S.length : Int) = n := by omega
  have hpos : 0 < n := by omega
  have hnz : ¬ n = 0 := by omega
  by_cases hF : 0 < F ∧ F < n
  · obtain ⟨i, rfl⟩ : ∃ i : Nat, F = i := ⟨F.toNat, by omega⟩
    have hi : i < n := by omega
    have si : idx S (i : Int) = some (vi S i) := idx_vi (by omega)
    have gi : idx G (i : Int) = some (gb G i) := idx_gb (by omega)
    have yi : idx Y (i : Int) = some (gb Y i) := idx_gb (by omega)
    have di : ∀ c, F79 (i : Int) (c, S) = some (dec (vi S i)) := fun c => f79_val (by omega)
    have r0 : (0 : Int) < (i : Int) := by omega
    have rz : ¬ (i : Int) = 0 := by omega
    have rz' : ¬ i = 0 := by omega
    have zb : ((i : Int) == 0) = false := by simpa using rz
    have r0n : 0 < i := by omega
    have r1 : ¬ (i : Int) < 0 := by omega
    have r2 : ¬ (n : Int) ≤ (i : Int) := by omega
    have r3 : (0 : Int) ≤ (i : Int) := by omega
    have r4 : (i : Int) < (n : Int) := by omega
    by_cases hT : 0 < T ∧ T < n
    · obtain ⟨t, rfl⟩ : ∃ t : Nat, T = t := ⟨T.toNat, by omega⟩
      have st : idx S (t : Int) = some (vi S t) := idx_vi (by omega)
      have gt : idx G (t : Int) = some (gb G t) := idx_gb (by omega)
      have dt : ∀ c, F79 (t : Int) (c, S) = some (dec (vi S t)) := fun c => f79_val (by omega)
      have t0 : (0 : Int) < (t : Int) := by omega
      have t1 : (t : Int) < (n : Int) := by omega
      have t2 : ¬ (n : Int) ≤ (t : Int) := by omega
      have t3 : 0 < t := by omega
      have t4 : t < n := by omega
      by_cases q : i = t
      · subst q
        refine ⟨2, S, G, Y, ⟨hS, hG, hY⟩, ?_, fun codes hc => ?_⟩
        · simp [F78, F116, F117, F118, F119, F120, F121, F122, f138, gl, hpos, hnz, si, gi, yi, di, s0, g0, y0, r1, r2, r3, r4, r0, rz, rz', zb, r0n, st, gt, dt, t0, t1, t2, t3, t4]
        · simp [F45_L0, F80, idx_some hg, hk, hkl, hw, app8 codes _ (show codes.length ≤ 60 by omega), hpos, hnz, si, gi, yi, di, s0, g0, y0, r1, r2, r3, r4, r0, rz, rz', zb, r0n, st, gt, dt, t0, t1, t2, t3, t4]
      · have q' : ¬ (i : Int) = (t : Int) := by omega
        have q2 : ¬ (t : Int) = (i : Int) := by omega
        have q3 : ¬ t = i := by omega
        have qb : ((i : Int) == (t : Int)) = false := by simpa using q'
        have qc : ((t : Int) == (i : Int)) = false := by simpa using q2
        cases x : gb G i with
        | true =>
          refine ⟨4, S, G, Y, ⟨hS, hG, hY⟩, ?_, fun codes hc => ?_⟩
          · simp [F78, F116, F117, F118, F119, F120, F121, F122, f138, gl, hpos, hnz, si, gi, yi, di, s0, g0, y0, r1, r2, r3, r4, r0, rz, rz', zb, r0n, st, gt, dt, t0, t1, t2, t3, t4, q, q', q2, q3, qb, qc, x]
          · simp [F45_L0, F80, idx_some hg, hk, hkl, hw, app8 codes _ (show codes.length ≤ 60 by omega), hpos, hnz, si, gi, yi, di, s0, g0, y0, r1, r2, r3, r4, r0, rz, rz', zb, r0n, st, gt, dt, t0, t1, t2, t3, t4, q, q', q2, q3, qb, qc, x]
        | false =>
          cases y : gb G t with
          | true =>
            refine ⟨4, S, G, Y, ⟨hS, hG, hY⟩, ?_, fun codes hc => ?_⟩
            · simp [F78, F116, F117, F118, F119, F120, F121, F122, f138, gl, hpos, hnz, si, gi, yi, di, s0, g0, y0, r1, r2, r3, r4, r0, rz, rz', zb, r0n, st, gt, dt, t0, t1, t2, t3, t4, q, q', q2, q3, qb, qc, x, y]
            · simp [F45_L0, F80, idx_some hg, hk, hkl, hw, app8 codes _ (show codes.length ≤ 60 by omega), hpos, hnz, si, gi, yi, di, s0, g0, y0, r1, r2, r3, r4, r0, rz, rz', zb, r0n, st, gt, dt, t0, t1, t2, t3, t4, q, q', q2, q3, qb, qc, x, y]
          | false =>
            by_cases v : vi S i = 0
            · refine ⟨3, S, G, Y, ⟨hS, hG, hY⟩, ?_, fun codes hc => ?_⟩
              · simp [F78, F116, F117, F118, F119, F120, F121, F122, f138, gl, hpos, hnz, si, gi, yi, di, s0, g0, y0, r1, r2, r3, r4, r0, rz, rz', zb, r0n, st, gt, dt, t0, t1, t2, t3, t4, q, q', q2, q3, qb, qc, x, y, v]
              · simp [F45_L0, F80, idx_some hg, hk, hkl, hw, app8 codes _ (show codes.length ≤ 60 by omega), hpos, hnz, si, gi, yi, di, s0, g0, y0, r1, r2, r3, r4, r0, rz, rz', zb, r0n, st, gt, dt, t0, t1, t2, t3, t4, q, q', q2, q3, qb, qc, x, y, v]
            · have vb : (vi S i == 0) = false := by simpa using v
              cases d : dec (vi S i) with
              | true =>
                refine ⟨8, S, G, Y, ⟨hS, hG, hY⟩, ?_, fun codes hc => ?_⟩
                · simp [F78, F116, F117, F118, F119, F120, F121, F122, f138, gl, hpos, hnz, si, gi, yi, di, s0, g0, y0, r1, r2, r3, r4, r0, rz, rz', zb, r0n, st, gt, dt, t0, t1, t2, t3, t4, q, q', q2, q3, qb, qc, x, y, v, vb, d]
                · simp [F45_L0, F80, idx_some hg, hk, hkl, hw, app8 codes _ (show codes.length ≤ 60 by omega), hpos, hnz, si, gi, yi, di, s0, g0, y0, r1, r2, r3, r4, r0, rz, rz', zb, r0n, st, gt, dt, t0, t1, t2, t3, t4, q, q', q2, q3, qb, qc, x, y, v, vb, d]
              | false =>
                by_cases w : vi S t = 1
                · refine ⟨5, S, G, Y, ⟨hS, hG, hY⟩, ?_, fun codes hc => ?_⟩
                  · simp [F78, F116, F117, F118, F119, F120, F121, F122, f138, gl, hpos, hnz, si, gi, yi, di, s0, g0, y0, r1, r2, r3, r4, r0, rz, rz', zb, r0n, st, gt, dt, t0, t1, t2, t3, t4, q, q', q2, q3, qb, qc, x, y, v, vb, d, w]
                  · simp [F45_L0, F80, idx_some hg, hk, hkl, hw, app8 codes _ (show codes.length ≤ 60 by omega), hpos, hnz, si, gi, yi, di, s0, g0, y0, r1, r2, r3, r4, r0, rz, rz', zb, r0n, st, gt, dt, t0, t1, t2, t3, t4, q, q', q2, q3, qb, qc, x, y, v, vb, d, w]
                · have wb : (vi S t == 1) = false := by simpa using w
                  by_cases z : vi S t = 0
                  · have e1 := idx_set (y := S) (j := t) (by omega) 3
                    have e2 : idx (S.set t 3) (i : Int) = some (vi S i) := by
                      rw [idx_vi (by simp; omega)]; unfold vi; rw [List.getD_eq_getElem?_getD, List.getD_eq_getElem?_getD, List.getElem?_set_ne (by omega)]
                    refine ⟨0, (S.set t 3).set i 3, G, Y, ⟨by simp [hS], by simp [hG], by simp [hY]⟩, ?_, fun codes hc => ?_⟩
                    · simp [F78, F116, F117, F118, F119, F120, F121, F122, f138, gl, hpos, hnz, si, gi, yi, di, s0, g0, y0, r1, r2, r3, r4, r0, rz, rz', zb, r0n, st, gt, dt, t0, t1, t2, t3, t4, q, q', q2, q3, qb, qc, x, y, v, vb, d, w, wb, z, e1, e2]
                    · simp [F45_L0, F80, idx_some hg, hk, hkl, hw, app8 codes _ (show codes.length ≤ 60 by omega), hpos, hnz, si, gi, yi, di, s0, g0, y0, r1, r2, r3, r4, r0, rz, rz', zb, r0n, st, gt, dt, t0, t1, t2, t3, t4, q, q', q2, q3, qb, qc, x, y, v, vb, d, w, wb, z, e1, e2]
                  · have zb2 : (vi S t == 0) = false := by simpa using z
                    refine ⟨0, S.set i (vi S t), G, Y, ⟨by simp [hS], by simp [hG], by simp [hY]⟩, ?_, fun codes hc => ?_⟩
                    · simp [F78, F116, F117, F118, F119, F120, F121, F122, f138, gl, hpos, hnz, si, gi, yi, di, s0, g0, y0, r1, r2, r3, r4, r0, rz, rz', zb, r0n, st, gt, dt, t0, t1, t2, t3, t4, q, q', q2, q3, qb, qc, x, y, v, vb, d, w, z, wb, zb2]
                    · simp [F45_L0, F80, idx_some hg, hk, hkl, hw, app8 codes _ (show codes.length ≤ 60 by omega), hpos, hnz, si, gi, yi, di, s0, g0, y0, r1, r2, r3, r4, r0, rz, rz', zb, r0n, st, gt, dt, t0, t1, t2, t3, t4, q, q', q2, q3, qb, qc, x, y, v, vb, d, w, z, wb, zb2]
    · by_cases f : 0 < T
      · have a1 : 0 < T := f
        have a2 : ¬ T < (n : Int) := by omega
        have a3 : (n : Int) ≤ T := by omega
        refine ⟨2, S, G, Y, ⟨hS, hG, hY⟩, ?_, fun codes hc => ?_⟩
        · simp [F78, F116, F117, F118, F119, F120, F121, F122, f138, gl, hpos, hnz, a1, a2, a3, si, gi, yi, di, s0, g0, y0, r1, r2, r3, r4, r0, rz, rz', zb, r0n]
        · simp [F45_L0, F80, idx_some hg, hk, hkl, hw, app8 codes _ (show codes.length ≤ 60 by omega), hpos, hnz, a1, a2, a3, si, gi, yi, di, s0, g0, y0, r1, r2, r3, r4, r0, rz, rz', zb, r0n]
      · have a1 : ¬ 0 < T := f
        have a2 : T < (n : Int) := by omega
        have a3 : ¬ (n : Int) ≤ T := by omega
        refine ⟨2, S, G, Y, ⟨hS, hG, hY⟩, ?_, fun codes hc => ?_⟩
        · simp [F78, F116, F117, F118, F119, F120, F121, F122, f138, gl, hpos, hnz, a1, a2, a3, si, gi, yi, di, s0, g0, y0, r1, r2, r3, r4, r0, rz, rz', zb, r0n]
        · simp [F45_L0, F80, idx_some hg, hk, hkl, hw, app8 codes _ (show codes.length ≤ 60 by omega), hpos, hnz, a1, a2, a3, si, gi, yi, di, s0, g0, y0, r1, r2, r3, r4, r0, rz, rz', zb, r0n]
  · by_cases f0 : F = 0
    · subst f0
      refine ⟨2, S, G, Y, ⟨hS, hG, hY⟩, ?_, fun codes hc => ?_⟩
      · simp [F78, F116, F117, F118, F119, F120, F121, F122, f138, gl, hpos, hnz, ]
      · simp [F45_L0, F80, idx_some hg, hk, hkl, hw, app8 codes _ (show codes.length ≤ 60 by omega), hpos, hnz, ]
    · by_cases f : F < 0
      · have a1 : F < 0 := f
        have a2 : ¬ 0 ≤ F := by omega
        have a3 : ¬ 0 < F := by omega
        have a4 : F < (n : Int) := by omega
        have a5 : ¬ (n : Int) ≤ F := by omega
        have a6 : ¬ F = 0 := by omega
        refine ⟨2, S, G, Y, ⟨hS, hG, hY⟩, ?_, fun codes hc => ?_⟩
        · simp [F78, F116, F117, F118, F119, F120, F121, F122, f138, gl, hpos, hnz, a1, a2, a3, a4, a5, a6]
        · simp [F45_L0, F80, idx_some hg, hk, hkl, hw, app8 codes _ (show codes.length ≤ 60 by omega), hpos, hnz, a1, a2, a3, a4, a5, a6]
      · have a1 : ¬ F < 0 := f
        have a2 : 0 ≤ F := by omega
        have a3 : 0 < F := by omega
        have a4 : ¬ F < (n : Int) := by omega
        have a5 : (n : Int) ≤ F := by omega
        have a6 : ¬ F = 0 := by omega
        refine ⟨2, S, G, Y, ⟨hS, hG, hY⟩, ?_, fun codes hc => ?_⟩
        · simp [F78, F116, F117, F118, F119, F120, F121, F122, f138, gl, hpos, hnz, a1, a2, a3, a4, a5, a6]
        · simp [F45_L0, F80, idx_some hg, hk, hkl, hw, app8 codes _ (show codes.length ≤ 60 by omega), hpos, hnz, a1, a2, a3, a4, a5, a6]
theorem step_all {e : Mv} (hg : ms[k]? = some e) : Same n ms k S G Y e := by
  obtain ⟨K, F, T, V⟩ := e
  cases c : ((decide (K < 1)) || (decide (K > 6))) with
  | true => exact step_out hn hn6 hms I hg c
  | false =>
    simp only [Bool.or_eq_false_iff, decide_eq_false_iff_not] at c
    have : K = 1 ∨ K = 2 ∨ K = 3 ∨ K = 4 ∨ K = 5 ∨ K = 6 := by omega
    rcases this with rfl | rfl | rfl | rfl | rfl | rfl
    · exact step_vote hn hn6 hms I hg
    · exact step_tally hn hn6 hms I hg
    · exact step_tell hn hn6 hms I hg
    · exact step_crash hn hn6 hms I hg
    · exact step_back hn hn6 hms I hg
    · exact step_ask hn hn6 hms I hg
end
theorem plays_same {n : Nat} (hn : 1 ≤ n) (hn6 : n ≤ 6) {ms : List Mv} (hms : ms.length ≤ 60) : ∀ (d k : Nat) (S : List Int) (G Y : List Bool) (codes : List Int), k + d = ms.length → Ok3 n S G Y → codes.length = k →
    ∃ (c S' : List Int) (G' Y' : List Bool), whileM (F44_L0 ms) (codes, S, G, Y, (k : Int)) = some (.brk (c, S', G', Y')) ∧ whileM (F45_L0 (n : Int) ms) (codes, Y, G, S, (k : Int)) = some (.brk (c, Y', G', S')) ∧ c.length = ms.length ∧ S'.length = n := by
  intro d
  induction d with
  | zero =>
    intro k S G Y codes hk I hc
    have hkl : decide ((k : Int) < (ms.length : Int)) = false := by rw [decide_eq_false_iff_not]; omega
    have b1 : F44_L0 ms (codes, S, G, Y, (k : Int)) = some (.brk (codes, S, G, Y)) := by simp only [F44_L0, hkl, cond_false]
    have b2 : F45_L0 (n : Int) ms (codes, Y, G, S, (k : Int)) = some (.brk (codes, Y, G, S)) := by simp only [F45_L0, hkl, cond_false]
    exact ⟨codes, S, G, Y, whileM_brk b1, whileM_brk b2, by omega, I.s⟩
  | succ d ih =>
    intro k S G Y codes hk I hc
    have hkm : k < ms.length := by omega
    have hg : ms[k]? = some ms[k] := List.getElem?_eq_getElem hkm
    obtain ⟨c, S', G', Y', J, h1, h2⟩ := step_all hn hn6 hms I hg
    have hkl : decide ((k : Int) < (ms.length : Int)) = true := by simpa using hkm
    have s1 : F44_L0 ms (codes, S, G, Y, (k : Int)) = some (.nxt (codes ++ [c], S', G', Y', ((k + 1 : Nat) : Int))) := by
      have h1' : F78 (S, G, Y) ((ms[k]).1, (ms[k]).2.1, (ms[k]).2.2.1, (ms[k]).2.2.2) = some (c, (S', G', Y')) := h1
      simp only [F44_L0, idx_some hg, h1', Option.bind_some, hkl, cond_true, app8 codes c (by omega), w64_succ hkm (show ms.length ≤ 9223372036854775807 by omega)]
    rw [whileM_nxt s1, whileM_nxt (h2 codes hc)]
    exact ih (k + 1) S' G' Y' _ (by omega) J (by simp; omega)
theorem codes_self (l : List Int) (hl : l.length ≤ 9223372036854775807) : F18 l l = some true := by
  have h : whileM (F18_L0 l l) 0 = some (found () (scan (fun _ (_ : Int) => (none : Option Bool)) l 0)) := by
    refine while_scan hl _ (fun k e h => ?_) (by simp [F18_L0])
    have hk := lt_of_get h
    simp [F18_L0, idx_some h, hk, going]
  have hn : scan (fun _ (_ : Int) => (none : Option Bool)) l 0 = none := scan_none.2 fun _ _ _ => rfl
  unfold F18
  rw [h, hn]
  simp [found, Ctl.on]
theorem ints_self (l : List Int) (hl : l.length ≤ 9223372036854775807) : F25 l l = some true := by
  have h : whileM (F25_L0 l l) 0 = some (found () (scan (fun _ (_ : Int) => (none : Option Bool)) l 0)) := by
    refine while_scan hl _ (fun k e h => ?_) (by simp [F25_L0])
    have hk := lt_of_get h
    simp [F25_L0, idx_some h, hk, going]
  have hn : scan (fun _ (_ : Int) => (none : Option Bool)) l 0 = none := scan_none.2 fun _ _ _ => rfl
  unfold F25
  rw [h, hn]
  simp [found, Ctl.on]
theorem law_CommitPlays (a0 : Int) (_ : i64 a0) (a1 : List Mv) (h : a1.length ≤ 9223372036854775807) (_ : ∀ x ∈ a1, i64 x.1 ∧ i64 x.2.1 ∧ i64 x.2.2.1 ∧ i64 x.2.2.2) : F13 a0 a1 = some true := by
  have n18 : F18 [] [] = some true := codes_self [] (by simp)
  have n25 : F25 [] [] = some true := ints_self [] (by simp)
  unfold F13 F44 F21
  cases c : (((decide (a0 < 1)) || (decide (a0 > 6))) || (decide ((a1.length : Int) > 60))) with
  | true => simp [n18, n25]
  | false =>
    simp only [Bool.or_eq_false_iff, decide_eq_false_iff_not] at c
    obtain ⟨n, rfl⟩ : ∃ n : Nat, a0 = n := ⟨a0.toNat, by omega⟩
    have m1 : mkl (n : Int) 8 (0 : Int) = some (List.replicate n 0) := by unfold mkl; rw [if_pos ⟨by omega, by omega, by omega⟩]; simp
    have m2 : mkl (n : Int) 1 false = some (List.replicate n false) := by unfold mkl; rw [if_pos ⟨by omega, by omega, by omega⟩]; simp
    obtain ⟨cs, S, G, Y, w1, w2, l1, l2⟩ := plays_same (n := n) (by omega) (by omega) (ms := a1) (by omega) a1.length 0 (List.replicate n 0) (List.replicate n false) (List.replicate n false) [] (by omega) ⟨by simp, by simp, by simp⟩ rfl
    have w1' : whileM (F44_L0 a1) ([], List.replicate n 0, List.replicate n false, List.replicate n false, 0) = _ := w1
    have w2' : whileM (F45_L0 (n : Int) a1) ([], List.replicate n false, List.replicate n false, List.replicate n 0, 0) = _ := w2
    have h45 : F45 (n : Int) a1 = some (cs, S) := by
      unfold F45
      simp only [m1, m2, Option.bind_some, w2', Ctl.on]
    simp only [m1, m2, h45, Option.bind_some, w1', Ctl.on, cond_false, cond_true, beq_self_eq_true, codes_self cs (by omega), ints_self S (by omega)]
end Go.Proofs.Ythfkdepcnhhepaa
