/-
  One deed behind the other: the program's tree and the reference's go on alike.
-/
import Derived.Test.YtadfgohglcglcaaDoorPTree
namespace Go.Proofs.YtadfgohglcglcaaDoor
open Go Go.Bk
set_option linter.unusedVariables false
set_option linter.unusedSimpArgs false
theorem R.idx {M : Mp} {l : List Nd} (h : R M l) {i j : Nat} {a b : Nd} (ha : l[i]? = some a) (hb : l[j]? = some b) (e : a.1 = b.1) : i = j := by
  have hn := h.en.1
  have h1 : (l.map (·.1))[i]? = some a.1 := by rw [List.getElem?_map, ha]; rfl
  have h2 : (l.map (·.1))[j]? = some a.1 := by rw [List.getElem?_map, hb, e]; rfl
  obtain ⟨l1, e1⟩ := List.getElem?_eq_some_iff.1 h1
  obtain ⟨l2, e2⟩ := List.getElem?_eq_some_iff.1 h2
  rcases Nat.lt_trichotomy i j with q | q | q
  · exact (List.pairwise_iff_getElem.1 hn i j l1 l2 q (e1.trans e2.symm)).elim
  · exact q
  · exact (List.pairwise_iff_getElem.1 hn j i l2 l1 q (e2.trans e1.symm)).elim
theorem R.add {M : Mp} {l : List Nd} (h : R M l) {p : ByteArray} {v : ByteArray × Int} (hp : M p = none) (hn : OkN p) (hl : l.length < 12) : R (mupd M p v) (l ++ [(p, v)]) := by
  have hx := h.absent.1 hp
  refine ⟨⟨?_, fun k w => ?_⟩, fun x hx' => ?_, by simp; omega⟩
  · rw [List.map_append, List.nodup_append]
    refine ⟨h.en.1, by simp, fun a ha b hb e => ?_⟩
    obtain ⟨x, hx1, rfl⟩ := List.mem_map.1 ha
    simp at hb
    exact hx x hx1 (by rw [e, hb])
  · rw [List.mem_append, List.mem_singleton, h.en.2]
    unfold mupd
    by_cases c : k = p
    · subst c
      rw [hp]; simp [eq_comm]
    · simp [c]
  · rcases List.mem_append.1 hx' with q | q
    · exact h.nm x q
    · rw [List.mem_singleton] at q; rw [q]; exact hn
theorem R.del {M : Mp} {l : List Nd} (h : R M l) {i : Nat} {p : ByteArray} {v : ByteArray × Int} (hi : l[i]? = some (p, v)) : R (mdel M p) (l.take i ++ l.drop (i + 1)) := by
  rw [← List.eraseIdx_eq_take_drop_succ]
  have hs := List.eraseIdx_sublist l i
  refine ⟨⟨(hs.map _).nodup h.en.1, fun k w => ?_⟩, fun x hx => h.nm x (hs.subset hx), Nat.le_trans hs.length_le h.len⟩
  rw [List.mem_eraseIdx_iff_getElem?]
  unfold mdel
  constructor
  · rintro ⟨j, hj, hg⟩
    have hm := h.mem.2 (List.mem_of_getElem? hg)
    have : k ≠ p := fun e => hj (h.idx hg hi e)
    rw [if_neg this]; exact hm
  · intro hk
    by_cases c : k = p
    · rw [if_pos c] at hk; cases hk
    · rw [if_neg c] at hk
      obtain ⟨j, hj⟩ := List.getElem?_of_mem (h.mem.1 hk)
      refine ⟨j, fun e => ?_, hj⟩
      subst e
      rw [hi] at hj
      exact c (Prod.mk.inj (Option.some.inj hj)).1.symm
theorem R.set {M : Mp} {l : List Nd} (h : R M l) {i : Nat} {p : ByteArray} {v w : ByteArray × Int} (hi : l[i]? = some (p, v)) : R (mupd M p w) (l.set i (p, w)) := by
  have hil := lt_of_get hi
  have hk : (l.set i (p, w)).map (·.1) = l.map (·.1) := by
    apply List.ext_getElem?
    intro j
    rw [List.getElem?_map, List.getElem?_map, List.getElem?_set]
    by_cases c : i = j
    · subst c; rw [hi]; simp [hil]
    · simp [c]
  have hm : ∀ k u, (k, u) ∈ l.set i (p, w) ↔ mupd M p w k = some u := fun k u => by
    unfold mupd
    constructor
    · intro hx
      obtain ⟨j, hj⟩ := List.getElem?_of_mem hx
      rw [List.getElem?_set] at hj
      by_cases c : i = j
      · subst c
        simp [hil] at hj
        simp [hj.1, hj.2]
      · simp [c] at hj
        have : k ≠ p := fun e => c (h.idx hi hj (by simp [e]))
        rw [if_neg this]; exact h.mem.2 (List.mem_of_getElem? hj)
    · intro hk
      by_cases c : k = p
      · rw [if_pos c] at hk
        obtain rfl := Option.some.inj hk
        refine List.mem_of_getElem? (i := i) ?_
        rw [List.getElem?_set_self hil, c]
      · rw [if_neg c] at hk
        obtain ⟨j, hj⟩ := List.getElem?_of_mem (h.mem.1 hk)
        refine List.mem_of_getElem? (i := j) ?_
        have : i ≠ j := fun e => by
          subst e
          rw [hi] at hj
          exact c (Prod.mk.inj (Option.some.inj hj)).1.symm
        rw [List.getElem?_set_ne this, hj]
  refine ⟨⟨by rw [hk]; exact h.en.1, hm⟩, fun x hx => ?_, by rw [List.length_set]; exact h.len⟩
  obtain ⟨j, hj⟩ := List.getElem?_of_mem hx
  rw [List.getElem?_set] at hj
  by_cases c : i = j
  · subst c
    simp [hil] at hj
    rw [← hj]
    show OkN p
    exact h.nm (p, v) (List.mem_of_getElem? hi)
  · simp [c] at hj
    exact h.nm _ (List.mem_of_getElem? hj)
theorem f38_val (c : Int) (l : List Nd) : F38 c l = some (c, ByteArray.empty, 0, []) := rfl
theorem app40 (l m : List Nd) (h : l.length + m.length ≤ 1000) : appl 40 l m = some (l ++ m) := by
  unfold appl; rw [if_pos]; omega
/-- The same answer, and trees that go together. -/
def Same (x : Option (Tl × Mp)) (y : Option (List Nd × Tl)) : Prop := ∃ t M l, x = some (t, M) ∧ y = some (l, t) ∧ R M l ∧ t.2.2.2.length ≤ 12
theorem deed {M : Mp} {l : List Nd} (h : R M l) (d : Dd) (hd : d.2.1.size ≤ 9223372036854775807) : Same (F29 M d) (F30 l d) := by
  obtain ⟨k, path, data, ver⟩ := d
  have hlen := h.len
  have hml : mlen M = l.length := mlen_of h.en
  have hd' : path.size ≤ 9223372036854775807 := hd
  have n1 := f35_val (p := path) (by omega)
  have n2 := f39_val (p := path) (by omega)
  unfold F29 F30
  simp only [f38_val, Option.bind_some, n1, n2]
  by_cases ck : k < 1 ∨ k > 5
  · have : (decide (k < 1) || decide (k > 5)) = true := by simpa using ck
    simp only [this, cond_true]
    exact ⟨_, _, _, rfl, rfl, h, Nat.zero_le _⟩
  have ck' : (decide (k < 1) || decide (k > 5)) = false := by simp; omega
  simp only [ck', cond_false]
  cases cn : nameB path with
  | false => exact ⟨_, _, _, rfl, rfl, h, Nat.zero_le _⟩
  | true =>
  have hn : OkN path := ⟨cn, hd'⟩
  have hp := prt_val hn
  simp only [Bool.not_true, cond_false]
  cases cl : (((k == 1) || (k == 2)) && (decide ((data.size : Int) > 20))) with
  | true => exact ⟨_, _, _, rfl, rfl, h, Nat.zero_le _⟩
  | false =>
  simp only [cond_false]
  have f37 := f37_val h path
  have f41 := f41_val h path
  have hbl : (sortedS (l.filterMap (pick path))).length ≤ 12 := by rw [sortedS_len]; have := pick_len path l; omega
  generalize hbelow : sortedS (l.filterMap (pick path)) = bel at f37 f41 hbl
  have hc : k = 1 ∨ k = 2 ∨ k = 3 ∨ k = 4 ∨ k = 5 := by omega
  cases hM : M path with
  | none =>
    have hw := where_none h hM
    have e0 : decide ((-1 : Int) ≥ 0) = false := rfl
    have e1 : decide ((-1 : Int) < 0) = true := rfl
    simp only [hw, Option.bind_some, e0, e1, cond_false, cond_true, hM, Option.isSome_none, Bool.not_false]
    rcases hc with rfl | rfl | rfl | rfl | rfl
    · -- make
      unfold F36
      simp only [hM, Option.isSome_none, cond_false, hp.1, hp.2, Option.bind_some]
      cases hu : M (prt path).1 with
      | none =>
        have hw2 := where_none h hu
        simp only [hw2, Option.bind_some, e1, cond_true, Option.isSome_none, Bool.not_false]
        exact ⟨_, _, _, rfl, rfl, h, Nat.zero_le _⟩
      | some v =>
        obtain ⟨i, hi, hg, hw2⟩ := where_some h hu
        have e2 : decide ((i : Int) < 0) = false := by simp
        simp only [hw2, Option.bind_some, e2, cond_false, Option.isSome_some, Bool.not_true, hml]
        by_cases cf : l.length ≥ 12
        · have e3 : decide ((l.length : Int) ≥ 12) = true := by rw [decide_eq_true_eq]; omega
          simp only [e3, cond_true]
          exact ⟨_, _, _, rfl, rfl, h, Nat.zero_le _⟩
        · have e3 : decide ((l.length : Int) ≥ 12) = false := by rw [decide_eq_false_iff_not]; omega
          simp only [e3, cond_false, app40 [] l (by simp; omega), List.nil_append, Option.bind_some, app40 l [(path, data, 0)] (by simp; omega)]
          exact ⟨_, _, _, rfl, rfl, h.add hM hn (by omega), Nat.zero_le _⟩
    · exact ⟨_, _, _, rfl, rfl, h, Nat.zero_le _⟩
    · simp only [sEq_iff]
      cases decide (path = ByteArray.mk #[47]) <;> exact ⟨_, _, _, rfl, rfl, h, Nat.zero_le _⟩
    · exact ⟨_, _, _, rfl, rfl, h, Nat.zero_le _⟩
    · exact ⟨_, _, _, rfl, rfl, h, Nat.zero_le _⟩
  | some v =>
    obtain ⟨i, hi, hg, hw⟩ := where_some h hM
    obtain ⟨dat, vs⟩ := v
    have e0 : decide ((i : Int) ≥ 0) = true := by simp
    have e1 : decide ((i : Int) < 0) = false := by simp
    have hix : idx l (i : Int) = some (path, dat, vs) := idx_some hg
    simp only [hw, Option.bind_some, e0, e1, cond_false, cond_true, hM, Option.isSome_some, Bool.not_true, Option.getD_some, hix, f37, f41]
    rcases hc with rfl | rfl | rfl | rfl | rfl
    · unfold F36
      simp only [hM, Option.isSome_some, cond_true]
      exact ⟨_, _, _, rfl, rfl, h, Nat.zero_le _⟩
    · -- set
      have hb : (Option.bind (cond (decide (ver ≥ 0)) (some (ver != vs)) (some false)) fun b82 => some b82) = some (decide (ver ≥ 0) && (ver != vs)) := by cases decide (ver ≥ 0) <;> rfl
      have hb2 : cond (decide (ver ≥ 0)) (some (ver != vs)) (some false) = some (decide (ver ≥ 0) && (ver != vs)) := by cases decide (ver ≥ 0) <;> rfl
      simp only [hb2, Option.bind_some]
      cases cv : (decide (ver ≥ 0) && (ver != vs)) with
      | true => exact ⟨_, _, _, rfl, rfl, h, Nat.zero_le _⟩
      | false =>
        have i2 : idx (l.set i (path, data, vs)) (i : Int) = some (path, data, vs) := idx_some (List.getElem?_set_self hi)
        have i3 : idx ((l.set i (path, data, vs)).set i (path, data, w64 (vs + 1))) (i : Int) = some (path, data, w64 (vs + 1)) := idx_some (List.getElem?_set_self (by rw [List.length_set]; exact hi))
        simp only [cond_false, app40 [] l (by simp; omega), List.nil_append, Option.bind_some, hix, Int.toNat_natCast, i2, i3]
        refine ⟨_, _, _, rfl, rfl, ?_, Nat.zero_le _⟩
        rw [List.set_set]
        exact h.set hg
    · -- drop
      have hb2 : cond (decide (ver ≥ 0)) (some (ver != vs)) (some false) = some (decide (ver ≥ 0) && (ver != vs)) := by cases decide (ver ≥ 0) <;> rfl
      simp only [hb2, Option.bind_some, sEq_iff]
      cases decide (path = ByteArray.mk #[47]) with
      | true => exact ⟨_, _, _, rfl, rfl, h, Nat.zero_le _⟩
      | false =>
        cases cv : (decide (ver ≥ 0) && (ver != vs)) with
        | true => exact ⟨_, _, _, rfl, rfl, h, Nat.zero_le _⟩
        | false =>
          cases cb : decide ((bel.length : Int) > 0) with
          | true => exact ⟨_, _, _, rfl, rfl, h, Nat.zero_le _⟩
          | false =>
            have s1 : slI l 0 (i : Int) = some (l.take i) := slI_take hi
            have hw1 : w64 ((i : Int) + 1) = ((i + 1 : Nat) : Int) := w64_succ hi (by omega)
            have s2 : slI l ((i + 1 : Nat) : Int) (l.length : Int) = some (l.drop (i + 1)) := by
              unfold slI
              rw [if_pos ⟨by omega, by omega, by omega⟩]
              simp
            simp only [s1, hw1, s2, Option.bind_some, app40 [] (l.take i) (by simp; omega), List.nil_append, app40 (l.take i) (l.drop (i + 1)) (by simp; omega)]
            exact ⟨_, _, _, rfl, rfl, h.del hg, Nat.zero_le _⟩
    · exact ⟨_, _, _, rfl, rfl, h, Nat.zero_le _⟩
    · exact ⟨_, _, _, rfl, rfl, h, hbl⟩
end Go.Proofs.YtadfgohglcglcaaDoor
