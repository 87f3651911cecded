/-
  The plain law of TickTells.
-/
import Derived.Test.YtmfidlalejdikaaPRunAheads
namespace Go.Proofs.Ytmfidlalejdikaa
open Go Go.Bk
set_option linter.unusedVariables false
set_option linter.unusedSimpArgs false

def vi (y : List Int) (j : Nat) : Int := y.getD j 0
theorem get_vi {y : List Int} {j : Nat} (h : j < y.length) : y[j]? = some (vi y j) := by simp [vi, List.getD_eq_getElem?_getD, List.getElem?_eq_getElem h]
theorem vi_set {y : List Int} {i b : Nat} {v : Int} (hi : i < y.length) : vi (y.set i v) b = if b = i then v else vi y b := by
  unfold vi
  rw [List.getD_eq_getElem?_getD, List.getD_eq_getElem?_getD, List.getElem?_set]
  by_cases c : i = b
  · subst c; simp [hi]
  · have : ¬ b = i := fun e => c e.symm
    simp [c, this]
/-- A number is one more than the greatest of those ahead. -/
structure TP (l : List Ev) (y : List Int) (j : Nat) : Prop where
  up : ∀ i, T l i j = true → vi y i + 1 ≤ vi y j
  pos : 1 ≤ vi y j
  small : vi y j ≤ (j : Int) + 1
  of : vi y j = 1 ∨ ∃ i, T l i j = true ∧ vi y j = vi y i + 1
theorem TP.set {l : List Ev} {y : List Int} {j k : Nat} (h : TP l y j) (hjk : j < k) (hk : k < y.length) (v : Int) : TP l (y.set k v) j := by
  have e : ∀ i, i ≤ j → vi (y.set k v) i = vi y i := fun i hi => by
    rw [vi_set hk]; have : ¬ i = k := by omega
    simp [this]
  refine ⟨fun i hi => ?_, by rw [e j (Nat.le_refl _)]; exact h.pos, by rw [e j (Nat.le_refl _)]; exact h.small, ?_⟩
  · have := T_lt hi
    rw [e i (by omega), e j (Nat.le_refl _)]; exact h.up i hi
  · rw [e j (Nat.le_refl _)]
    rcases h.of with q | ⟨i, q1, q2⟩
    · exact .inl q
    · have := T_lt q1
      exact .inr ⟨i, q1, by rw [e i (by omega)]; exact q2⟩
theorem tp_unique {l : List Ev} {y z : List Int} (hy : ∀ j, j < l.length → TP l y j) (hz : ∀ j, j < l.length → TP l z j) : ∀ j, j < l.length → vi y j = vi z j := by
  intro j
  induction j using Nat.strongRecOn with
  | _ j ih =>
    intro hj
    have key : ∀ (a b : List Int), TP l a j → TP l b j → (∀ i, i < j → i < l.length → vi a i = vi b i) → vi a j ≤ vi b j := fun a b ha hb h => by
      rcases ha.of with q | ⟨i, q1, q2⟩
      · have := hb.pos; omega
      · have hlt := T_lt q1
        have := hb.up i q1
        have := h i hlt.1 (by omega)
        omega
    have h1 := key y z (hy j hj) (hz j hj) (fun i hi hl => ih i hi hl)
    have h2 := key z y (hz j hj) (hy j hj) (fun i hi hl => (ih i hi hl).symm)
    omega

/-! The reference. -/
def gin (l : List Ev) (j : Nat) (y : List Int) (i : Nat) (t : Int) : Int := if (T l i j && decide (vi y i > t)) = true then vi y i else t
def inner (l : List Ev) (j : Nat) (y : List Int) : Int := (List.range j).foldl (fun t i => gin l j y i t) 0
theorem f25_l1 {l : List Ev} (hl : l.length ≤ 30) {j : Nat} (hj : j < l.length) (y : List Int) (hy : y.length = l.length) :
    whileM (F25_L1 (mat l.length (T l)) (j : Int)) (y.set j 0, 0) = some (.brk (y.set j (inner l j y))) ∧ ((∀ m, m < j → T l m j = true → vi y m ≤ inner l j y) ∧ (inner l j y = 0 ∨ ∃ m, m < j ∧ T l m j = true ∧ inner l j y = vi y m)) :=
  while_foldI (fun k t => (y.set j t, (k : Int))) j (fun i t => gin l j y i t) (fun t => y.set j t)
    (fun i t => (∀ m, m < i → T l m j = true → vi y m ≤ t) ∧ (t = 0 ∨ ∃ m, m < i ∧ T l m j = true ∧ t = vi y m)) 0 ⟨fun m hm => by omega, .inl rfl⟩
    (fun k t hk hI => by
      have hkj : decide ((k : Int) < (j : Int)) = true := by simpa using hk
      have q1 : idx (mat l.length (T l)) (k : Int) = some (rowf l.length (T l k)) := rowf_idx (by omega)
      have q2 : idx (rowf l.length (T l k)) (j : Int) = some (T l k j) := rowf_idx hj
      have q3 : idx (y.set j t) (k : Int) = some (vi y k) := by
        rw [idx_some (get_vi (by simp; omega)), vi_set (by omega)]; have : ¬ k = j := by omega
        simp [this]
      have q4 : idx (y.set j t) (j : Int) = some t := idx_some (by rw [List.getElem?_set_self]; omega)
      constructor
      · simp only [F25_L1, q1, q2, q3, q4, Option.bind_some, hkj, cond_true, w64_succ hk (by omega), Int.toNat_natCast, List.set_set]
        unfold gin
        cases T l k j with
        | false => simp
        | true => cases c : decide (vi y k > t) <;> simp_all
      · unfold gin
        split
        · rename_i q
          simp only [Bool.and_eq_true, decide_eq_true_eq] at q
          refine ⟨fun m hm ht => ?_, .inr ⟨k, by omega, q.1, rfl⟩⟩
          by_cases e : m = k
          · subst e; omega
          · have := hI.1 m (by omega) ht; omega
        · rename_i q
          refine ⟨fun m hm ht => ?_, hI.2.imp id fun ⟨m, h1, h2⟩ => ⟨m, by omega, h2⟩⟩
          by_cases e : m = k
          · subst e
            simp only [ht, Bool.true_and, decide_eq_true_eq] at q
            omega
          · exact hI.1 m (by omega) ht)
    (fun t _ => by simp [F25_L1])
theorem f25_val {l : List Ev} (hl : l.length ≤ 30) : ∃ y, F25 l = some y ∧ y.length = l.length ∧ ∀ j, j < l.length → TP l y j := by
  have hm : mkl (l.length : Int) 8 (0 : Int) = some (List.replicate l.length 0) := by unfold mkl; rw [if_pos ⟨by omega, by omega, by omega⟩]; simp
  have hw := while_foldI (body := F25_L0 l (mat l.length (T l))) (fun k (t : List Int) => (t, (k : Int))) l.length (fun j y => y.set j (w64 (inner l j y + 1))) id
    (fun k y => y.length = l.length ∧ (∀ j, j < k → TP l y j) ∧ ∀ j, k ≤ j → vi y j = 0) (List.replicate l.length 0)
    ⟨by simp, fun j hj => by omega, fun j _ => by unfold vi; rw [List.getD_eq_getElem?_getD, List.getElem?_replicate]; split <;> rfl⟩
    (fun k y hk hI => by
      obtain ⟨i1, i2, i3⟩ := hI
      obtain ⟨h1, h2, h3⟩ := f25_l1 hl hk y i1
      have hb : 0 ≤ inner l k y ∧ inner l k y ≤ k := by
        rcases h3 with q | ⟨m, hm, _, q⟩
        · omega
        · have := (i2 m hm).pos; have := (i2 m hm).small; omega
      have hws : w64 (inner l k y + 1) = inner l k y + 1 := w64_of (by omega) (by omega)
      have hself : y.set k 0 = y := by
        have := i3 k (Nat.le_refl _)
        have h0 := get_vi (y := y) (j := k) (by omega)
        rw [this] at h0
        apply List.ext_getElem?
        intro b
        rw [List.getElem?_set]
        by_cases c : k = b
        · subst c; rw [h0]; have : k < y.length := by omega
          simp [this]
        · simp [c]
      rw [hself] at h1
      have hkl : decide ((k : Int) < (l.length : Int)) = true := by simpa using hk
      have q4 : idx (y.set k (inner l k y)) (k : Int) = some (inner l k y) := idx_some (by rw [List.getElem?_set_self]; omega)
      refine ⟨by simp only [F25_L0, h1, q4, Option.bind_some, Ctl.on, hkl, cond_true, w64_succ hk (by omega), Int.toNat_natCast, List.set_set], by simpa using i1, fun j hj => ?_, fun j hj => ?_⟩
      · rw [hws]
        by_cases e : j = k
        · subst e
          have e1 : vi (y.set j (inner l j y + 1)) j = inner l j y + 1 := by rw [vi_set (by omega)]; simp
          have e2 : ∀ i, i < j → vi (y.set j (inner l j y + 1)) i = vi y i := fun i hi => by
            have q : ¬ i = j := by omega
            rw [vi_set (by omega), if_neg q]
          refine ⟨fun i hi => ?_, by rw [e1]; omega, by rw [e1]; omega, ?_⟩
          · have := T_lt hi
            rw [e1, e2 i this.1]
            have := h2 i this.1 hi; omega
          · rw [e1]
            rcases h3 with q | ⟨m, hm, ht, q⟩
            · left; omega
            · right; exact ⟨m, ht, by rw [e2 m hm]; omega⟩
        · exact (i2 j (by omega)).set (by omega) (by omega) _
      · rw [vi_set (by omega)]
        have : ¬ j = k := by omega
        simp only [this, if_false]
        exact i3 j (by omega))
    (fun y _ => by simp [F25_L0])
  obtain ⟨hw1, hw2, hw3, _⟩ := hw
  refine ⟨_, ?_, hw2, hw3⟩
  unfold F25
  rw [f18_val hl]
  simp only [Option.bind_some, hm]
  have hw1' : whileM (F25_L0 l (mat l.length (T l))) (List.replicate l.length 0, 0) = _ := hw1
  rw [hw1']
  rfl

/-! The program. -/
structure Tk (n : Int) (l : List Ev) (k : Nat) (t : List Int × List (Int × Int) × List Int) : Prop where
  len : t.1.length = l.length
  len2 : t.2.2.length = n.toNat
  tp : ∀ j, j < k → TP l t.1 j
  clock : ∀ p, p < n.toNat → (∀ m a, m < k → l[m]? = some a → a.1.toNat = p → vi t.1 m ≤ vi t.2.2 p) ∧ (vi t.2.2 p = 0 ∨ ∃ m a, m < k ∧ l[m]? = some a ∧ a.1.toNat = p ∧ vi t.2.2 p = vi t.1 m)
  sent : ∀ x, (∀ m a, m < k → l[m]? = some a → a.2.1 = 2 → a.2.2 = x → vi t.1 m ≤ mget t.2.1 x) ∧ (mget t.2.1 x = 0 ∨ ∃ m a, m < k ∧ l[m]? = some a ∧ a.2.1 = 2 ∧ a.2.2 = x ∧ mget t.2.1 x = vi t.1 m)
def tn1 (e : Ev) (t : List Int × List (Int × Int) × List Int) : Int := w64 (cond (e.2.1 == 3) (mx (vi t.2.2 e.1.toNat) (mget t.2.1 e.2.2)) (vi t.2.2 e.1.toNat) + 1)
def tstep (l : List Ev) (k : Nat) (t : List Int × List (Int × Int) × List Int) : List Int × List (Int × Int) × List Int := match l[k]? with
  | none => t
  | some e => (t.1.set k (tn1 e t), cond (e.2.1 == 2) (mset t.2.1 e.2.2 (tn1 e t)) t.2.1, t.2.2.set e.1.toNat (tn1 e t))
theorem tk_step {n : Int} {l : List Ev} (g : Good n l) {k : Nat} {t : List Int × List (Int × Int) × List Int} (hk : k < l.length) (I : Tk n l k t) : Tk n l (k + 1) (tstep l k t) := by
  have hg : l[k]? = some l[k] := List.getElem?_eq_getElem hk
  generalize l[k] = e at hg
  have hp := g.proc hg
  have hl := g.len
  have hpn : e.1.toNat < n.toNat := by omega
  obtain ⟨c1, c2⟩ := I.clock e.1.toNat hpn
  obtain ⟨s1, s2⟩ := I.sent e.2.2
  have hsm : ∀ m, m < k → 1 ≤ vi t.1 m ∧ vi t.1 m ≤ k := fun m hm => by have := (I.tp m hm).pos; have := (I.tp m hm).small; omega
  -- the greatest of those right ahead
  generalize hz : cond (e.2.1 == 3) (mx (vi t.2.2 e.1.toNat) (mget t.2.1 e.2.2)) (vi t.2.2 e.1.toNat) = z
  have hz1 : ∀ m, E l m k = true → vi t.1 m ≤ z := fun m hE => by
    obtain ⟨a, b, ha, hb, hm, hor⟩ := E_iff.1 hE
    rw [hg] at hb
    obtain rfl := Option.some.inj hb
    have h1 : vi t.2.2 e.1.toNat ≤ z := by rw [← hz]; cases (e.2.1 == 3) <;> simp [mx]; split <;> omega
    rcases hor with q | ⟨q1, q2, q3⟩
    · exact Int.le_trans (c1 m a hm ha (by rw [q])) h1
    · have h2 := s1 m a hm ha q1 q3
      have : (e.2.1 == 3) = true := by simpa using q2
      rw [this, cond_true] at hz
      unfold mx at hz
      split at hz <;> omega
  have hz2 : z = 0 ∨ ∃ m, m < k ∧ E l m k = true ∧ z = vi t.1 m := by
    have hc : vi t.2.2 e.1.toNat = 0 ∨ ∃ m, m < k ∧ E l m k = true ∧ vi t.2.2 e.1.toNat = vi t.1 m := c2.imp id fun ⟨m, a, hm, ha, hpa, hv⟩ =>
      ⟨m, hm, E_iff.2 ⟨a, e, ha, hg, hm, .inl (toNat_eq (g.proc ha).1 hp.1 hpa)⟩, hv⟩
    cases c : (e.2.1 == 3) with
    | false => rw [c, cond_false] at hz; rw [← hz]; exact hc
    | true =>
      have he3 : e.2.1 = 3 := by simpa using c
      have hs : mget t.2.1 e.2.2 = 0 ∨ ∃ m, m < k ∧ E l m k = true ∧ mget t.2.1 e.2.2 = vi t.1 m := s2.imp id fun ⟨m, a, hm, ha, h2, h3, hv⟩ =>
        ⟨m, hm, E_iff.2 ⟨a, e, ha, hg, hm, .inr ⟨h2, he3, h3⟩⟩, hv⟩
      rw [c, cond_true] at hz
      rw [← hz]
      unfold mx
      split
      · exact hs
      · exact hc
  have hzb : 0 ≤ z ∧ z ≤ k := by
    rcases hz2 with q | ⟨m, hm, _, q⟩
    · omega
    · have := hsm m hm; omega
  have ht : tn1 e t = z + 1 := by unfold tn1; rw [hz]; exact w64_of (by omega) (by omega)
  have hst : tstep l k t = (t.1.set k (z + 1), cond (e.2.1 == 2) (mset t.2.1 e.2.2 (z + 1)) t.2.1, t.2.2.set e.1.toNat (z + 1)) := by unfold tstep; rw [hg]; simp only [ht]
  rw [hst]
  have hv : ∀ m, m < k → vi (t.1.set k (z + 1)) m = vi t.1 m := fun m hm => by
    have q : ¬ m = k := by omega
    rw [vi_set (by rw [I.len]; exact hk), if_neg q]
  have hvk : vi (t.1.set k (z + 1)) k = z + 1 := by rw [vi_set (by rw [I.len]; exact hk)]; simp
  refine ⟨by simpa using I.len, by simpa using I.len2, fun j hj => ?_, fun p hpp => ?_, fun x => ?_⟩
  · by_cases c : j = k
    · subst c
      refine ⟨fun i hi => ?_, by simp only [hvk]; omega, by simp only [hvk]; omega, ?_⟩
      · have hlt := T_lt hi
        show vi (t.1.set j (z + 1)) i + 1 ≤ vi (t.1.set j (z + 1)) j
        rw [hvk, hv i hlt.1]
        obtain ⟨m, hE, hor⟩ := T_last.1 hi
        have hml := E_lt hE
        have := hz1 m hE
        rcases hor with q | q
        · subst q; omega
        · have := (I.tp m hml.1).up i q; omega
      · show vi (t.1.set j (z + 1)) j = 1 ∨ _
        rw [hvk]
        rcases hz2 with q | ⟨m, hm, hE, q⟩
        · left; omega
        · right; exact ⟨m, T_of_E hE, by show _ = vi (t.1.set j (z + 1)) m + 1; rw [hv m hm]; omega⟩
    · exact (I.tp j (by omega)).set (by omega) (by rw [I.len]; exact hk) _
  · show (∀ m a, m < k + 1 → l[m]? = some a → a.1.toNat = p → vi (t.1.set k (z + 1)) m ≤ vi (t.2.2.set e.1.toNat (z + 1)) p) ∧ (vi (t.2.2.set e.1.toNat (z + 1)) p = 0 ∨ ∃ m a, m < k + 1 ∧ l[m]? = some a ∧ a.1.toNat = p ∧ vi (t.2.2.set e.1.toNat (z + 1)) p = vi (t.1.set k (z + 1)) m)
    rw [vi_set (by rw [I.len2]; exact hpn)]
    by_cases c : p = e.1.toNat
    · subst c
      simp only [if_true]
      refine ⟨fun m a hm ha hpa => ?_, .inr ⟨k, e, by omega, hg, rfl, hvk.symm⟩⟩
      by_cases q : m = k
      · subst q; rw [hvk]; omega
      · rw [hv m (by omega)]
        have := hz1 m (E_iff.2 ⟨a, e, ha, hg, by omega, .inl (toNat_eq (g.proc ha).1 hp.1 hpa)⟩)
        omega
    · simp only [c, if_false]
      obtain ⟨d1, d2⟩ := I.clock p hpp
      refine ⟨fun m a hm ha hpa => ?_, d2.imp id fun ⟨m, a, hm, ha, hpa, h⟩ => ⟨m, a, by omega, ha, hpa, by rw [hv m hm]; exact h⟩⟩
      have : m ≠ k := fun q => by subst q; rw [hg] at ha; obtain rfl := Option.some.inj ha; exact c hpa.symm
      rw [hv m (by omega)]
      exact d1 m a (by omega) ha hpa
  · show (∀ m a, m < k + 1 → l[m]? = some a → a.2.1 = 2 → a.2.2 = x → vi (t.1.set k (z + 1)) m ≤ mget (cond (e.2.1 == 2) (mset t.2.1 e.2.2 (z + 1)) t.2.1) x) ∧ (mget (cond (e.2.1 == 2) (mset t.2.1 e.2.2 (z + 1)) t.2.1) x = 0 ∨ ∃ m a, m < k + 1 ∧ l[m]? = some a ∧ a.2.1 = 2 ∧ a.2.2 = x ∧ mget (cond (e.2.1 == 2) (mset t.2.1 e.2.2 (z + 1)) t.2.1) x = vi (t.1.set k (z + 1)) m)
    obtain ⟨d1, d2⟩ := I.sent x
    have old : ¬ (e.2.1 = 2 ∧ e.2.2 = x) → (∀ m a, m < k + 1 → l[m]? = some a → a.2.1 = 2 → a.2.2 = x → vi (t.1.set k (z + 1)) m ≤ mget t.2.1 x) ∧ (mget t.2.1 x = 0 ∨ ∃ m a, m < k + 1 ∧ l[m]? = some a ∧ a.2.1 = 2 ∧ a.2.2 = x ∧ mget t.2.1 x = vi (t.1.set k (z + 1)) m) := fun hne => by
      refine ⟨fun m a hm ha h2 hx => ?_, d2.imp id fun ⟨m, a, hm, ha, h2, hx, h⟩ => ⟨m, a, by omega, ha, h2, hx, by rw [hv m hm]; exact h⟩⟩
      have : m ≠ k := fun q => by subst q; rw [hg] at ha; obtain rfl := Option.some.inj ha; exact hne ⟨h2, hx⟩
      rw [hv m (by omega)]
      exact d1 m a (by omega) ha h2 hx
    cases c : (e.2.1 == 2) with
    | false => rw [cond_false]; exact old fun q => by simp [q.1] at c
    | true =>
      have he : e.2.1 = 2 := by simpa using c
      rw [cond_true, mget_set]
      by_cases q : x = e.2.2
      · subst q
        simp only [if_true]
        refine ⟨fun m a hm ha h2 hx => ?_, .inr ⟨k, e, by omega, hg, he, rfl, hvk.symm⟩⟩
        by_cases r : m = k
        · subst r; rw [hvk]; omega
        · exact (g.once ha hg (by omega) h2 he hx).elim
      · simp only [q, if_false]
        exact old fun r => q r.2.symm
theorem f42_val {n : Int} {l : List Ev} (g : Good n l) : ∃ y, F42 n l = some y ∧ y.length = l.length ∧ ∀ j, j < l.length → TP l y j := by
  have hl := g.len
  have hn1 := g.n1
  have hn6 := g.n6
  have vi_rep : ∀ m j, vi (List.replicate m 0) j = 0 := fun m j => by
    unfold vi; rw [List.getD_eq_getElem?_getD, List.getElem?_replicate]; split <;> rfl
  have hm1 : mkl n 8 (0 : Int) = some (List.replicate n.toNat 0) := by unfold mkl; rw [if_pos ⟨by omega, by omega, by omega⟩]
  have hm2 : mkl (l.length : Int) 8 (0 : Int) = some (List.replicate l.length 0) := by unfold mkl; rw [if_pos ⟨by omega, by omega, by omega⟩]; simp
  have I0 : Tk n l 0 (List.replicate l.length 0, [], List.replicate n.toNat 0) :=
    ⟨by simp, by simp, fun j hj => by omega, fun p hp => ⟨fun m a hm => by omega, .inl (vi_rep _ _)⟩, fun x => ⟨fun m a hm => by omega, .inl rfl⟩⟩
  have hw := while_foldI (body := F42_L0 l) (fun k (t : List Int × List (Int × Int) × List Int) => (t.1, t.2.1, t.2.2, (k : Int))) l.length (tstep l) id (fun k t => Tk n l k t) (List.replicate l.length 0, [], List.replicate n.toNat 0) I0
    (fun k t hk I => by
      refine ⟨?_, tk_step g hk I⟩
      have hg : l[k]? = some l[k] := List.getElem?_eq_getElem hk
      generalize l[k] = e at hg
      have hp := g.proc hg
      obtain ⟨y12, y14, y15⟩ := t
      have hlen : y12.length = l.length := I.len
      have hlen2 : y15.length = n.toNat := I.len2
      have i1 : idx y15 e.1 = some (vi y15 e.1.toNat) := by unfold idx; rw [if_pos hp.1, get_vi (by omega)]
      have i2 : idx y12 (k : Int) = some (vi y12 k) := idx_some (get_vi (by omega))
      have hst : tstep l k (y12, y14, y15) = (y12.set k (tn1 e (y12, y14, y15)), cond (e.2.1 == 2) (mset y14 e.2.2 (tn1 e (y12, y14, y15))) y14, y15.set e.1.toNat (tn1 e (y12, y14, y15))) := by unfold tstep; rw [hg]
      rw [hst]
      have hkl : decide ((k : Int) < (l.length : Int)) = true := by simpa using hk
      unfold tn1
      simp only [F42_L0, idx_some hg, i1, i2, Option.bind_some, hkl, cond_true, w64_succ hk (by omega), Int.toNat_natCast]
      cases (e.2.1 == 3) <;> cases (e.2.1 == 2) <;> simp)
    (fun t I => by simp [F42_L0])
  obtain ⟨hw1, hw2⟩ := hw
  refine ⟨_, ?_, hw2.len, fun j hj => hw2.tp j hj⟩
  unfold F42
  rw [hm1, hm2]
  simp only [Option.bind_some]
  have hw1' : whileM (F42_L0 l) (List.replicate l.length 0, ([] : List (Int × Int)), List.replicate n.toNat 0, 0) = _ := hw1
  rw [hw1']
  rfl
theorem ints_self (l : List Int) (hl : l.length ≤ 9223372036854775807) : F24 l l = some true := by
  have h : whileM (F24_L0 l l) 0 = some (found () (scan (fun _ (_ : Int) => (none : Option Bool)) l 0)) := by
    refine while_scan hl _ (fun k e h => ?_) (by simp [F24_L0])
    have hk := lt_of_get h
    simp [F24_L0, idx_some h, hk, going]
  have hn : scan (fun _ (_ : Int) => (none : Option Bool)) l 0 = none := scan_none.2 fun _ _ _ => rfl
  unfold F24
  rw [h, hn]
  simp [found, Ctl.on]
theorem law_TickTells (a0 : Int) (_ : i64 a0) (a1 : List Ev) (h : a1.length ≤ 9223372036854775807) (_ : ∀ x ∈ a1, i64 x.1 ∧ i64 x.2.1 ∧ i64 x.2.2) : F7 a0 a1 = some true := by
  obtain ⟨r, q1, q2⟩ := runCheck_same a0 a1
  unfold F7 F23
  rw [q1, q2]
  by_cases c : r = 0
  · subst c
    have g := good_of q2
    obtain ⟨y, e1, e2, e3⟩ := f42_val g
    obtain ⟨z, f1, f2, f3⟩ := f25_val g.len
    have : y = z := by
      apply List.ext_getElem?
      intro j
      by_cases hj : j < a1.length
      · rw [get_vi (by omega), get_vi (by omega), tp_unique e3 f3 j hj]
      · rw [List.getElem?_eq_none (by omega), List.getElem?_eq_none (by omega)]
    subst this
    simp [e1, f1, ints_self y (by omega)]
  · have c1 : (r != 0) = true := by simpa using c
    have c2 : (r == 0) = false := by simpa using c
    simp [c1, c2, c]
end Go.Proofs.Ytmfidlalejdikaa
