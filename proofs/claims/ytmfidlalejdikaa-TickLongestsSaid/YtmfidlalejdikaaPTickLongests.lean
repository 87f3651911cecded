/-
  The plain law of TickLongests.
-/
import Derived.Test.YtmfidlalejdikaaPTickTells
import Derived.Test.YtmfidlalejdikaaPRunAgains
namespace Go.Proofs.Ytmfidlalejdikaa
open Go Go.Bk
set_option linter.unusedVariables false
set_option linter.unusedSimpArgs false

/-- A number is one more than the greatest of those behind. -/
structure TQ' (l : List Ev) (y : List Int) (i : Nat) : Prop where
  up : ∀ j, T l i j = true → vi y j + 1 ≤ vi y i
  pos : 1 ≤ vi y i
  small : vi y i ≤ (l.length : Int) - i
  of : vi y i = 1 ∨ ∃ j, T l i j = true ∧ vi y i = vi y j + 1
theorem TQ'.set {l : List Ev} {y : List Int} {j k : Nat} (h : TQ' l y j) (hjk : k < j) (hk : k < y.length) (v : Int) : TQ' l (y.set k v) j := by
  have e : ∀ i, j ≤ i → vi (y.set k v) i = vi y i := fun i hi => by
    have q : ¬ i = k := by omega
    rw [vi_set hk, if_neg q]
  refine ⟨fun i hi => ?_, by rw [e j (Nat.le_refl _)]; exact h.pos, by rw [e j (Nat.le_refl _)]; exact h.small, ?_⟩
  · have := T_lt hi
    rw [e i (by omega), e j (Nat.le_refl _)]; exact h.up i hi
  · rw [e j (Nat.le_refl _)]
    rcases h.of with q | ⟨i, q1, q2⟩
    · exact .inl q
    · have := T_lt q1
      exact .inr ⟨i, q1, by rw [e i (by omega)]; exact q2⟩
theorem tq_unique {l : List Ev} {y z : List Int} (hy : ∀ j, j < l.length → TQ' l y j) (hz : ∀ j, j < l.length → TQ' l z j) : ∀ d j, l.length = j + d + 1 → vi y j = vi z j := by
  intro d
  induction d using Nat.strongRecOn with
  | _ d ih =>
    intro j hj
    have key : ∀ (a b : List Int), TQ' l a j → TQ' l b j → (∀ i, j < i → i < l.length → vi a i = vi b i) → vi a j ≤ vi b j := fun a b ha hb h => by
      rcases ha.of with q | ⟨i, q1, q2⟩
      · have := hb.pos; omega
      · have hlt := T_lt q1
        have := hb.up i q1
        have := h i hlt.1 (by omega)
        omega
    have hh : ∀ i, j < i → i < l.length → vi y i = vi z i := fun i hi hl => ih (l.length - i - 1) (by omega) i (by omega)
    have h1 := key y z (hy j (by omega)) (hz j (by omega)) hh
    have h2 := key z y (hz j (by omega)) (hy j (by omega)) (fun i hi hl => (hh i hi hl).symm)
    omega

/-- The state of both first loops, from the end on: k of the numbers are there. -/
structure Dn (l : List Ev) (k : Nat) (y : List Int) : Prop where
  len : y.length = l.length
  tq : ∀ j, j < l.length → l.length ≤ j + k → TQ' l y j
  zero : ∀ j, j + k < l.length → vi y j = 0
theorem dn_step {l : List Ev} {k i : Nat} {y : List Int} (h : Dn l k y) (hi : l.length = i + k + 1) {t : Int}
    (h1 : ∀ m, i < m → m < l.length → T l i m = true → vi y m ≤ t) (h2 : t = 0 ∨ ∃ m, i < m ∧ m < l.length ∧ T l i m = true ∧ t = vi y m) : Dn l (k + 1) (y.set i (t + 1)) ∧ 0 ≤ t ∧ t ≤ l.length := by
  have hlen := h.len
  have hb : 0 ≤ t ∧ t ≤ (l.length : Int) - i - 1 := by
    rcases h2 with q | ⟨m, hm, hml, _, q⟩
    · omega
    · have := (h.tq m hml (by omega)).pos; have := (h.tq m hml (by omega)).small; omega
  have e1 : vi (y.set i (t + 1)) i = t + 1 := by rw [vi_set (by omega)]; simp
  have e2 : ∀ m, i ≠ m → vi (y.set i (t + 1)) m = vi y m := fun m hm => by
    have q : ¬ m = i := fun e => hm e.symm
    rw [vi_set (by omega), if_neg q]
  refine ⟨⟨by simpa using hlen, fun j hj hjk => ?_, fun j hj => by rw [e2 j (by omega)]; exact h.zero j (by omega)⟩, hb.1, by omega⟩
  by_cases e : j = i
  · subst e
    refine ⟨fun m hm => ?_, by rw [e1]; omega, by rw [e1]; omega, ?_⟩
    · have := T_lt hm
      rw [e1, e2 m (by omega)]
      have := h1 m this.1 this.2 hm; omega
    · rw [e1]
      rcases h2 with q | ⟨m, hm, hml, ht, q⟩
      · left; omega
      · right; exact ⟨m, ht, by rw [e2 m (by omega)]; omega⟩
  · exact (h.tq j hj (by omega)).set (by omega) (by omega) _
theorem dn_zero (l : List Ev) : Dn l 0 (List.replicate l.length 0) :=
  ⟨by simp, fun j hj hk => by omega, fun j _ => by unfold vi; rw [List.getD_eq_getElem?_getD, List.getElem?_replicate]; split <;> rfl⟩

/-! The reference's numbers. -/
def g2 (l : List Ev) (i : Nat) (y : List Int) (m : Nat) (t : Int) : Int := if (T l i (i + 1 + m) && decide (vi y (i + 1 + m) > t)) = true then vi y (i + 1 + m) else t
def inn2 (l : List Ev) (i : Nat) (y : List Int) : Int := (List.range (l.length - (i + 1))).foldl (fun t m => g2 l i y m t) 0
theorem f27_l1 {l : List Ev} (hl : l.length ≤ 30) {i : Nat} (hi : i < l.length) (y : List Int) (hy : y.length = l.length) :
    whileM (F27_L1 l (mat l.length (T l)) (i : Int)) (y.set i 0, ((i + 1 : Nat) : Int)) = some (.brk (y.set i (inn2 l i y))) ∧ ((∀ m, m < l.length - (i + 1) → T l i (i + 1 + m) = true → vi y (i + 1 + m) ≤ inn2 l i y) ∧ (inn2 l i y = 0 ∨ ∃ m, m < l.length - (i + 1) ∧ T l i (i + 1 + m) = true ∧ inn2 l i y = vi y (i + 1 + m))) :=
  while_foldI (fun k t => (y.set i t, ((i + 1 + k : Nat) : Int))) (l.length - (i + 1)) (fun m t => g2 l i y m t) (fun t => y.set i t)
    (fun k t => (∀ m, m < k → T l i (i + 1 + m) = true → vi y (i + 1 + m) ≤ t) ∧ (t = 0 ∨ ∃ m, m < k ∧ T l i (i + 1 + m) = true ∧ t = vi y (i + 1 + m))) 0 ⟨fun m hm => by omega, .inl rfl⟩
    (fun k t hk hI => by
      have hj : i + 1 + k < l.length := by omega
      have hkl : decide (((i + 1 + k : Nat) : Int) < (l.length : Int)) = true := by rw [decide_eq_true_eq]; omega
      have q1 : idx (mat l.length (T l)) (i : Int) = some (rowf l.length (T l i)) := rowf_idx hi
      have q2 : idx (rowf l.length (T l i)) ((i + 1 + k : Nat) : Int) = some (T l i (i + 1 + k)) := rowf_idx hj
      have q3 : idx (y.set i t) ((i + 1 + k : Nat) : Int) = some (vi y (i + 1 + k)) := by
        have q : ¬ i + 1 + k = i := by omega
        rw [idx_some (get_vi (by simp; omega)), vi_set (by omega), if_neg q]
      have q4 : idx (y.set i t) (i : Int) = some t := idx_some (by rw [List.getElem?_set_self]; omega)
      have hwz : w64 (((i + 1 + k : Nat) : Int) + 1) = ((i + 1 + (k + 1) : Nat) : Int) := by rw [w64_succ hj (by omega)]; rfl
      constructor
      · simp only [F27_L1, q1, q2, q3, q4, Option.bind_some, hkl, cond_true, hwz, Int.toNat_natCast, List.set_set]
        unfold g2
        generalize vi y (i + 1 + k) = v at *
        cases T l i (i + 1 + k) with
        | false => simp
        | true => cases c : decide (v > t) <;> simp_all
      · unfold g2
        split
        · rename_i q
          simp only [Bool.and_eq_true, decide_eq_true_eq] at q
          refine ⟨fun m hm ht => ?_, .inr ⟨k, by omega, q.1, rfl⟩⟩
          by_cases e : m = k
          · subst e; omega
          · have := hI.1 m (by omega) ht; omega
        · rename_i q
          refine ⟨fun m hm ht => ?_, hI.2.imp id fun ⟨m, h1, h2⟩ => ⟨m, by omega, h2⟩⟩
          by_cases e : m = k
          · subst e
            simp only [ht, Bool.true_and, decide_eq_true_eq] at q
            omega
          · exact hI.1 m (by omega) ht)
    (fun t _ => by
      have hkl : decide (((i + 1 + (l.length - (i + 1)) : Nat) : Int) < (l.length : Int)) = false := by rw [decide_eq_false_iff_not]; omega
      simp only [F27_L1, hkl, cond_false])
theorem self_set {y : List Int} {k : Nat} (hk : k < y.length) (h : vi y k = 0) : y.set k 0 = y := by
  have h0 := get_vi hk
  rw [h] at h0
  apply List.ext_getElem?
  intro b
  rw [List.getElem?_set]
  by_cases c : k = b
  · subst c; rw [h0]; simp [hk]
  · simp [c]
theorem down {i : Nat} (hi : i ≤ 30) : w64 ((i : Int) - 1) = (i : Int) - 1 := w64_of (by omega) (by omega)
theorem f27_l0 {l : List Ev} (hl : l.length ≤ 30) : ∀ k i y, l.length = i + k → Dn l k y → ∃ z, whileM (F27_L0 l (mat l.length (T l))) (y, (i : Int) - 1) = some (.brk z) ∧ Dn l l.length z := by
  intro k i
  induction i generalizing k with
  | zero =>
    intro y hk hd
    have hb : F27_L0 l (mat l.length (T l)) (y, ((0 : Nat) : Int) - 1) = some (.brk y) := by simp [F27_L0]
    exact ⟨y, whileM_brk hb, by have : k = l.length := by omega
                                subst this; exact hd⟩
  | succ i ih =>
    intro y hk hd
    have hil : i < l.length := by omega
    obtain ⟨h1, h2, h3⟩ := f27_l1 hl hil y hd.len
    obtain ⟨d1, d2, d3⟩ := dn_step (i := i) (t := inn2 l i y) hd (by omega)
      (fun m hm hml ht => by have := h2 (m - (i + 1)) (by omega) (by rw [show i + 1 + (m - (i + 1)) = m by omega]; exact ht); rw [show i + 1 + (m - (i + 1)) = m by omega] at this; exact this)
      (h3.imp id fun ⟨m, hm, ht, hv⟩ => ⟨i + 1 + m, by omega, by omega, ht, hv⟩)
    rw [self_set (by rw [hd.len]; exact hil) (hd.zero i (by omega))] at h1
    have q4 : idx (y.set i (inn2 l i y)) (i : Int) = some (inn2 l i y) := idx_some (by rw [List.getElem?_set_self]; rw [hd.len]; exact hil)
    have hws : w64 (inn2 l i y + 1) = inn2 l i y + 1 := w64_of (by omega) (by omega)
    have hb : F27_L0 l (mat l.length (T l)) (y, ((i + 1 : Nat) : Int) - 1) = some (.nxt (y.set i (inn2 l i y + 1), (i : Int) - 1)) := by
      have e : ((i + 1 : Nat) : Int) - 1 = (i : Int) := by omega
      have hge : decide ((i : Int) ≥ 0) = true := by simp
      rw [e]
      simp only [F27_L0, w64_succ hil (by omega), h1, q4, hws, Option.bind_some, Ctl.on, hge, cond_true, Int.toNat_natCast, List.set_set, down (show i ≤ 30 by omega)]
    obtain ⟨z, hz1, hz2⟩ := ih (k + 1) (y.set i (inn2 l i y + 1)) (by omega) d1
    exact ⟨z, by rw [whileM_nxt hb]; exact hz1, hz2⟩

/-! The program's numbers. -/
def g3 (l : List Ev) (i : Nat) (y : List Int) (m : Nat) (t : Int) : Int := if T l i (i + 1 + m) = true then mx t (vi y (i + 1 + m) + 1) else t
def inn3 (l : List Ev) (i : Nat) (y : List Int) : Int := (List.range (l.length - (i + 1))).foldl (fun t m => g3 l i y m t) 1
theorem f26_l1 {l : List Ev} (hl : l.length ≤ 30) {past : List W32} (hp : past.length = l.length) (hp2 : ∀ j, j < l.length → ∀ i, (wd past j).getLsbD i = T l i j) {i : Nat} (hi : i < l.length) (y : List Int) (hy : y.length = l.length) (hb : ∀ m, i < m → m < l.length → 0 ≤ vi y m ∧ vi y m ≤ 30) :
    whileM (F26_L1 l past (i : Int)) (y.set i 1, ((i + 1 : Nat) : Int)) = some (.brk (y.set i (inn3 l i y))) ∧ ((∀ m, m < l.length - (i + 1) → T l i (i + 1 + m) = true → vi y (i + 1 + m) + 1 ≤ inn3 l i y) ∧ (inn3 l i y = 1 ∨ ∃ m, m < l.length - (i + 1) ∧ T l i (i + 1 + m) = true ∧ inn3 l i y = vi y (i + 1 + m) + 1)) :=
  while_foldI (fun k t => (y.set i t, ((i + 1 + k : Nat) : Int))) (l.length - (i + 1)) (fun m t => g3 l i y m t) (fun t => y.set i t)
    (fun k t => (∀ m, m < k → T l i (i + 1 + m) = true → vi y (i + 1 + m) + 1 ≤ t) ∧ (t = 1 ∨ ∃ m, m < k ∧ T l i (i + 1 + m) = true ∧ t = vi y (i + 1 + m) + 1)) 1 ⟨fun m hm => by omega, .inl rfl⟩
    (fun k t hk hI => by
      have hj : i + 1 + k < l.length := by omega
      have hkl : decide (((i + 1 + k : Nat) : Int) < (l.length : Int)) = true := by rw [decide_eq_true_eq]; omega
      have q1 : idx past ((i + 1 + k : Nat) : Int) = some (wd past (i + 1 + k)) := idx_some (get_wd (by omega))
      have q3 : idx (y.set i t) ((i + 1 + k : Nat) : Int) = some (vi y (i + 1 + k)) := by
        have q : ¬ i + 1 + k = i := by omega
        rw [idx_some (get_vi (by simp; omega)), vi_set (by omega), if_neg q]
      have q4 : idx (y.set i t) (i : Int) = some t := idx_some (by rw [List.getElem?_set_self]; omega)
      have hwz : w64 (((i + 1 + k : Nat) : Int) + 1) = ((i + 1 + (k + 1) : Nat) : Int) := by rw [w64_succ hj (by omega)]; rfl
      have hvb := hb (i + 1 + k) (by omega) hj
      have hws : w64 (vi y (i + 1 + k) + 1) = vi y (i + 1 + k) + 1 := w64_of (by omega) (by omega)
      constructor
      · simp only [F26_L1, q1, q3, q4, shc_nat, bit_eq, hp2 _ hj, hws, Option.bind_some, hkl, cond_true, hwz, Int.toNat_natCast, List.set_set]
        unfold g3
        cases T l i (i + 1 + k) <;> simp
      · unfold g3
        split
        · rename_i q
          have hm1 : t ≤ mx t (vi y (i + 1 + k) + 1) ∧ vi y (i + 1 + k) + 1 ≤ mx t (vi y (i + 1 + k) + 1) ∧ (mx t (vi y (i + 1 + k) + 1) = t ∨ mx t (vi y (i + 1 + k) + 1) = vi y (i + 1 + k) + 1) := by unfold mx; split <;> omega
          refine ⟨fun m hm ht => ?_, ?_⟩
          · by_cases e : m = k
            · subst e; omega
            · have := hI.1 m (by omega) ht; omega
          · rcases hm1.2.2 with r | r
            · rw [r]; exact hI.2.imp id fun ⟨m, h1, h2⟩ => ⟨m, by omega, h2⟩
            · exact .inr ⟨k, by omega, q, r⟩
        · rename_i q
          refine ⟨fun m hm ht => ?_, hI.2.imp id fun ⟨m, h1, h2⟩ => ⟨m, by omega, h2⟩⟩
          by_cases e : m = k
          · subst e; exact absurd ht q
          · exact hI.1 m (by omega) ht)
    (fun t _ => by
      have hkl : decide (((i + 1 + (l.length - (i + 1)) : Nat) : Int) < (l.length : Int)) = false := by rw [decide_eq_false_iff_not]; omega
      simp only [F26_L1, hkl, cond_false])
/-- The greatest so far. -/
def Mx (l : List Ev) (y : List Int) (k : Nat) (x : Int) : Prop := (∀ j, j < l.length → l.length ≤ j + k → vi y j ≤ x) ∧ 0 ≤ x ∧ (x = 0 ∧ k = 0 ∨ ∃ j, j < l.length ∧ l.length ≤ j + k ∧ x = vi y j)
theorem f26_l0 {l : List Ev} (hl : l.length ≤ 30) {past : List W32} (hp : past.length = l.length) (hp2 : ∀ j, j < l.length → ∀ i, (wd past j).getLsbD i = T l i j) :
    ∀ k i y x, l.length = i + k → Dn l k y → Mx l y k x → ∃ z x', whileM (F26_L0 l past) (y, x, (i : Int) - 1) = some (.brk (z, x')) ∧ Dn l l.length z ∧ Mx l z l.length x' := by
  intro k i
  induction i generalizing k with
  | zero =>
    intro y x hk hd hm
    have hb : F26_L0 l past (y, x, ((0 : Nat) : Int) - 1) = some (.brk (y, x)) := by simp [F26_L0]
    have : k = l.length := by omega
    subst this
    exact ⟨y, x, whileM_brk hb, hd, hm⟩
  | succ i ih =>
    intro y x hk hd hm
    have hil : i < l.length := by omega
    obtain ⟨h1, h2, h3⟩ := f26_l1 hl hp hp2 hil y hd.len (fun m hm hml => by have := (hd.tq m hml (by omega)).pos; have := (hd.tq m hml (by omega)).small; omega)
    obtain ⟨d1, d2, d3⟩ := dn_step (i := i) (t := inn3 l i y - 1) hd (by omega)
      (fun m hm hml ht => by have := h2 (m - (i + 1)) (by omega) (by rw [show i + 1 + (m - (i + 1)) = m by omega]; exact ht); rw [show i + 1 + (m - (i + 1)) = m by omega] at this; omega)
      (by rcases h3 with q | ⟨m, hm, ht, hv⟩
          · left; omega
          · right; exact ⟨i + 1 + m, by omega, by omega, ht, by omega⟩)
    rw [show inn3 l i y - 1 + 1 = inn3 l i y by omega] at d1
    have q4 : idx (y.set i (inn3 l i y)) (i : Int) = some (inn3 l i y) := idx_some (by rw [List.getElem?_set_self]; rw [hd.len]; exact hil)
    have q5 : idx y (i : Int) = some (vi y i) := idx_some (get_vi (by rw [hd.len]; exact hil))
    have hb : F26_L0 l past (y, x, ((i + 1 : Nat) : Int) - 1) = some (.nxt (y.set i (inn3 l i y), mx x (inn3 l i y), (i : Int) - 1)) := by
      have e : ((i + 1 : Nat) : Int) - 1 = (i : Int) := by omega
      have hge : decide ((i : Int) ≥ 0) = true := by simp
      rw [e]
      simp only [F26_L0, w64_succ hil (by omega), h1, q4, q5, Option.bind_some, Ctl.on, hge, cond_true, Int.toNat_natCast, List.set_set, down (show i ≤ 30 by omega)]
    have e1 : vi (y.set i (inn3 l i y)) i = inn3 l i y := by rw [vi_set (by rw [hd.len]; exact hil)]; simp
    have e2 : ∀ m, i ≠ m → vi (y.set i (inn3 l i y)) m = vi y m := fun m hm => by
      have q : ¬ m = i := fun e => hm e.symm
      rw [vi_set (by rw [hd.len]; exact hil), if_neg q]
    have hmx : x ≤ mx x (inn3 l i y) ∧ inn3 l i y ≤ mx x (inn3 l i y) ∧ (mx x (inn3 l i y) = x ∨ mx x (inn3 l i y) = inn3 l i y) := by unfold mx; split <;> omega
    obtain ⟨m1, m2, m3⟩ := hm
    have hm' : Mx l (y.set i (inn3 l i y)) (k + 1) (mx x (inn3 l i y)) := by
      refine ⟨fun j hj hjk => ?_, by omega, .inr ?_⟩
      · by_cases e : i = j
        · subst e; rw [e1]; exact hmx.2.1
        · rw [e2 j e]; have := m1 j hj (by omega); omega
      · rcases hmx.2.2 with r | r
        · rcases m3 with ⟨q, _⟩ | ⟨j, hj, hjk, q⟩
          · exact ⟨i, hil, by omega, by rw [e1]; omega⟩
          · exact ⟨j, hj, by omega, by rw [e2 j (by omega)]; omega⟩
        · exact ⟨i, hil, by omega, by rw [e1]; exact r⟩
    obtain ⟨z, x', hz1, hz2, hz3⟩ := ih (k + 1) (y.set i (inn3 l i y)) (mx x (inn3 l i y)) (by omega) d1 hm'
    exact ⟨z, x', by rw [whileM_nxt hb]; exact hz1, hz2, hz3⟩
theorem f27_l2 {l : List Ev} (hl : l.length ≤ 30) {y : List Int} (hd : Dn l l.length y) : ∃ x, whileM (F27_L2 y) (0, 0) = some (.brk x) ∧ Mx l y l.length x := by
  have hlen := hd.len
  have := while_foldI (body := F27_L2 y) (fun k (t : Int) => (t, (k : Int))) y.length (fun k t => if vi y k > t then vi y k else t) id
    (fun k t => (∀ j, j < k → vi y j ≤ t) ∧ 0 ≤ t ∧ (t = 0 ∧ k = 0 ∨ ∃ j, j < k ∧ t = vi y j)) 0 ⟨fun j hj => by omega, by omega, .inl ⟨rfl, rfl⟩⟩
    (fun k t hk hI => by
      have hkl : decide ((k : Int) < (y.length : Int)) = true := by simpa using hk
      have hpos := (hd.tq k (by omega) (by omega)).pos
      constructor
      · simp only [F27_L2, idx_some (get_vi hk), Option.bind_some, hkl, cond_true, w64_succ hk (by omega)]
        by_cases c : vi y k > t <;> simp [c]
      · obtain ⟨i1, i2, i3⟩ := hI
        split
        · rename_i c
          refine ⟨fun j hj => ?_, by omega, .inr ⟨k, by omega, rfl⟩⟩
          by_cases e : j = k
          · subst e; omega
          · have := i1 j (by omega); omega
        · rename_i c
          refine ⟨fun j hj => ?_, i2, .inr ?_⟩
          · by_cases e : j = k
            · subst e; omega
            · exact i1 j (by omega)
          · rcases i3 with ⟨q, q0⟩ | ⟨j, hj, q⟩
            · exfalso; omega
            · exact ⟨j, by omega, q⟩)
    (fun t _ => by simp [F27_L2])
  obtain ⟨hw, h1, h2, h3⟩ := this
  refine ⟨_, hw, fun j hj _ => h1 j (by omega), h2, ?_⟩
  rcases h3 with ⟨q, q0⟩ | ⟨j, hj, q⟩
  · left; exact ⟨q, by omega⟩
  · right; exact ⟨j, by omega, by omega, q⟩
theorem mx_unique {l : List Ev} {y : List Int} {a b : Int} (ha : Mx l y l.length a) (hb : Mx l y l.length b) : a = b := by
  have key : ∀ a b, Mx l y l.length a → Mx l y l.length b → a ≤ b := fun a b ha hb => by
    rcases ha.2.2 with ⟨q, _⟩ | ⟨j, hj, hk, q⟩
    · have := hb.2.1; omega
    · have := hb.1 j hj hk; omega
  have := key a b ha hb
  have := key b a hb ha
  omega

/-! The list. -/
def okp (l : List Ev) (y : List Int) (most : Int) (out : List Int) (i : Nat) : Prop := vi y i = most - out.length ∧ ∀ q, out.getLast? = some q → T l q.toNat i = true
noncomputable instance {l : List Ev} {y : List Int} {most : Int} {out : List Int} {i : Nat} : Decidable (okp l y most out i) := Classical.propDecidable _
inductive Ch (l : List Ev) (y : List Int) (most : Int) : List Int → Prop
  | nil : Ch l y most []
  | snoc {out : List Int} {p : Nat} : Ch l y most out → p < l.length → okp l y most out p → (∀ i, i < p → ¬ okp l y most out i) → Ch l y most (out ++ [(p : Int)])
theorem ch_unique {l : List Ev} {y : List Int} {most : Int} {a : List Int} (ha : Ch l y most a) : ∀ {b : List Int}, Ch l y most b → a.length = b.length → a = b := by
  induction ha with
  | nil => intro b hb h; cases b with
           | nil => rfl
           | cons x b => simp at h
  | @snoc out p h1 h2 h3 h4 ih =>
    intro b hb h
    cases hb with
    | nil => simp at h
    | @snoc out' p' g1 g2 g3 g4 =>
      have : out = out' := ih g1 (by simpa using h)
      subst this
      have : p = p' := by
        rcases Nat.lt_trichotomy p p' with q | q | q
        · exact absurd h3 (g4 p q)
        · exact q
        · exact absurd g3 (h4 p' q)
      subst this; rfl
theorem ch_mem {l : List Ev} {y : List Int} {most : Int} {a : List Int} (ha : Ch l y most a) : (∀ x ∈ a, 0 ≤ x ∧ x < l.length) ∧ (∀ q, a.getLast? = some q → vi y q.toNat = most - a.length + 1) := by
  induction ha with
  | nil => exact ⟨fun x hx => by simp at hx, fun q hq => by simp at hq⟩
  | @snoc out p h1 h2 h3 h4 ih =>
    refine ⟨fun x hx => ?_, fun q hq => ?_⟩
    · rw [List.mem_append, List.mem_singleton] at hx
      rcases hx with hx | hx
      · exact ih.1 x hx
      · subst hx; omega
    · rw [List.getLast?_append] at hq
      simp at hq
      subst hq
      have := h3.1
      simp; omega
/-- There is a next one. -/
theorem ch_next {l : List Ev} {y : List Int} {most : Int} (hd : Dn l l.length y) (hm : Mx l y l.length most) {a : List Int} (ha : Ch l y most a) (hlt : (a.length : Int) < most) :
    ∃ p, p < l.length ∧ okp l y most a p ∧ ∀ i, i < p → ¬ okp l y most a i := by
  refine first_of l.length ?_
  cases hq : a.getLast? with
  | none =>
    have : a = [] := by simpa using hq
    subst this
    rcases hm.2.2 with ⟨q, _⟩ | ⟨j, hj, _, q⟩
    · simp at hlt; omega
    · exact ⟨j, hj, by simp; omega, fun q hq => by simp at hq⟩
  | some q =>
    have h1 := (ch_mem ha).2 q hq
    have h2 := (ch_mem ha).1 q (List.mem_of_getLast? hq)
    rcases (hd.tq q.toNat (by omega) (by omega)).of with r | ⟨j, hj, r⟩
    · omega
    · have := T_lt hj
      exact ⟨j, this.2, by omega, fun q' hq' => by rw [hq] at hq'; cases hq'; exact hj⟩
theorem last_idx {a : List Int} {q : Int} (hq : a.getLast? = some q) (hl : a.length ≤ 30) : idx a (w64 ((a.length : Int) - 1)) = some q := by
  have hne : a ≠ [] := by intro h; subst h; simp at hq
  have hpos : 0 < a.length := List.length_pos_iff.2 hne
  rw [w64_of (by omega) (by omega)]
  unfold idx
  rw [if_pos (by omega)]
  rw [List.getLast?_eq_getElem?] at hq
  rw [← hq]; congr 1; omega
theorem app8 (a : List Int) (v : Int) (hl : a.length ≤ 30) : appl 8 a [v] = some (a ++ [v]) := by unfold appl; rw [if_pos]; simp; omega

theorem f27_l3 {l : List Ev} (hl : l.length ≤ 30) {y : List Int} {most : Int} (hd : Dn l l.length y) (hm : Mx l y l.length most) (hmost : most ≤ 30) :
    ∀ (r : Nat) (a : List Int), Ch l y most a → (a.length : Int) + r = most → ∃ b, whileM (F27_L3 l (mat l.length (T l)) y) (a, (r : Int)) = some (.brk b) ∧ Ch l y most b ∧ (b.length : Int) = most := by
  intro r
  induction r with
  | zero =>
    intro a ha hr
    have hb : F27_L3 l (mat l.length (T l)) y (a, ((0 : Nat) : Int)) = some (.brk a) := by simp [F27_L3]
    exact ⟨a, whileM_brk hb, ha, by omega⟩
  | succ r ih =>
    intro a ha hr
    obtain ⟨p, hp, hok, hmin⟩ := ch_next hd hm ha (by omega)
    have hlen := hd.len
    -- the search
    have step : ∀ i, i < l.length → F27_L4 l (mat l.length (T l)) y a ((r + 1 : Nat) : Int) (i : Int) = some (if okp l y most a i then .brk (a ++ [(i : Int)]) else .nxt ((i + 1 : Nat) : Int)) := fun i hi => by
      have hil : decide ((i : Int) < (l.length : Int)) = true := by simpa using hi
      have q1 : idx y (i : Int) = some (vi y i) := idx_some (get_vi (by omega))
      have hal : a.length ≤ 30 := by omega
      have hrm : ((r + 1 : Nat) : Int) = most - a.length := by omega
      rw [hrm]
      by_cases c1 : vi y i = most - a.length
      · have b1 : (vi y i == most - (a.length : Int)) = true := by simpa using c1
        cases hq : a.getLast? with
        | none =>
          have : a = [] := by simpa using hq
          subst this
          have hokk : okp l y most [] i := ⟨c1, fun q hq => by simp at hq⟩
          rw [if_pos hokk]
          have h0 : ((([] : List Int).length : Int) == 0) = true := rfl
          simp only [F27_L4, q1, b1, h0, app8 [] (i : Int) (by simp), Option.bind_some, hil, cond_true]
        | some q =>
          have h2 := (ch_mem ha).1 q (List.mem_of_getLast? hq)
          have hne : ((a.length : Int) == 0) = false := by
            have : a ≠ [] := by intro h; subst h; simp at hq
            have := List.length_pos_iff.2 this
            simp; omega
          obtain ⟨q', rfl⟩ : ∃ n : Nat, q = n := ⟨q.toNat, by omega⟩
          have r1 : idx (mat l.length (T l)) (q' : Int) = some (rowf l.length (T l q')) := rowf_idx (by omega)
          have r2 : idx (rowf l.length (T l q')) (i : Int) = some (T l q' i) := rowf_idx hi
          simp only [F27_L4, q1, b1, hne, last_idx hq hal, r1, r2, app8 a (i : Int) hal, Option.bind_some, hil, cond_true, cond_false, w64_succ hi (by omega)]
          cases c2 : T l q' i with
          | true =>
            have hokk : okp l y most a i := ⟨c1, fun q hq' => by rw [hq] at hq'; cases hq'; simpa using c2⟩
            rw [if_pos hokk]; simp
          | false =>
            have hokk : ¬ okp l y most a i := fun h => by have := h.2 _ hq; simp at this; rw [c2] at this; cases this
            rw [if_neg hokk]; simp
      · have b1 : (vi y i == most - (a.length : Int)) = false := by simpa using c1
        have hokk : ¬ okp l y most a i := fun h => c1 h.1
        rw [if_neg hokk]
        simp only [F27_L4, q1, b1, Option.bind_some, hil, cond_true, cond_false, w64_succ hi (by omega)]
    have hw := while_upto (body := F27_L4 l (mat l.length (T l)) y a ((r + 1 : Nat) : Int)) (fun k => (k : Int)) p (c := .brk (a ++ [(p : Int)]))
      (fun k hk => by rw [step k (by omega), if_neg (hmin k hk)])
      (by rw [step p hp, if_pos hok]) (by intro s h; cases h)
    have hw' : whileM (F27_L4 l (mat l.length (T l)) y a ((r + 1 : Nat) : Int)) 0 = _ := hw
    have hb : F27_L3 l (mat l.length (T l)) y (a, ((r + 1 : Nat) : Int)) = some (.nxt (a ++ [(p : Int)], (r : Int))) := by
      have hgt : decide (((r + 1 : Nat) : Int) > 0) = true := by rw [decide_eq_true_eq]; omega
      have hws : w64 (((r + 1 : Nat) : Int) - 1) = (r : Int) := by rw [w64_of (by omega) (by omega)]; omega
      simp only [F27_L3, hw', Option.bind_some, Ctl.on, hgt, cond_true, hws]
    obtain ⟨b, hb1, hb2, hb3⟩ := ih (a ++ [(p : Int)]) (ha.snoc hp hok hmin) (by simp; omega)
    exact ⟨b, by rw [whileM_nxt hb]; exact hb1, hb2, hb3⟩
theorem f26_l2 {l : List Ev} (hl : l.length ≤ 30) {past : List W32} (hp : past.length = l.length) (hp2 : ∀ j, j < l.length → ∀ i, (wd past j).getLsbD i = T l i j) {y : List Int} {most : Int} (hd : Dn l l.length y) (hm : Mx l y l.length most) (hmost : most ≤ 30) :
    ∀ (d i : Nat) (a : List Int), l.length = i + d → Ch l y most a → (a.length : Int) ≤ most → (∀ j, j < i → ¬ okp l y most a j) → ∃ b, whileM (F26_L2 l past y most) (a, (i : Int)) = some (.brk b) ∧ Ch l y most b ∧ (b.length : Int) = most := by
  intro d
  induction d with
  | zero =>
    intro i a hi ha hle hno
    have hb : F26_L2 l past y most (a, (i : Int)) = some (.brk a) := by
      have : decide ((i : Int) < (l.length : Int)) = false := by rw [decide_eq_false_iff_not]; omega
      simp only [F26_L2, this, cond_false]
    refine ⟨a, whileM_brk hb, ha, ?_⟩
    apply Classical.byContradiction
    intro hne
    obtain ⟨p, hp, hok, _⟩ := ch_next hd hm ha (by omega)
    exact hno p (by omega) hok
  | succ d ih =>
    intro i a hi ha hle hno
    have hil : i < l.length := by omega
    have hid : decide ((i : Int) < (l.length : Int)) = true := by simpa using hil
    have hlen := hd.len
    have q1 : idx y (i : Int) = some (vi y i) := idx_some (get_vi (by omega))
    have q2 : idx past (i : Int) = some (wd past i) := idx_some (get_wd (by omega))
    have hal : a.length ≤ 30 := by omega
    have hws : w64 (most - (a.length : Int)) = most - a.length := w64_of (by omega) (by omega)
    have step : F26_L2 l past y most (a, (i : Int)) = some (.nxt (if okp l y most a i then a ++ [(i : Int)] else a, ((i + 1 : Nat) : Int))) := by
      by_cases c1 : vi y i = most - a.length
      · have b1 : (vi y i == most - (a.length : Int)) = true := by simpa using c1
        cases hq : a.getLast? with
        | none =>
          have : a = [] := by simpa using hq
          subst this
          have hokk : okp l y most [] i := ⟨c1, fun q hq => by simp at hq⟩
          rw [if_pos hokk]
          have h0 : ((([] : List Int).length : Int) == 0) = true := rfl
          simp only [F26_L2, q1, hws, b1, h0, app8 [] (i : Int) (by simp), Option.bind_some, hid, cond_true, w64_succ hil (by omega)]
        | some q =>
          have h2 := (ch_mem ha).1 q (List.mem_of_getLast? hq)
          have hne : ((a.length : Int) == 0) = false := by
            have : a ≠ [] := by intro h; subst h; simp at hq
            have := List.length_pos_iff.2 this
            simp; omega
          obtain ⟨q', rfl⟩ : ∃ n : Nat, q = n := ⟨q.toNat, by omega⟩
          simp only [F26_L2, q1, q2, hws, b1, hne, last_idx hq hal, shc_nat, bit_eq, hp2 i hil, app8 a (i : Int) hal, Option.bind_some, hid, cond_true, cond_false, w64_succ hil (by omega)]
          cases c2 : T l q' i with
          | true =>
            have hokk : okp l y most a i := ⟨c1, fun q hq' => by rw [hq] at hq'; cases hq'; simpa using c2⟩
            rw [if_pos hokk]; simp
          | false =>
            have hokk : ¬ okp l y most a i := fun h => by have := h.2 _ hq; simp at this; rw [c2] at this; cases this
            rw [if_neg hokk]; simp
      · have b1 : (vi y i == most - (a.length : Int)) = false := by simpa using c1
        have hokk : ¬ okp l y most a i := fun h => c1 h.1
        rw [if_neg hokk]
        simp only [F26_L2, q1, hws, b1, Option.bind_some, hid, cond_true, cond_false, w64_succ hil (by omega)]
    by_cases hok : okp l y most a i
    · rw [if_pos hok] at step
      have hvp := (hd.tq i hil (by omega)).pos
      have hlt : (a.length : Int) < most := by have := hok.1; omega
      obtain ⟨b, h1, h2, h3⟩ := ih (i + 1) (a ++ [(i : Int)]) (by omega) (ha.snoc hil hok hno) (by simp; omega) (fun j hj h => by
        have := h.2 (i : Int) (by simp)
        simp at this
        have := T_lt this
        omega)
      exact ⟨b, by rw [whileM_nxt step]; exact h1, h2, h3⟩
    · rw [if_neg hok] at step
      obtain ⟨b, h1, h2, h3⟩ := ih (i + 1) a (by omega) ha hle (fun j hj => by
        by_cases e : j = i
        · subst e; exact hok
        · exact hno j (by omega))
      exact ⟨b, by rw [whileM_nxt step]; exact h1, h2, h3⟩
theorem law_TickLongests (a0 : Int) (_ : i64 a0) (a1 : List Ev) (h : a1.length ≤ 9223372036854775807) (_ : ∀ x ∈ a1, i64 x.1 ∧ i64 x.2.1 ∧ i64 x.2.2) : F8 a0 a1 = some true := by
  obtain ⟨r, q1, q2⟩ := runCheck_same a0 a1
  unfold F8 F26
  rw [q1, q2]
  by_cases c : r = 0
  · subst c
    have g := good_of q2
    have hl := g.len
    obtain ⟨past, e1, e2, e3⟩ := f40_val g
    have hm : mkl (a1.length : Int) 8 (0 : Int) = some (List.replicate a1.length 0) := by unfold mkl; rw [if_pos ⟨by omega, by omega, by omega⟩]; simp
    have hmx0 : Mx a1 (List.replicate a1.length 0) 0 0 := ⟨fun j hj hk => by omega, by omega, .inl ⟨rfl, rfl⟩⟩
    obtain ⟨y, x, f1, f2, f3⟩ := f26_l0 hl e2 e3 0 a1.length _ 0 (by omega) (dn_zero a1) hmx0
    obtain ⟨z, g1, g2⟩ := f27_l0 hl 0 a1.length _ (by omega) (dn_zero a1)
    have hyz : y = z := by
      apply List.ext_getElem?
      intro j
      by_cases hj : j < a1.length
      · rw [get_vi (by rw [f2.len]; exact hj), get_vi (by rw [g2.len]; exact hj), tq_unique (fun j hj => f2.tq j hj (by omega)) (fun j hj => g2.tq j hj (by omega)) (a1.length - j - 1) j (by omega)]
      · rw [List.getElem?_eq_none (by rw [f2.len]; omega), List.getElem?_eq_none (by rw [g2.len]; omega)]
    subst hyz
    obtain ⟨x', g3, g4⟩ := f27_l2 hl f2
    have := mx_unique f3 g4
    subst this
    have hx30 : x ≤ 30 := by
      rcases f3.2.2 with ⟨q, _⟩ | ⟨j, hj, _, q⟩
      · omega
      · have := (f2.tq j hj (by omega)).small; omega
    obtain ⟨b, b1, b2, b3⟩ := f26_l2 hl e2 e3 f2 f3 hx30 a1.length 0 [] (by omega) .nil (by have := f3.2.1; simpa using this) (fun j hj => by omega)
    obtain ⟨b', b1', b2', b3'⟩ := f27_l3 hl f2 f3 hx30 x.toNat [] .nil (by have := f3.2.1; simp; omega)
    have hbb : b = b' := ch_unique b2 b2' (by omega)
    subst hbb
    have hxn : ((x.toNat : Nat) : Int) = x := by have := f3.2.1; omega
    rw [hxn] at b1'
    have b1'' : whileM (F26_L2 a1 past y x) ([], 0) = some (.brk b) := b1
    have h18 := f18_val hl
    have hF27 : F27 a1 = some b := by
      unfold F27
      rw [h18]
      simp only [Option.bind_some, hm, down (show a1.length ≤ 30 by omega), g1, g3, b1', Ctl.on]
    simp only [e1, hm, down (show a1.length ≤ 30 by omega), f1, b1'', hF27, Option.bind_some, Ctl.on, bne_self_eq_false, beq_self_eq_true, cond_true, cond_false]
    simp [ints_self b (by omega)]
  · have c1 : (r != 0) = true := by simpa using c
    have c2 : (r == 0) = false := by simpa using c
    simp [c1, c2, c]
end Go.Proofs.Ytmfidlalejdikaa
