/-
  The plain law of RingLeads.
-/
import Derived.Test.YtdjmlbjkendobaaLM
import Derived.Test.YtdjmlbjkendobaaPw
import Derived.Test.YtdjmlbjkendobaaBk6
namespace Go.Proofs.Ytdjmlbjkendobaa
open Go Go.Bk
set_option linter.unusedVariables false
set_option linter.unusedSimpArgs false

theorem f80_val (l : List Int) (x : Int) (hl : l.length ≤ 9223372036854775807) : F80 l x = some (l.any (fun y => x == y)) := by
  have hw : whileM (F91_L0 l x) 0 = some (found () (scan (fun k (e : Int) => if (x == e) = true then some (k : Int) else none) l 0)) := by
    refine while_scan hl _ (fun k e h => ?_) (by simp [F91_L0])
    have hk := lt_of_get h
    cases c : (x == e) <;> simp only [F91_L0, idx_some h, c, going, Option.bind_some] <;> simp [hk]
  unfold F80 F91
  rw [hw]
  cases y : scan (fun k (e : Int) => if (x == e) = true then some (k : Int) else none) l 0 with
  | none =>
    have : l.any (fun y => x == y) = false := by
      rw [List.any_eq_false]
      intro e he
      obtain ⟨i, hi⟩ := List.getElem?_of_mem he
      have := scan_none.1 y i e hi
      intro hc; rw [if_pos hc] at this; cases this
    rw [this]; simp [found]
  | some r =>
    obtain ⟨i, e, hi, he⟩ := scan_val y
    have hc : (x == e) = true := by
      cases c : (x == e) with
      | true => rfl
      | false => rw [c] at he; simp at he
    rw [if_pos hc] at he
    simp at he
    subst he
    have : l.any (fun y => x == y) = true := List.any_eq_true.2 ⟨e, List.mem_of_getElem? hi, hc⟩
    rw [this]; simp [found]
theorem f58_val (l : List Bool) (x : Bool) (hl : l.length ≤ 9223372036854775807) : F58 l x = some (l.any (fun y => x == y)) := by
  have hw : whileM (F81_L0 l x) 0 = some (found () (scan (fun k (e : Bool) => if (x == e) = true then some (k : Int) else none) l 0)) := by
    refine while_scan hl _ (fun k e h => ?_) (by simp [F81_L0])
    have hk := lt_of_get h
    cases c : (x == e) <;> simp only [F81_L0, idx_some h, c, going, Option.bind_some] <;> simp [hk]
  unfold F58 F81
  rw [hw]
  cases y : scan (fun k (e : Bool) => if (x == e) = true then some (k : Int) else none) l 0 with
  | none =>
    have : l.any (fun y => x == y) = false := by
      rw [List.any_eq_false]
      intro e he
      obtain ⟨i, hi⟩ := List.getElem?_of_mem he
      have := scan_none.1 y i e hi
      intro hc; rw [if_pos hc] at this; cases this
    rw [this]; simp [found]
  | some r =>
    obtain ⟨i, e, hi, he⟩ := scan_val y
    have hc : (x == e) = true := by
      cases c : (x == e) with
      | true => rfl
      | false => rw [c] at he; simp at he
    rw [if_pos hc] at he
    simp at he
    subst he
    have : l.any (fun y => x == y) = true := List.any_eq_true.2 ⟨e, List.mem_of_getElem? hi, hc⟩
    rw [this]; simp [found]
def dbl (l : List Int) : Option Unit := scan (fun k e => if (l.take k).any (fun y => e == y) = true then some () else none) l 0
theorem ringCheck_same (l : List Int) (hl : l.length ≤ 9223372036854775807) : ∃ r, F55 l = some r ∧ F31 l = some r ∧ (r = 0 → 1 ≤ l.length ∧ l.length ≤ 12 ∧ dbl l = none) := by
  have h1 : whileM (F55_L0 l) 0 = some (found () ((dbl l).map (fun _ => 3))) := by
    unfold dbl
    rw [← scan_const]
    refine while_scan hl _ (fun k e h => ?_) (by simp [F55_L0])
    have hk := lt_of_get h
    simp only [F55_L0, idx_some h, slI_take hk, f80_val (l.take k) e (by simp; omega), Option.bind_some]
    cases (l.take k).any (fun y => e == y) <;> simp [hk, going]
  have h2 : whileM (F31_L0 l) 0 = some (found () ((dbl l).map (fun _ => 3))) := by
    unfold dbl
    rw [← scan_const]
    refine while_scan hl _ (fun k e h => ?_) (by simp [F31_L0])
    have hk := lt_of_get h
    have h1 : whileM (F31_L1 l (k : Int)) 0 = some (found () (cond ((l.take k).any (fun y => e == y)) (some 3) none)) := by
      rw [← scan_any (k := 0)]
      have hlen : (l.take k).length = k := by simp; omega
      refine while_scan (by simp; omega) _ (fun j b hj => ?_) (by rw [hlen]; simp [F31_L1])
      have hjk : j < k := by have := lt_of_get hj; omega
      have hjl : l[j]? = some b := by rw [List.getElem?_take, if_pos hjk] at hj; exact hj
      cases c : (e == b) <;> simp only [F31_L1, idx_some h, idx_some hjl, c, going, Option.bind_some] <;> simp [hjk]
    simp only [F31_L0, h1, Option.bind_some]
    cases (l.take k).any (fun y => e == y) <;> simp [hk, going, found]
  unfold F55 F31
  rw [h1, h2]
  cases c : ((decide ((l.length : Int) < 1)) || (decide ((l.length : Int) > 12))) with
  | true => exact ⟨1, rfl, rfl, by simp⟩
  | false =>
    simp only [Bool.or_eq_false_iff, decide_eq_false_iff_not] at c
    cases t : dbl l with
    | some u => exact ⟨3, rfl, rfl, by simp⟩
    | none => exact ⟨0, rfl, rfl, fun _ => ⟨by omega, by omega, rfl⟩⟩
theorem dbl_none {l : List Int} (h : dbl l = none) {i j : Nat} (hi : i < l.length) (hj : j < l.length) (e : l.getD i 0 = l.getD j 0) : i = j := by
  have key : ∀ i j : Nat, i < l.length → j < i → l.getD i 0 ≠ l.getD j 0 := fun i j hi hji e => by
    have := scan_none.1 h i l[i] (List.getElem?_eq_getElem hi)
    simp only [Nat.zero_add] at this
    rw [if_pos] at this
    · cases this
    · rw [List.any_eq_true]
      refine ⟨l[j], ?_, ?_⟩
      · rw [List.mem_iff_getElem?]
        exact ⟨j, by rw [List.getElem?_take, if_pos hji, List.getElem?_eq_getElem]⟩
      · simp only [List.getD_eq_getElem?_getD, List.getElem?_eq_getElem hi, List.getElem?_eq_getElem (show j < l.length by omega), Option.getD_some] at e
        simpa using e
  rcases Nat.lt_trichotomy i j with q | q | q
  · exact (key j i hj q e.symm).elim
  · exact q
  · exact (key i j hi q e).elim

theorem beq_t {a b : Int} (h : a = b) : (a == b) = true := by rw [h]; exact beq_self_eq_true _
theorem beq_f {a b : Int} (h : ¬ a = b) : (a == b) = false := beq_eq_false_iff_ne.2 h
/-! One round of a ring. -/
def nx (n i : Nat) : Nat := if i + 1 < n then i + 1 else 0
def pv (n j : Nat) : Nat := if j = 0 then n - 1 else j - 1
def lift (n : Nat) (W : Nat → Option Int) : Int → Option Int := fun z => if 0 ≤ z ∧ z < (n : Int) then W z.toNat else none
theorem lift_nat {n i : Nat} (W : Nat → Option Int) (h : i < n) : lift n W (i : Int) = W i := by unfold lift; rw [if_pos ⟨by omega, by omega⟩]; simp
def out (ids : List Int) (W : Nat → Option Int) (s : List Bool) (i : Nat) : Option Int := match W i with
  | none => none
  | some x => if x < ids.getD i 0 then (if s.getD i false = true then none else some (ids.getD i 0)) else some x
def turnS (ids : List Int) (W : Nat → Option Int) (s : List Bool) (i : Nat) : Bool := s.getD i false || (match W i with | some x => decide (x < ids.getD i 0) | none => false)
def snt (ids : List Int) (W : Nat → Option Int) (s : List Bool) : List Bool := (List.range ids.length).map (turnS ids W s)
def shf (n : Nat) (o : Nat → Option Int) : Nat → Option Int := fun j => o (pv n j)
def cnt (o : Nat → Option Int) (k : Nat) : Nat := ((List.range k).filter fun i => (o i).isSome).length
theorem cnt_succ (o : Nat → Option Int) (k : Nat) : cnt o (k + 1) = cnt o k + (if (o k).isSome then 1 else 0) := by
  unfold cnt; rw [List.range_succ, List.filter_append, List.length_append]
  cases h : (o k).isSome <;> simp [h]
theorem cnt_le (o : Nat → Option Int) (k : Nat) : cnt o k ≤ k := by
  unfold cnt; have := List.length_filter_le (fun i => (o i).isSome) (List.range k); simpa using this
theorem nx_lt {n i : Nat} (h : i < n) : nx n i < n := by unfold nx; split <;> omega
theorem pv_nx {n i : Nat} (h : i < n) : pv n (nx n i) = i := by unfold nx pv; (repeat' split) <;> omega
theorem nx_pv {n j : Nat} (h : j < n) : nx n (pv n j) = j := by unfold nx pv; (repeat' split) <;> omega
theorem pv_lt {n j : Nat} (h : j < n) : pv n j < n := by unfold pv; split <;> omega
theorem nx_inj {n i j : Nat} (hi : i < n) (hj : j < n) (e : nx n i = nx n j) : i = j := by rw [← pv_nx hi, e, pv_nx hj]
theorem modn {n i : Nat} (h : i < n) (hn : n ≤ 12) : (w64 ((i : Int) + 1)).tmod (n : Int) = ((nx n i : Nat) : Int) := by
  rw [w64_of (by omega) (by omega), show ((i : Int) + 1) = ((i + 1 : Nat) : Int) by push_cast; rfl, Int.tmod_eq_emod_of_nonneg (by omega), ← Int.natCast_emod]
  unfold nx
  split
  · rw [Nat.mod_eq_of_lt (by omega)]
  · rw [show i + 1 = n by omega, Nat.mod_self]
theorem nzn {n : Nat} (h : 1 ≤ n) : nz (n : Int) = some () := by unfold nz; rw [if_neg (by omega)]
theorem getI {α : Type} (l : List α) (d : α) {i : Nat} (h : i < l.length) : idx l (i : Int) = some (l.getD i d) := by rw [idx_nat, List.getElem?_eq_getElem h]; simp [List.getD_eq_getElem?_getD, h]
theorem getD_set {α : Type} (l : List α) (d x : α) (i j : Nat) (h : i < l.length) : (l.set i x).getD j d = if i = j then x else l.getD j d := by
  simp only [List.getD_eq_getElem?_getD, List.getElem?_set]
  by_cases e : i = j
  · subst e; simp [h]
  · simp [e]
theorem getD_ext {α : Type} (d : α) {l m : List α} (hl : l.length = m.length) (h : ∀ i, i < l.length → l.getD i d = m.getD i d) : l = m := by
  apply List.ext_getElem hl
  intro i h1 h2
  have := h i h1
  simpa [List.getD_eq_getElem?_getD, h1, h2] using this

section
variable {ids : List Int} (h1 : 1 ≤ ids.length) (h12 : ids.length ≤ 12)
include h1 h12 in
theorem step2 {many v : Int} {i : Nat} {y : Int → Option Int} {s : List Bool} (hi : i < ids.length) (hs : s.length = ids.length) : F34_L2 ids many (i : Int) v (y, s) =
    if v = ids.getD i 0 then some (.ret ((i : Int), many, 0)) else
    if v < ids.getD i 0 then (if s.getD i false = true then some (.nxt (y, s)) else some (.nxt (mupd y ((nx ids.length i : Nat) : Int) (ids.getD i 0), s.set i true)))
    else some (.nxt (mupd y ((nx ids.length i : Nat) : Int) v, s)) := by
  have e1 := getI ids 0 hi
  have e2 := getI s false (show i < s.length by omega)
  have e3 := modn hi h12
  simp only [F34_L2, e1, e2, e3, nzn h1, Option.bind_some, Int.toNat_natCast]
  by_cases c1 : v = ids.getD i 0
  · rw [if_pos c1, beq_t c1]; rfl
  · rw [if_neg c1, beq_f c1]
    by_cases c2 : v < ids.getD i 0
    · rw [if_pos c2, decide_eq_true c2]
      cases s.getD i false <;> simp
    · rw [if_neg c2, decide_eq_false c2]; rfl
include h1 h12 in
theorem fold2 {many : Int} : ∀ (p : List (Int × Int)) (y : Int → Option Int) (s : List Bool), (p.map (·.1)).Nodup → s.length = ids.length →
    (∀ k v, (k, v) ∈ p → ∃ i : Nat, k = (i : Int) ∧ i < ids.length ∧ v ≠ ids.getD i 0) →
    ∃ y' s', foldR (F34_L2 ids many) p (y, s) = some (.nxt (y', s')) ∧ s'.length = ids.length ∧
      (∀ i, i < ids.length → (i : Int) ∉ p.map (·.1) → s'.getD i false = s.getD i false ∧ y' ((nx ids.length i : Nat) : Int) = y ((nx ids.length i : Nat) : Int)) ∧
      (∀ (i : Nat) v, i < ids.length → ((i : Int), v) ∈ p → s'.getD i false = (s.getD i false || decide (v < ids.getD i 0)) ∧
        y' ((nx ids.length i : Nat) : Int) = if v < ids.getD i 0 then (if s.getD i false = true then y ((nx ids.length i : Nat) : Int) else some (ids.getD i 0)) else some v) ∧
      (∀ z, (∀ i, i < ids.length → z ≠ ((nx ids.length i : Nat) : Int)) → y' z = y z)
  | [], y, s, _, hs, _ => ⟨y, s, rfl, hs, fun i _ _ => ⟨rfl, rfl⟩, fun i v _ h => (by cases h), fun z _ => rfl⟩
  | (k, v) :: p, y, s, hn, hs, hp => by
    obtain ⟨i, rfl, hi, hv⟩ := hp k v (by simp)
    rw [List.map_cons, List.nodup_cons] at hn
    have hst := step2 h1 h12 (many := many) (v := v) (y := y) hi hs
    rw [if_neg hv] at hst
    have hnext : ∃ y1 s1, F34_L2 ids many (i : Int) v (y, s) = some (.nxt (y1, s1)) ∧ s1.length = ids.length ∧ (∀ j, j ≠ i → s1.getD j false = s.getD j false) ∧ s1.getD i false = (s.getD i false || decide (v < ids.getD i 0)) ∧
        (∀ z, z ≠ ((nx ids.length i : Nat) : Int) → y1 z = y z) ∧ y1 ((nx ids.length i : Nat) : Int) = if v < ids.getD i 0 then (if s.getD i false = true then y ((nx ids.length i : Nat) : Int) else some (ids.getD i 0)) else some v := by
      by_cases c2 : v < ids.getD i 0
      · rw [if_pos c2] at hst
        by_cases c3 : s.getD i false = true
        · rw [if_pos c3] at hst
          exact ⟨y, s, hst, hs, fun _ _ => rfl, by rw [c3]; rfl, fun _ _ => rfl, by rw [if_pos c2, if_pos c3]⟩
        · rw [if_neg c3] at hst
          refine ⟨_, _, hst, by simpa using hs, fun j hj => by rw [getD_set _ _ _ _ _ (by omega), if_neg (Ne.symm hj)], by rw [getD_set _ _ _ _ _ (by omega), if_pos rfl, decide_eq_true c2, Bool.or_true], fun z hz => by simp [mupd, hz], by rw [if_pos c2, if_neg c3]; simp [mupd]⟩
      · rw [if_neg c2] at hst
        exact ⟨_, _, hst, hs, fun _ _ => rfl, by rw [decide_eq_false c2, Bool.or_false], fun z hz => by simp [mupd, hz], by rw [if_neg c2]; simp [mupd]⟩
    obtain ⟨y1, s1, e1, l1, a1, a2, a3, a4⟩ := hnext
    obtain ⟨y', s', e2, l2, b1, b2, b3⟩ := fold2 p y1 s1 hn.2 l1 (fun k w hk => hp k w (List.mem_cons_of_mem _ hk))
    refine ⟨y', s', by rw [foldR_cons]; simp only [e1]; exact e2, l2, ?_, ?_, ?_⟩
    · intro j hj hjn
      rw [List.map_cons, List.mem_cons, not_or] at hjn
      have hji : j ≠ i := fun e => hjn.1 (by rw [e])
      obtain ⟨c1, c2⟩ := b1 j hj hjn.2
      refine ⟨c1.trans (a1 j hji), c2.trans (a3 _ fun e => hji (nx_inj hj hi (by omega)))⟩
    · intro j w hj hjw
      rw [List.mem_cons] at hjw
      rcases hjw with hjw | hjw
      · obtain ⟨q1, rfl⟩ := Prod.mk.inj hjw
        obtain rfl : j = i := by omega
        obtain ⟨c1, c2⟩ := b1 j hj hn.1
        exact ⟨c1.trans a2, c2.trans a4⟩
      · have hji : j ≠ i := fun e => hn.1 (by rw [← e]; exact List.mem_map.2 ⟨_, hjw, rfl⟩)
        obtain ⟨c1, c2⟩ := b2 j w hj hjw
        rw [a1 j hji] at c1 c2
        rw [a3 _ fun e => hji (nx_inj hj hi (by omega))] at c2
        exact ⟨c1, c2⟩
    · intro z hz
      rw [b3 z hz, a3 z (hz i hi)]

theorem enum_lift (n : Nat) (W : Nat → Option Int) : Enum (lift n W) ((List.range n).filterMap fun i => (W i).map fun v => ((i : Int), v)) := by
  have key : ∀ m, Enum (lift m W) ((List.range m).filterMap fun i => (W i).map fun v => ((i : Int), v)) := by
    intro m
    induction m with
    | zero => exact ⟨List.nodup_nil, fun k v => by simp [lift]; omega⟩
    | succ m ih =>
      rw [List.range_succ, List.filterMap_append]
      have hmem : ∀ k v, (k, v) ∈ (List.range m).filterMap (fun i => (W i).map fun v => ((i : Int), v)) → k < (m : Int) ∧ 0 ≤ k := fun k v h => by
        have := (ih.2 k v).1 h
        unfold lift at this; split at this
        · omega
        · cases this
      refine ⟨?_, fun k v => ?_⟩
      · rw [List.map_append, List.nodup_append]
        refine ⟨ih.1, ?_, ?_⟩
        · cases hw : W m <;> simp [hw]
        · intro a ha b hb e
          subst e
          rw [List.mem_map] at ha
          obtain ⟨x, hx, rfl⟩ := ha
          have := hmem x.1 x.2 hx
          cases hw : W m with
          | none => rw [List.filterMap_cons, hw] at hb; simp at hb
          | some u => rw [List.filterMap_cons, hw] at hb; simp at hb; omega
      · rw [List.mem_append, ih.2]
        unfold lift
        by_cases c : k = (m : Int)
        · subst c
          rw [if_neg (by omega), if_pos ⟨by omega, by push_cast; omega⟩, Int.toNat_natCast]
          cases hw : W m with
          | none => rw [List.filterMap_cons, hw]; simp
          | some u => rw [List.filterMap_cons, hw]; simp [eq_comm]
        · have : (k, v) ∉ [m].filterMap (fun i => (W i).map fun v => ((i : Int), v)) := by
            cases hw : W m with
            | none => rw [List.filterMap_cons, hw]; simp
            | some u => rw [List.filterMap_cons, hw]; simp; intro e; exact (c e).elim
          by_cases c2 : 0 ≤ k ∧ k < (m : Int)
          · rw [if_pos c2, if_pos ⟨c2.1, by push_cast; omega⟩]; simp [this]
          · rw [if_neg c2, if_neg (by push_cast; omega)]; simp [this]
  exact key n
theorem enum_shf (n : Nat) (hn : 1 ≤ n) (o : Nat → Option Int) : Enum (lift n (shf n o)) ((List.range n).filterMap fun i => (o i).map fun v => (((nx n i : Nat) : Int), v)) := by
  refine ⟨?_, fun k v => ?_⟩
  · have key : ∀ m, m ≤ n → (((List.range m).filterMap fun i => (o i).map fun v => (((nx n i : Nat) : Int), v)).map (·.1)).Nodup ∧ ∀ x ∈ (List.range m).filterMap (fun i => (o i).map fun v => (((nx n i : Nat) : Int), v)), ∃ i, i < m ∧ x.1 = ((nx n i : Nat) : Int) := by
      intro m
      induction m with
      | zero => intro _; exact ⟨List.nodup_nil, fun x h => by simp at h⟩
      | succ m ih =>
        intro hm
        obtain ⟨i1, i2⟩ := ih (by omega)
        rw [List.range_succ, List.filterMap_append]
        refine ⟨?_, ?_⟩
        · rw [List.map_append, List.nodup_append]
          refine ⟨i1, by cases hw : o m <;> simp [hw], ?_⟩
          intro a ha b hb e
          subst e
          rw [List.mem_map] at ha
          obtain ⟨x, hx, rfl⟩ := ha
          obtain ⟨i, hi, e⟩ := i2 x hx
          cases hw : o m with
          | none => rw [List.filterMap_cons, hw] at hb; simp at hb
          | some u =>
            rw [List.filterMap_cons, hw] at hb; simp at hb
            have := nx_inj (n := n) (i := i) (j := m) (by omega) (by omega) (by omega)
            omega
        · intro x hx
          rw [List.mem_append] at hx
          rcases hx with hx | hx
          · obtain ⟨i, hi, e⟩ := i2 x hx; exact ⟨i, by omega, e⟩
          · cases hw : o m with
            | none => rw [List.filterMap_cons, hw] at hx; simp at hx
            | some u => rw [List.filterMap_cons, hw] at hx; simp at hx; subst hx; exact ⟨m, by omega, rfl⟩
    exact (key n (Nat.le_refl n)).1
  · rw [List.mem_filterMap]
    constructor
    · rintro ⟨i, hi, e⟩
      rw [List.mem_range] at hi
      rw [Option.map_eq_some_iff] at e
      obtain ⟨u, hu, e⟩ := e
      obtain ⟨rfl, rfl⟩ := Prod.mk.inj e
      rw [lift_nat _ (nx_lt hi)]
      unfold shf
      rw [pv_nx hi, hu]
    · intro e
      unfold lift at e
      split at e
      · rename_i hk
        obtain ⟨j, rfl⟩ : ∃ j : Nat, k = (j : Int) := ⟨k.toNat, by omega⟩
        rw [Int.toNat_natCast] at e
        have hj : j < n := by omega
        refine ⟨pv n j, by simpa using pv_lt hj, ?_⟩
        unfold shf at e
        rw [e, nx_pv hj]; rfl
      · cases e
theorem mlen_shf (n : Nat) (hn : 1 ≤ n) (o : Nat → Option Int) : mlen (lift n (shf n o)) = cnt o n := by
  rw [mlen_of (enum_shf n hn o)]
  unfold cnt
  have : ∀ l : List Nat, (l.filterMap fun i => (o i).map fun v => (((nx n i : Nat) : Int), v)).length = (l.filter fun i => (o i).isSome).length := by
    intro l
    induction l with
    | nil => rfl
    | cons x l ih => rw [List.filterMap_cons, List.filter_cons]; cases o x <;> simp [ih]
  exact this _
include h1 h12 in
/-- A round of the program in which nobody hears of itself. -/
theorem round_none {many : Int} {W : Nat → Option Int} {s : List Bool} (hs : s.length = ids.length) (hno : ∀ i, i < ids.length → W i ≠ some (ids.getD i 0)) :
    rangeM (lift ids.length W) (F34_L2 ids many) ((mzero : Int → Option Int), s) = some (.nxt (lift ids.length (shf ids.length (out ids W s)), snt ids W s)) := by
  refine rangeM_of (enum_lift ids.length W) fun p hp => ?_
  have hin : ∀ k v, (k, v) ∈ p → ∃ i : Nat, k = (i : Int) ∧ i < ids.length ∧ W i = some v := fun k v h => by
    have := (hp.2 k v).1 h
    unfold lift at this
    split at this
    · exact ⟨k.toNat, by omega, by omega, this⟩
    · cases this
  obtain ⟨y', s', e, l, c1, c2, c3⟩ := fold2 h1 h12 (many := many) p mzero s hp.1 hs (fun k v h => by
    obtain ⟨i, rfl, hi, hw⟩ := hin k v h
    exact ⟨i, rfl, hi, fun q => hno i hi (by rw [hw, q])⟩)
  have hmem : ∀ i v, i < ids.length → W i = some v → ((i : Int), v) ∈ p := fun i v hi hw => (hp.2 _ _).2 (by rw [lift_nat _ hi, hw])
  have hnot : ∀ i, i < ids.length → W i = none → (i : Int) ∉ p.map (·.1) := fun i hi hw hm => by
    rw [List.mem_map] at hm
    obtain ⟨x, hx, e⟩ := hm
    obtain ⟨j, q1, q2, q3⟩ := hin x.1 x.2 hx
    obtain rfl : j = i := by omega
    rw [hw] at q3; cases q3
  have hy : y' = lift ids.length (shf ids.length (out ids W s)) := by
    funext z
    unfold lift
    by_cases hz : 0 ≤ z ∧ z < (ids.length : Int)
    · rw [if_pos hz]
      obtain ⟨j, rfl⟩ : ∃ j : Nat, z = (j : Int) := ⟨z.toNat, by omega⟩
      have hj : j < ids.length := by omega
      have hp' := pv_lt hj
      have hnj := nx_pv hj
      rw [Int.toNat_natCast]
      unfold shf out
      cases hw : W (pv ids.length j) with
      | none => have := (c1 _ hp' (hnot _ hp' hw)).2; rw [hnj] at this; rw [this]; rfl
      | some v =>
        have := (c2 _ v hp' (hmem _ v hp' hw)).2
        rw [hnj] at this
        rw [this]
        simp only [mzero]
    · rw [if_neg hz, c3 z (fun i hi e => hz (by have := nx_lt hi; omega))]; rfl
  have hs' : s' = snt ids W s := by
    refine getD_ext false (by rw [l]; simp [snt]) fun i hi => ?_
    rw [l] at hi
    have : (snt ids W s).getD i false = turnS ids W s i := by simp [snt, List.getD_eq_getElem?_getD, hi]
    rw [this]
    unfold turnS
    cases hw : W i with
    | none => rw [(c1 i hi (hnot i hi hw)).1]; simp
    | some v => rw [(c2 i v hi (hmem i v hi hw)).1]
  rw [e, hy, hs']
include h1 h12 in
theorem fold_hit {many : Int} {M : Nat} (hM : M < ids.length) : ∀ (p : List (Int × Int)) (y : Int → Option Int) (s : List Bool), s.length = ids.length →
    (∀ k v, (k, v) ∈ p → ∃ i : Nat, k = (i : Int) ∧ i < ids.length ∧ (v = ids.getD i 0 → i = M)) → ((M : Int), ids.getD M 0) ∈ p →
    foldR (F34_L2 ids many) p (y, s) = some (.ret ((M : Int), many, 0))
  | [], _, _, _, _, h => by cases h
  | (k, v) :: p, y, s, hs, hp, hm => by
    obtain ⟨i, rfl, hi, hv⟩ := hp k v (by simp)
    have hst := step2 h1 h12 (many := many) (v := v) (y := y) hi hs
    rw [foldR_cons]
    by_cases c : v = ids.getD i 0
    · obtain rfl := hv c
      rw [if_pos c] at hst
      simp only [hst]
    · rw [if_neg c] at hst
      have hm' : ((M : Int), ids.getD M 0) ∈ p := by
        rw [List.mem_cons] at hm
        rcases hm with hm | hm
        · obtain ⟨q1, q2⟩ := Prod.mk.inj hm
          obtain rfl : M = i := by omega
          exact (c q2.symm).elim
        · exact hm
      have again := fun y1 s1 hs1 => fold_hit (many := many) hM p y1 s1 hs1 (fun k w hk => hp k w (List.mem_cons_of_mem _ hk)) hm'
      by_cases c2 : v < ids.getD i 0
      · rw [if_pos c2] at hst
        by_cases c3 : s.getD i false = true
        · rw [if_pos c3] at hst; simp only [hst]; exact again y s hs
        · rw [if_neg c3] at hst; simp only [hst]; exact again _ _ (by simpa using hs)
      · rw [if_neg c2] at hst; simp only [hst]; exact again _ s hs
include h1 h12 in
theorem round_hit {many : Int} {W : Nat → Option Int} {s : List Bool} {M : Nat} (hM : M < ids.length) (hs : s.length = ids.length) (hit : W M = some (ids.getD M 0)) (one : ∀ i, i < ids.length → W i = some (ids.getD i 0) → i = M) :
    rangeM (lift ids.length W) (F34_L2 ids many) ((mzero : Int → Option Int), s) = some (.ret ((M : Int), many, 0)) := by
  refine rangeM_of (enum_lift ids.length W) fun p hp => fold_hit h1 h12 hM p mzero s hs (fun k v h => ?_) ((hp.2 _ _).2 (by rw [lift_nat _ hM, hit]))
  have := (hp.2 k v).1 h
  unfold lift at this
  split at this
  · exact ⟨k.toNat, by omega, by omega, fun e => one _ (by omega) (by rw [this, e])⟩
  · cases this

/-! One round of the document's answer. -/
/-- What two lists tell of places. -/
def Tells (n : Nat) (come : List Bool) (what : List Int) (W : Nat → Option Int) : Prop := come.length = n ∧ what.length = n ∧ ∀ i, i < n → W i = if come.getD i false = true then some (what.getD i 0) else none
include h1 h12 in
theorem step35 {many fr : Int} {i : Nat} {W : Nat → Option Int} {come nxt s : List Bool} {what now : List Int} (hT : Tells ids.length come what W) (hi : i < ids.length) (l1 : now.length = ids.length) (l2 : nxt.length = ids.length) (hs : s.length = ids.length) :
    F35_L2 ids come what many (now, nxt, s, fr, (i : Int)) =
      if W i = some (ids.getD i 0) then some (.ret ((i : Int), many)) else
      match out ids W s i with
      | none => some (.nxt (now, nxt, s, fr, ((i + 1 : Nat) : Int)))
      | some v => some (.nxt (now.set (nx ids.length i) v, nxt.set (nx ids.length i) true, s.set i (turnS ids W s i), w64 (fr + 1), ((i + 1 : Nat) : Int))) := by
  obtain ⟨t1, t2, t3⟩ := hT
  have hd : decide ((i : Int) < (ids.length : Int)) = true := by rw [decide_eq_true_eq]; omega
  have e1 := getI ids 0 hi
  have e2 := getI s false (show i < s.length by omega)
  have e3 := modn hi h12
  have e4 := getI come false (show i < come.length by omega)
  have e5 := getI what 0 (show i < what.length by omega)
  have hn := nx_lt hi
  have e6 := getI nxt false (show nx ids.length i < nxt.length by omega)
  have e7 := getI now 0 (show nx ids.length i < now.length by omega)
  have e8 := w64_succ hi (show ids.length ≤ 9223372036854775807 by omega)
  have ht := t3 i hi
  rw [e8] at e3
  simp only [F35_L2, hd, cond_true, e1, e2, e3, e4, e5, e6, e7, e8, nzn h1, Option.bind_some, Int.toNat_natCast]
  unfold out turnS
  rw [ht]
  cases c0 : come.getD i false with
  | false => simp
  | true =>
    simp only [Bool.not_true, cond_false, if_true]
    by_cases c1 : what.getD i 0 = ids.getD i 0
    · rw [beq_t c1, if_pos (by rw [c1])]; rfl
    · rw [beq_f c1, if_neg (fun q => c1 (Option.some.inj q))]
      by_cases c2 : what.getD i 0 < ids.getD i 0
      · simp only [decide_eq_true c2, if_pos c2, cond_true, cond_false]
        cases c3 : s.getD i false <;> rfl
      · simp only [decide_eq_false c2, if_neg c2, cond_false, Option.bind_some]
        have : s.set i (s.getD i false || false) = s := by
          refine getD_ext false (by simp) fun j hj => ?_
          rw [getD_set _ _ _ _ _ (by omega)]
          by_cases e : i = j
          · subst e; simp
          · rw [if_neg e]
        rw [this]
theorem turn_none {W : Nat → Option Int} {s : List Bool} {i : Nat} (h : out ids W s i = none) : turnS ids W s i = s.getD i false := by
  unfold out at h; unfold turnS
  cases hw : W i with
  | none => simp
  | some x =>
    rw [hw] at h
    simp only at h
    by_cases c : x < ids.getD i 0
    · rw [if_pos c] at h
      by_cases c2 : s.getD i false = true
      · rw [c2]; rfl
      · rw [if_neg c2] at h; cases h
    · rw [if_neg c] at h; cases h
/-- What the loop knows at a place. -/
structure Mid35 (ids : List Int) (W : Nat → Option Int) (s : List Bool) (k : Nat) (now : List Int) (nxt t : List Bool) (fr : Int) : Prop where
  l1 : now.length = ids.length
  l2 : nxt.length = ids.length
  l3 : t.length = ids.length
  old : ∀ i, i < k → t.getD i false = turnS ids W s i
  new : ∀ i, k ≤ i → i < ids.length → t.getD i false = s.getD i false
  got : ∀ i, i < ids.length → (if nxt.getD (nx ids.length i) false = true then some (now.getD (nx ids.length i) 0) else none) = if i < k then out ids W s i else none
  many : fr = (cnt (out ids W s) k : Int)
theorem out_cong {W : Nat → Option Int} {s t : List Bool} {i : Nat} (h : t.getD i false = s.getD i false) : out ids W t i = out ids W s i ∧ turnS ids W t i = turnS ids W s i := by
  unfold out turnS; rw [h]; exact ⟨rfl, rfl⟩
include h1 h12 in
theorem mid_step {W : Nat → Option Int} {s : List Bool} {k : Nat} {now : List Int} {nxt t : List Bool} {fr : Int} (hk : k < ids.length) (h : Mid35 ids W s k now nxt t fr) :
    (match out ids W t k with
      | none => Mid35 ids W s (k + 1) now nxt t fr
      | some v => Mid35 ids W s (k + 1) (now.set (nx ids.length k) v) (nxt.set (nx ids.length k) true) (t.set k (turnS ids W t k)) (w64 (fr + 1))) := by
  obtain ⟨l1, l2, l3, old, new, got, many⟩ := h
  obtain ⟨o1, o2⟩ := out_cong (ids := ids) (W := W) (new k (Nat.le_refl k) hk)
  have hn := nx_lt hk
  cases ho : out ids W t k with
  | none =>
    refine ⟨l1, l2, l3, fun i hi => ?_, fun i hi h2 => new i (by omega) h2, fun i hi => ?_, ?_⟩
    · by_cases e : i = k
      · subst e; rw [← o2, turn_none ho]
      · exact old i (by omega)
    · rw [got i hi]
      by_cases e : i = k
      · subst e; rw [if_neg (Nat.lt_irrefl i), if_pos (by omega), ← o1, ho]
      · by_cases c : i < k
        · rw [if_pos c, if_pos (by omega)]
        · rw [if_neg c, if_neg (by omega)]
    · rw [cnt_succ, ← o1, ho, many]; simp
  | some v =>
    refine ⟨by simpa using l1, by simpa using l2, by simpa using l3, fun i hi => ?_, fun i hi h2 => ?_, fun i hi => ?_, ?_⟩
    · rw [getD_set _ _ _ _ _ (by omega)]
      by_cases e : k = i
      · rw [if_pos e, ← e, o2]
      · rw [if_neg e]; exact old i (by omega)
    · rw [getD_set _ _ _ _ _ (by omega), if_neg (by omega)]; exact new i (by omega) h2
    · rw [getD_set _ _ _ _ _ (by omega), getD_set _ _ _ _ _ (by omega)]
      by_cases e : i = k
      · subst e; rw [if_pos rfl, if_pos rfl, if_pos rfl, if_pos (by omega), ← o1, ho]
      · have hne : nx ids.length k ≠ nx ids.length i := fun q => e (nx_inj hi hk q.symm)
        rw [if_neg hne, if_neg hne, got i hi]
        by_cases c : i < k
        · rw [if_pos c, if_pos (by omega)]
        · rw [if_neg c, if_neg (by omega)]
    · have hc := cnt_le (out ids W s) k
      rw [cnt_succ, ← o1, ho, many, w64_of (by omega) (by omega)]; push_cast; simp
include h1 h12 in
theorem loop35 {many : Int} {W : Nat → Option Int} {come s : List Bool} {what : List Int} (hT : Tells ids.length come what W) (hno : ∀ i, i < ids.length → W i ≠ some (ids.getD i 0)) :
    ∀ (m k : Nat) (now : List Int) (nxt t : List Bool) (fr : Int), k + m = ids.length → Mid35 ids W s k now nxt t fr →
    ∃ now' nxt', whileM (F35_L2 ids come what many) (now, nxt, t, fr, (k : Int)) = some (.brk (now', nxt', snt ids W s, (cnt (out ids W s) ids.length : Int))) ∧ Tells ids.length nxt' now' (shf ids.length (out ids W s)) := by
  intro m
  induction m with
  | zero =>
    intro k now nxt t fr hk h
    obtain rfl : k = ids.length := by omega
    obtain ⟨l1, l2, l3, old, new, got, many'⟩ := h
    have hd : decide ((ids.length : Int) < (ids.length : Int)) = false := by simp
    have ht : t = snt ids W s := by
      refine getD_ext false (by rw [l3]; simp [snt]) fun i hi => ?_
      rw [l3] at hi
      rw [old i hi]
      simp [snt, List.getD_eq_getElem?_getD, hi]
    refine ⟨now, nxt, ?_, l2, l1, fun j hj => ?_⟩
    · rw [whileM_brk (s' := (now, nxt, t, fr)) (by simp only [F35_L2, hd, cond_false]), ht, many']
    · have := got (pv ids.length j) (pv_lt hj)
      rw [nx_pv hj, if_pos (pv_lt hj)] at this
      rw [this]; rfl
  | succ m ih =>
    intro k now nxt t fr hk h
    have hkl : k < ids.length := by omega
    have hst := step35 h1 h12 (many := many) (fr := fr) hT hkl h.l1 h.l2 h.l3
    rw [if_neg (hno k hkl)] at hst
    have hm := mid_step h1 h12 hkl h
    cases ho : out ids W t k with
    | none =>
      simp only [ho] at hst hm
      rw [whileM_nxt hst]
      exact ih (k + 1) _ _ _ _ (by omega) hm
    | some v =>
      simp only [ho] at hst hm
      rw [whileM_nxt hst]
      exact ih (k + 1) _ _ _ _ (by omega) hm
include h1 h12 in
theorem hit35 {many : Int} {W : Nat → Option Int} {come s : List Bool} {what : List Int} {M : Nat} (hM : M < ids.length) (hT : Tells ids.length come what W) (hit : W M = some (ids.getD M 0)) (one : ∀ i, i < ids.length → W i = some (ids.getD i 0) → i = M) :
    ∀ (m k : Nat) (now : List Int) (nxt t : List Bool) (fr : Int), k + m = M → Mid35 ids W s k now nxt t fr →
    whileM (F35_L2 ids come what many) (now, nxt, t, fr, (k : Int)) = some (.ret ((M : Int), many)) := by
  intro m
  induction m with
  | zero =>
    intro k now nxt t fr hk h
    obtain rfl : k = M := by omega
    have hst := step35 h1 h12 (many := many) (fr := fr) hT hM h.l1 h.l2 h.l3
    rw [if_pos hit] at hst
    exact whileM_ret hst
  | succ m ih =>
    intro k now nxt t fr hk h
    have hkl : k < ids.length := by omega
    have hst := step35 h1 h12 (many := many) (fr := fr) hT hkl h.l1 h.l2 h.l3
    rw [if_neg (fun e => by have := one k hkl e; omega)] at hst
    have hm := mid_step h1 h12 hkl h
    cases ho : out ids W t k with
    | none =>
      simp only [ho] at hst hm
      rw [whileM_nxt hst]
      exact ih (k + 1) _ _ _ _ (by omega) hm
    | some v =>
      simp only [ho] at hst hm
      rw [whileM_nxt hst]
      exact ih (k + 1) _ _ _ _ (by omega) hm
theorem getD_rep {α : Type} (n i : Nat) (x : α) : (List.replicate n x).getD i x = x := by
  simp only [List.getD_eq_getElem?_getD, List.getElem?_replicate]; split <;> rfl
theorem mid_zero {W : Nat → Option Int} {s : List Bool} (hs : s.length = ids.length) : Mid35 ids W s 0 (List.replicate ids.length 0) (List.replicate ids.length false) s 0 :=
  ⟨by simp, by simp, hs, fun i hi => by omega, fun i _ _ => rfl, fun i hi => by rw [getD_rep]; simp, by simp [cnt]⟩
theorem mkl_n {α : Type} {n : Nat} (b : Nat) (hb : b ≤ 8) (hn : n ≤ 12) (z : α) : mkl (n : Int) b z = some (List.replicate n z) := by
  unfold mkl
  have : b * n ≤ 8 * 12 := Nat.mul_le_mul hb hn
  have h2 : (b : Int) * (n : Int) = ((b * n : Nat) : Int) := by push_cast; rfl
  rw [if_pos ⟨by omega, by rw [h2]; omega, by omega⟩]; simp

/-! The one whose number is the greatest; places counted from behind it. -/
def pos (n M k : Nat) : Nat := if M + 1 + k < n then M + 1 + k else M + 1 + k - n
theorem pos_lt {n M k : Nat} (hM : M < n) (hk : k < n) : pos n M k < n := by unfold pos; split <;> omega
theorem pos_last {n M : Nat} (hM : M < n) : pos n M (n - 1) = M := by unfold pos; split <;> omega
theorem pos_nx {n M k : Nat} (hM : M < n) (hk : k + 1 < n) : nx n (pos n M k) = pos n M (k + 1) := by unfold pos nx; (repeat' split) <;> omega
theorem nx_last {n M : Nat} (hM : M < n) : nx n M = pos n M 0 := by unfold pos nx; (repeat' split) <;> omega
theorem pos_inj {n M k j : Nat} (hM : M < n) (hk : k < n) (hj : j < n) (e : pos n M k = pos n M j) : k = j := by unfold pos at e; (repeat' split at e) <;> omega
theorem pos_all {n M i : Nat} (hM : M < n) (hi : i < n) : ∃ k, k < n ∧ pos n M k = i := by
  by_cases c : i ≤ M
  · refine ⟨i + n - (M + 1), by omega, ?_⟩; unfold pos; split <;> omega
  · refine ⟨i - (M + 1), by omega, ?_⟩; unfold pos; split <;> omega
theorem greatest : ∀ m, 0 < m → ∃ M, M < m ∧ ∀ i, i < m → ids.getD i 0 ≤ ids.getD M 0 := by
  intro m
  induction m with
  | zero => intro h; omega
  | succ m ih =>
    intro _
    by_cases c : m = 0
    · subst c; exact ⟨0, by omega, fun i hi => by rw [show i = 0 by omega]; exact Int.le_refl _⟩
    · obtain ⟨M, hM, h⟩ := ih (by omega)
      by_cases c2 : ids.getD m 0 ≤ ids.getD M 0
      · exact ⟨M, by omega, fun i hi => by
          by_cases e : i = m
          · subst e; exact c2
          · exact h i (by omega)⟩
      · exact ⟨m, by omega, fun i hi => by
          by_cases e : i = m
          · subst e; exact Int.le_refl _
          · have := h i (by omega); omega⟩
/-- The last of those that have a property, or none. -/
theorem last_of (p : Nat → Prop) (n : Nat) : ∀ (m k : Nat), k + m = n → (∀ j, k ≤ j → j < n → ¬ p j) ∨ ∃ j, k ≤ j ∧ j < n ∧ p j ∧ ∀ i, j < i → i < n → ¬ p i := by
  intro m
  induction m with
  | zero => intro k hk; exact .inl fun j h1 h2 => by omega
  | succ m ih =>
    intro k hk
    rcases ih (k + 1) (by omega) with h | ⟨j, h1, h2, h3, h4⟩
    · by_cases c : p k
      · exact .inr ⟨k, Nat.le_refl k, by omega, c, fun i h1 h2 => h i (by omega) h2⟩
      · exact .inl fun j h1 h2 => by
          by_cases e : j = k
          · subst e; exact c
          · exact h j (by omega) h2
    · exact .inr ⟨j, by omega, h2, h3, h4⟩

section
variable {M : Nat} (hM : M < ids.length) (hd : ∀ i j, i < ids.length → j < ids.length → ids.getD i 0 = ids.getD j 0 → i = j) (hg : ∀ i, i < ids.length → ids.getD i 0 ≤ ids.getD M 0)
/-- What stays true of the numbers on their way. -/
def Inv (ids : List Int) (M : Nat) (W : Nat → Option Int) : Prop := ∀ k, k < ids.length → ∀ v, W (pos ids.length M k) = some v → v = ids.getD M 0 ∨ ∃ j, j < k ∧ v = ids.getD (pos ids.length M j) 0
/-- It comes to an end within so many rounds. -/
def Prog (ids : List Int) (M : Nat) (W : Nat → Option Int) (s : List Bool) (μ : Nat) : Prop :=
  (∃ k, k < ids.length ∧ (W (pos ids.length M k)).isSome ∧ (∀ j, k ≤ j → j < ids.length → s.getD (pos ids.length M j) false = false) ∧ 2 * ids.length ≤ μ + k) ∨
  (∃ k, k < ids.length ∧ W (pos ids.length M k) = some (ids.getD M 0) ∧ ids.length ≤ μ + k)
include hM hd in
theorem inv_one {W : Nat → Option Int} (h : Inv ids M W) : ∀ i, i < ids.length → W i = some (ids.getD i 0) → i = M := fun i hi e => by
  obtain ⟨k, hk, rfl⟩ := pos_all hM hi
  rcases h k hk _ e with q | ⟨j, hj, q⟩
  · exact hd _ _ hi hM q
  · have := pos_inj hM hk (by omega) (hd _ _ hi (pos_lt hM (by omega)) q)
    omega
include hM hg in
theorem inv_le {W : Nat → Option Int} (h : Inv ids M W) {k : Nat} (hk : k < ids.length) {v : Int} (e : W (pos ids.length M k) = some v) : v ≤ ids.getD M 0 := by
  rcases h k hk _ e with q | ⟨j, hj, q⟩
  · rw [q]; exact Int.le_refl _
  · rw [q]; exact hg _ (pos_lt hM (by omega))
theorem shf_pos (hM : M < ids.length) (o : Nat → Option Int) {k : Nat} (hk : k + 1 < ids.length) : shf ids.length o (pos ids.length M (k + 1)) = o (pos ids.length M k) := by
  unfold shf; rw [← pos_nx hM hk, pv_nx (pos_lt hM (by omega))]
theorem shf_zero (hM : M < ids.length) (o : Nat → Option Int) : shf ids.length o (pos ids.length M 0) = o M := by
  unfold shf; rw [← nx_last hM, pv_nx hM]
include hM hg in
theorem inv_step {W : Nat → Option Int} {s : List Bool} (h : Inv ids M W) : Inv ids M (shf ids.length (out ids W s)) := fun k hk v e => by
  cases k with
  | zero =>
    rw [shf_zero hM] at e
    left
    unfold out at e
    cases hw : W M with
    | none => rw [hw] at e; cases e
    | some x =>
      rw [hw] at e
      simp only at e
      have hx := inv_le hM hg h (show ids.length - 1 < ids.length by omega) (v := x) (by rw [pos_last hM, hw])
      by_cases c : x < ids.getD M 0
      · rw [if_pos c] at e
        by_cases c2 : s.getD M false = true
        · rw [if_pos c2] at e; cases e
        · rw [if_neg c2] at e; exact (Option.some.inj e).symm
      · rw [if_neg c] at e; obtain rfl := Option.some.inj e; omega
  | succ k =>
    rw [shf_pos hM _ hk] at e
    unfold out at e
    cases hw : W (pos ids.length M k) with
    | none => rw [hw] at e; cases e
    | some x =>
      rw [hw] at e
      simp only at e
      by_cases c : x < ids.getD (pos ids.length M k) 0
      · rw [if_pos c] at e
        by_cases c2 : s.getD (pos ids.length M k) false = true
        · rw [if_pos c2] at e; cases e
        · rw [if_neg c2] at e; exact .inr ⟨k, by omega, (Option.some.inj e).symm⟩
      · rw [if_neg c] at e
        obtain rfl := Option.some.inj e
        rcases h k (by omega) _ hw with q | ⟨j, hj, q⟩
        · exact .inl q
        · exact .inr ⟨j, by omega, q⟩
include hM hg in
theorem prog_step {W : Nat → Option Int} {s : List Bool} {μ : Nat} (h : Inv ids M W) (hno : W M ≠ some (ids.getD M 0)) (hp : Prog ids M W s (μ + 1)) : Prog ids M (shf ids.length (out ids W s)) (snt ids W s) μ := by
  have hsn : ∀ i, i < ids.length → (snt ids W s).getD i false = turnS ids W s i := fun i hi => by simp [snt, List.getD_eq_getElem?_getD, hi]
  rcases hp with ⟨k, hk, hw, hs, hμ⟩ | ⟨k, hk, hw, hμ⟩
  · rcases last_of (fun j => ∃ x, W (pos ids.length M j) = some x ∧ x < ids.getD (pos ids.length M j) 0) ids.length (ids.length - k) k (by omega) with hn | ⟨j, j1, j2, ⟨x, hx, hlt⟩, j4⟩
    · obtain ⟨x, hx⟩ := Option.isSome_iff_exists.1 hw
      have hge : ¬ x < ids.getD (pos ids.length M k) 0 := fun q => hn k (Nat.le_refl k) hk ⟨x, hx, q⟩
      have ho : out ids W s (pos ids.length M k) = some x := by unfold out; rw [hx]; simp only; rw [if_neg hge]
      have hkl : k + 1 < ids.length := by
        refine Classical.byContradiction fun q => ?_
        have e : k = ids.length - 1 := by omega
        subst e
        rw [pos_last hM] at hx hge
        have := inv_le hM hg h hk (v := x) (by rw [pos_last hM, hx])
        exact hno (by rw [hx]; congr 1; omega)
      left
      refine ⟨k + 1, hkl, by rw [shf_pos hM _ hkl, ho]; rfl, fun j h1 h2 => ?_, by omega⟩
      rw [hsn _ (pos_lt hM h2)]
      unfold turnS
      rw [hs j (by omega) h2]
      cases hw2 : W (pos ids.length M j) with
      | none => rfl
      | some y => simp only [Bool.false_or, decide_eq_false_iff_not]; exact fun q => hn j (by omega) h2 ⟨y, hw2, q⟩
    · have ho : out ids W s (pos ids.length M j) = some (ids.getD (pos ids.length M j) 0) := by
        unfold out; rw [hx]; simp only; rw [if_pos hlt, hs j j1 j2]; simp
      by_cases c : j + 1 < ids.length
      · left
        refine ⟨j + 1, c, by rw [shf_pos hM _ c, ho]; rfl, fun i h1 h2 => ?_, by omega⟩
        rw [hsn _ (pos_lt hM h2)]
        unfold turnS
        rw [hs i (by omega) h2]
        cases hw2 : W (pos ids.length M i) with
        | none => rfl
        | some y => simp only [Bool.false_or, decide_eq_false_iff_not]; exact fun q => j4 i (by omega) h2 ⟨y, hw2, q⟩
      · right
        have e : j = ids.length - 1 := by omega
        subst e
        rw [pos_last hM] at ho
        exact ⟨0, by omega, by rw [shf_zero hM, ho], by omega⟩
  · have hkl : k + 1 < ids.length := by
      refine Classical.byContradiction fun q => ?_
      have e : k = ids.length - 1 := by omega
      subst e
      rw [pos_last hM] at hw
      exact hno hw
    have hge : ¬ ids.getD M 0 < ids.getD (pos ids.length M k) 0 := by have := hg _ (pos_lt hM hk); omega
    right
    refine ⟨k + 1, hkl, ?_, by omega⟩
    rw [shf_pos hM _ hkl]
    unfold out; rw [hw]; simp only; rw [if_neg hge]
include h1 h12 hM hd hg in
theorem both : ∀ (μ : Nat) (many : Int) (W : Nat → Option Int) (come s : List Bool) (what : List Int), s.length = ids.length → Tells ids.length come what W → Inv ids M W → Prog ids M W s μ →
    ∃ m, whileM (F34_L1 ids) (lift ids.length W, s, many) = some (.ret ((M : Int), m, 0)) ∧ whileM (F35_L1 ids) (come, what, s, many) = some (.ret ((M : Int), m)) := by
  intro μ
  induction μ with
  | zero => intro many W come s what _ _ _ hp; rcases hp with ⟨k, hk, _, _, h⟩ | ⟨k, hk, _, h⟩ <;> omega
  | succ μ ih =>
    intro many W come s what hs hT hI hp
    have one := inv_one hM hd hI
    have m1 : mkl (ids.length : Int) 1 false = some (List.replicate ids.length false) := mkl_n 1 (by omega) h12 false
    have m8 : mkl (ids.length : Int) 8 (0 : Int) = some (List.replicate ids.length 0) := mkl_n 8 (by omega) h12 0
    by_cases c : W M = some (ids.getD M 0)
    · refine ⟨many, whileM_ret ?_, whileM_ret ?_⟩
      · simp only [F34_L1, round_hit h1 h12 hM hs c one, Option.bind_some, Ctl.onN]
      · have := hit35 h1 h12 (many := many) (s := s) hM hT c one M 0 _ _ _ _ (by omega) (mid_zero hs)
        rw [show ((0 : Nat) : Int) = 0 from rfl] at this
        simp only [F35_L1, m1, m8, Option.bind_some, this, Ctl.on]
    · have hno : ∀ i, i < ids.length → W i ≠ some (ids.getD i 0) := fun i hi e => by
        have := one i hi e
        subst this
        exact c e
      obtain ⟨now, nxt, e35, hT'⟩ := loop35 h1 h12 (many := many) (s := s) hT hno ids.length 0 _ _ _ _ (by omega) (mid_zero hs)
      rw [show ((0 : Nat) : Int) = 0 from rfl] at e35
      obtain ⟨m, r1, r2⟩ := ih (w64 (many + (cnt (out ids W s) ids.length : Int))) (shf ids.length (out ids W s)) nxt (snt ids W s) now (by simp [snt]) hT' (inv_step hM hg hI) (prog_step hM hg hI c hp)
      refine ⟨m, ?_, ?_⟩
      · rw [whileM_nxt (s' := (lift ids.length (shf ids.length (out ids W s)), snt ids W s, w64 (many + (cnt (out ids W s) ids.length : Int)))) (by simp only [F34_L1, round_none h1 h12 hs hno, Option.bind_some, Ctl.onN, mlen_shf _ h1]), r1]
      · rw [whileM_nxt (s' := (nxt, now, snt ids W s, w64 (many + (cnt (out ids W s) ids.length : Int)))) (by simp only [F35_L1, m1, m8, Option.bind_some, e35, Ctl.on]), r2]
end

/-! The start. -/
def o0 (ids : List Int) (b : List Bool) (i : Nat) : Option Int := if b.getD i false = true then some (ids.getD i 0) else none
def upto (o : Nat → Option Int) (k : Nat) : Nat → Option Int := fun i => if i < k then o i else none
theorem upto_step (o : Nat → Option Int) {k n : Nat} (hk : k < n) : lift n (shf n (upto o (k + 1))) = match o k with | some v => mupd (lift n (shf n (upto o k))) ((nx n k : Nat) : Int) v | none => lift n (shf n (upto o k)) := by
  have key : ∀ j, j < n → shf n (upto o (k + 1)) j = if j = nx n k then o k else shf n (upto o k) j := fun j hj => by
    unfold shf upto
    by_cases e : j = nx n k
    · rw [if_pos e, e, pv_nx hk, if_pos (by omega)]
    · have : pv n j ≠ k := fun q => e (by rw [← q, nx_pv hj])
      rw [if_neg e]
      by_cases c : pv n j < k
      · rw [if_pos c, if_pos (by omega)]
      · rw [if_neg c, if_neg (by omega)]
  have zero : shf n (upto o k) (nx n k) = none := by unfold shf upto; rw [pv_nx hk, if_neg (by omega)]
  cases ho : o k with
  | none =>
    show lift n (shf n (upto o (k + 1))) = lift n (shf n (upto o k))
    funext z
    unfold lift
    by_cases hz : 0 ≤ z ∧ z < (n : Int)
    · rw [if_pos hz, if_pos hz, key _ (by omega)]
      by_cases e : z.toNat = nx n k
      · rw [if_pos e, ho, e, zero]
      · rw [if_neg e]
    · rw [if_neg hz, if_neg hz]
  | some v =>
    funext z
    simp only [mupd]
    have hn := nx_lt hk
    by_cases e : z = ((nx n k : Nat) : Int)
    · subst e
      rw [if_pos rfl, lift_nat _ hn, key _ hn, if_pos rfl, ho]
    · rw [if_neg e]
      unfold lift
      by_cases hz : 0 ≤ z ∧ z < (n : Int)
      · rw [if_pos hz, if_pos hz, key _ (by omega), if_neg (by omega)]
      · rw [if_neg hz, if_neg hz]
include h1 h12 in
theorem start34 {b : List Bool} (hb : b.length = ids.length) : whileM (F34_L0 ids b) ((mzero : Int → Option Int), 0) = some (.brk (lift ids.length (shf ids.length (o0 ids b)))) := by
  have key : ∀ (m k : Nat), k + m = ids.length → whileM (F34_L0 ids b) (lift ids.length (shf ids.length (upto (o0 ids b) k)), (k : Int)) = some (.brk (lift ids.length (shf ids.length (upto (o0 ids b) ids.length)))) := by
    intro m
    induction m with
    | zero =>
      intro k hk
      obtain rfl : k = ids.length := by omega
      have hd : decide ((ids.length : Int) < (b.length : Int)) = false := by rw [hb]; simp
      exact whileM_brk (by simp only [F34_L0, hd, cond_false])
    | succ m ih =>
      intro k hk
      have hkl : k < ids.length := by omega
      have hd : decide ((k : Int) < (b.length : Int)) = true := by rw [decide_eq_true_eq]; omega
      have e1 := getI b false (show k < b.length by omega)
      have e2 := getI ids 0 hkl
      have e3 := modn hkl h12
      have e8 := w64_succ hkl (show ids.length ≤ 9223372036854775807 by omega)
      rw [e8] at e3
      have hu := upto_step (o0 ids b) hkl
      rw [whileM_nxt (s' := (lift ids.length (shf ids.length (upto (o0 ids b) (k + 1))), ((k + 1 : Nat) : Int)))]
      · exact ih (k + 1) (by omega)
      · simp only [F34_L0, hd, cond_true, e1, e2, e3, e8, nzn h1, Option.bind_some]
        rw [hu]
        unfold o0
        cases b.getD k false <;> rfl
  have h0 : lift ids.length (shf ids.length (upto (o0 ids b) 0)) = (mzero : Int → Option Int) := by
    funext z; unfold lift shf upto mzero; simp
  have hn : shf ids.length (upto (o0 ids b) ids.length) = shf ids.length (o0 ids b) → True := fun _ => trivial
  have he : lift ids.length (shf ids.length (upto (o0 ids b) ids.length)) = lift ids.length (shf ids.length (o0 ids b)) := by
    funext z
    unfold lift
    by_cases hz : 0 ≤ z ∧ z < (ids.length : Int)
    · rw [if_pos hz, if_pos hz]; unfold shf upto; rw [if_pos (pv_lt (by omega))]
    · rw [if_neg hz, if_neg hz]
  have := key ids.length 0 (by omega)
  rw [h0, he] at this
  exact this
include h1 h12 in
theorem start35 {b : List Bool} (hb : b.length = ids.length) : ∃ what come, whileM (F35_L0 ids b) (List.replicate ids.length 0, List.replicate ids.length false, 0, 0) = some (.brk (what, come, (cnt (o0 ids b) ids.length : Int))) ∧ Tells ids.length come what (shf ids.length (o0 ids b)) := by
  have key : ∀ (m k : Nat) (what : List Int) (come : List Bool), k + m = ids.length → what.length = ids.length → come.length = ids.length →
      (∀ i, i < ids.length → (if come.getD (nx ids.length i) false = true then some (what.getD (nx ids.length i) 0) else none) = upto (o0 ids b) k i) →
      ∃ what' come', whileM (F35_L0 ids b) (what, come, (cnt (o0 ids b) k : Int), (k : Int)) = some (.brk (what', come', (cnt (o0 ids b) ids.length : Int))) ∧ Tells ids.length come' what' (shf ids.length (o0 ids b)) := by
    intro m
    induction m with
    | zero =>
      intro k what come hk l1 l2 h
      obtain rfl : k = ids.length := by omega
      have hd : decide ((ids.length : Int) < (ids.length : Int)) = false := by simp
      refine ⟨what, come, whileM_brk (by simp only [F35_L0, hd, cond_false]), l2, l1, fun j hj => ?_⟩
      have := h (pv ids.length j) (pv_lt hj)
      rw [nx_pv hj] at this
      rw [this]
      unfold shf upto
      rw [if_pos (pv_lt hj)]
    | succ m ih =>
      intro k what come hk l1 l2 h
      have hkl : k < ids.length := by omega
      have hd : decide ((k : Int) < (ids.length : Int)) = true := by rw [decide_eq_true_eq]; omega
      have e1 := getI b false (show k < b.length by omega)
      have e2 := getI ids 0 hkl
      have e3 := modn hkl h12
      have e8 := w64_succ hkl (show ids.length ≤ 9223372036854775807 by omega)
      rw [e8] at e3
      have hn := nx_lt hkl
      have e6 := getI come false (show nx ids.length k < come.length by omega)
      have e7 := getI what 0 (show nx ids.length k < what.length by omega)
      have hc := cnt_le (o0 ids b) k
      cases c : b.getD k false with
      | false =>
        have ho : o0 ids b k = none := by unfold o0; rw [c]; rfl
        rw [whileM_nxt (s' := (what, come, (cnt (o0 ids b) (k + 1) : Int), ((k + 1 : Nat) : Int)))]
        · refine ih (k + 1) what come (by omega) l1 l2 fun i hi => ?_
          rw [h i hi]
          unfold upto
          by_cases e : i = k
          · subst e; rw [if_neg (Nat.lt_irrefl i), if_pos (by omega), ho]
          · by_cases c2 : i < k
            · rw [if_pos c2, if_pos (by omega)]
            · rw [if_neg c2, if_neg (by omega)]
        · have : cnt (o0 ids b) (k + 1) = cnt (o0 ids b) k := by rw [cnt_succ, ho]; rfl
          rw [this]
          simp only [F35_L0, hd, cond_true, e1, c, cond_false, e8, Option.bind_some]
      | true =>
        have ho : o0 ids b k = some (ids.getD k 0) := by unfold o0; rw [c]; rfl
        rw [whileM_nxt (s' := (what.set (nx ids.length k) (ids.getD k 0), come.set (nx ids.length k) true, (cnt (o0 ids b) (k + 1) : Int), ((k + 1 : Nat) : Int)))]
        · refine ih (k + 1) _ _ (by omega) (by simpa using l1) (by simpa using l2) fun i hi => ?_
          rw [getD_set _ _ _ _ _ (by omega), getD_set _ _ _ _ _ (by omega)]
          by_cases e : i = k
          · subst e
            rw [if_pos rfl, if_pos rfl, if_pos rfl]
            unfold upto
            rw [if_pos (by omega), ho]
          · have hne : nx ids.length k ≠ nx ids.length i := fun q => e (nx_inj hi hkl q.symm)
            rw [if_neg hne, if_neg hne, h i hi]
            unfold upto
            by_cases c2 : i < k
            · rw [if_pos c2, if_pos (by omega)]
            · rw [if_neg c2, if_neg (by omega)]
        · have : ((cnt (o0 ids b) (k + 1) : Nat) : Int) = w64 ((cnt (o0 ids b) k : Int) + 1) := by rw [cnt_succ, ho, w64_of (by omega) (by omega)]; push_cast; rfl
          rw [this]
          simp only [F35_L0, hd, cond_true, e1, e2, e3, e6, e7, c, e8, nzn h1, Option.bind_some, Int.toNat_natCast]
  have := key ids.length 0 (List.replicate ids.length 0) (List.replicate ids.length false) (by omega) (by simp) (by simp) (fun i hi => by rw [getD_rep]; simp [upto])
  simpa [cnt] using this
end
section
variable {ids : List Int} {M : Nat} (hM : M < ids.length)
include hM in
theorem inv_start {b : List Bool} : Inv ids M (shf ids.length (o0 ids b)) := fun k hk v e => by
  cases k with
  | zero =>
    rw [shf_zero hM] at e
    unfold o0 at e
    by_cases c : b.getD M false = true
    · rw [if_pos c] at e; exact .inl (Option.some.inj e).symm
    · rw [if_neg c] at e; cases e
  | succ k =>
    rw [shf_pos hM _ hk] at e
    unfold o0 at e
    by_cases c : b.getD (pos ids.length M k) false = true
    · rw [if_pos c] at e; exact .inr ⟨k, by omega, (Option.some.inj e).symm⟩
    · rw [if_neg c] at e; cases e
include hM in
theorem prog_start {b : List Bool} (hb : ∃ i, i < ids.length ∧ b.getD i false = true) : Prog ids M (shf ids.length (o0 ids b)) b (2 * ids.length) := by
  obtain ⟨i, hi, hbi⟩ := hb
  obtain ⟨k0, hk0, rfl⟩ := pos_all hM hi
  rcases last_of (fun j => b.getD (pos ids.length M j) false = true) ids.length ids.length 0 (by omega) with hn | ⟨j, j1, j2, j3, j4⟩
  · exact (hn k0 (by omega) hk0 hbi).elim
  · have ho : o0 ids b (pos ids.length M j) = some (ids.getD (pos ids.length M j) 0) := by unfold o0; rw [j3]; rfl
    by_cases c : j + 1 < ids.length
    · left
      refine ⟨j + 1, c, by rw [shf_pos hM _ c, ho]; rfl, fun i h1 h2 => ?_, by omega⟩
      have := j4 i (by omega) h2
      simpa using this
    · right
      have e : j = ids.length - 1 := by omega
      subst e
      rw [pos_last hM] at ho
      exact ⟨0, by omega, by rw [shf_zero hM, ho], by omega⟩
end
theorem any_loop (b : List Bool) (hb : b.length ≤ 9223372036854775807) : whileM (F11_L0 b) (false, 0) = some (.brk (b.any fun y => true == y)) := by
  have := while_fold (xs := b) (body := F11_L0 b) (fun k t => (t, (k : Int))) (fun k e t => t || e) (fun t => t) false
    (fun k e t h => by
      have hk := lt_of_get h
      have hd : decide ((k : Int) < (b.length : Int)) = true := by rw [decide_eq_true_eq]; omega
      simp only [F11_L0, hd, cond_true, idx_some h, Option.bind_some, w64_succ hk hb])
    (fun t => by simp [F11_L0])
  have h2 : whileM (F11_L0 b) (false, 0) = _ := this
  rw [h2]
  have hz : (b.zipIdx.foldl (fun t e => t || e.1) false) = b.foldl (fun t x => t || x) false := foldl_zip (fun x t => t || x) b 0 false
  have hf : ∀ (l : List Bool) (t : Bool), l.foldl (fun t x => t || x) t = (t || l.any fun y => true == y) := by
    intro l
    induction l with
    | nil => intro t; simp
    | cons x l ih => intro t; rw [List.foldl_cons, ih, List.any_cons]; cases x <;> cases t <;> simp
  rw [hz, hf]; simp
theorem law_RingLeads (a0 : List Int) (h0 : a0.length ≤ 9223372036854775807) (_ : ∀ x ∈ a0, i64 x) (a1 : List Bool) (hl1 : a1.length ≤ 9223372036854775807) (_ : ∀ x ∈ a1, True) : F11 a0 a1 = some true := by
  obtain ⟨r, e55, e31, hr⟩ := ringCheck_same a0 h0
  have hany := any_loop a1 hl1
  have e58 := f58_val a1 true hl1
  unfold F11 F34
  simp only [e55, e31, hany, e58, Option.bind_some, Ctl.on]
  by_cases c : r = 0
  · subst c
    obtain ⟨q1, q2, q3⟩ := hr rfl
    by_cases c2 : a1.length = a0.length
    · have e2 : ((a1.length : Int) != (a0.length : Int)) = false := by rw [c2]; simp
      simp only [e2, bne_self_eq_false, cond_false, beq_self_eq_true, Bool.and_false, Bool.true_and, Option.bind_some]
      cases c3 : (a1.any fun y => true == y) with
      | false => rfl
      | true =>
        obtain ⟨M, hM, hg⟩ := greatest (ids := a0) a0.length (by omega)
        have hd : ∀ i j, i < a0.length → j < a0.length → a0.getD i 0 = a0.getD j 0 → i = j := fun i j hi hj e => dbl_none q3 hi hj e
        have hsome : ∃ i, i < a0.length ∧ a1.getD i false = true := by
          rw [List.any_eq_true] at c3
          obtain ⟨x, hx, e⟩ := c3
          obtain ⟨i, hi⟩ := List.getElem?_of_mem hx
          have hil := lt_of_get hi
          refine ⟨i, by omega, ?_⟩
          rw [List.getD_eq_getElem?_getD, hi]
          simpa using e.symm
        have hcl : F59 a1 = some a1 := by unfold F59 appl; rw [if_pos (by simp; omega)]; rfl
        obtain ⟨what, come, s35, hT⟩ := start35 q1 q2 c2
        have s34 := start34 q1 q2 c2
        obtain ⟨m, m1, m2⟩ := both q1 q2 hM hd hg (2 * a0.length) (cnt (o0 a0 a1) a0.length : Int) (shf a0.length (o0 a0 a1)) come a1 what c2 hT (inv_start hM) (prog_start hM hsome)
        have k1 : mkl (a0.length : Int) 1 false = some (List.replicate a0.length false) := mkl_n 1 (by omega) q2 false
        have k8 : mkl (a0.length : Int) 8 (0 : Int) = some (List.replicate a0.length 0) := mkl_n 8 (by omega) q2 0
        have e35 : F35 a0 a1 = some ((M : Int), m) := by
          unfold F35
          have ha : appl 1 ([] : List Bool) a1 = some a1 := hcl
          simp only [ha, k1, k8, s35, Option.bind_some, Ctl.on, m2]
        simp only [Bool.not_true, cond_false, hcl, s34, Option.bind_some, Ctl.on, mlen_shf _ q1, m1, e35, bne_self_eq_false, Bool.and_false, beq_self_eq_true, Bool.and_self]
    · have e2 : ((a1.length : Int) != (a0.length : Int)) = true := by rw [bne_iff_ne]; omega
      simp only [e2, bne_self_eq_false, cond_false, cond_true, beq_self_eq_true, Bool.and_self, Option.bind_some]
      rfl
  · have e1 : (r != 0) = true := by simpa using c
    have e2 : (r == 0) = false := by simpa using c
    simp only [e1, e2, cond_true, Bool.false_and, cond_false, Option.bind_some, beq_self_eq_true, Bool.and_self]
end Go.Proofs.Ytdjmlbjkendobaa
