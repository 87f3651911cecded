/-
  The plain law of TickOrders.
-/
import Derived.Test.YtmfidlalejdikaaPTickTells
import Derived.Test.YtmfidlalejdikaaTM
namespace Go.Proofs.Ytmfidlalejdikaa
open Go Go.Bk Go.Sort Go.Shelf
set_option linter.unusedVariables false
set_option linter.unusedSimpArgs false

/-! What a sorted list is. -/
theorem sortedF_perm (f : Int × Int → Option Int) (zs : List Int) : (sortedF f zs).Perm zs := by
  have h := (List.mergeSort_perm zs.attach fun x y => !(ltOf (cmpOf f zs)) y x).map (·.1)
  rw [List.attach_map_subtype_val] at h
  exact h
theorem sortedF_pair {f : Int × Int → Option Int} {zs : List Int} (h : SWO (ltOf (cmpOf f zs))) : (sortedF f zs).Pairwise fun a b => ∀ (ha : a ∈ zs) (hb : b ∈ zs), ltOf (cmpOf f zs) ⟨b, hb⟩ ⟨a, ha⟩ = false := by
  unfold sortedF
  rw [List.pairwise_map]
  refine (List.pairwise_mergeSort (le := fun x y => !(ltOf (cmpOf f zs)) y x) ?_ ?_ _).imp ?_
  · intro a b c h1 h2
    simp only [Bool.not_eq_true'] at h1 h2 ⊢
    exact h.ntrans c b a h2 h1
  · intro a b
    cases c : ltOf (cmpOf f zs) b a with
    | false => simp
    | true =>
      cases d : ltOf (cmpOf f zs) a b with
      | false => simp
      | true => have := h.trans a b a d c; rw [h.irrefl] at this; cases this
  · intro a b h1 ha hb
    simpa using h1

/-! The order. -/
def pr (l : List Ev) (i : Nat) : Int := (l.getD i (0, 0, 0)).1
theorem get_pr {l : List Ev} {i : Nat} {e : Ev} (h : l[i]? = some e) : pr l i = e.1 := by simp [pr, List.getD_eq_getElem?_getD, h]
def bef (y : List Int) (l : List Ev) (a b : Nat) : Bool := decide (vi y a < vi y b ∨ (vi y a = vi y b ∧ pr l a < pr l b))
def c3 (a b : Int) : Int := if a < b then -1 else if a > b then 1 else 0
theorem f50_val (a b : Int) : F50 a b = some (c3 a b) := by
  have h : ∀ z : Int, F58 z = some false := fun z => by simp [F58]
  unfold F50 c3
  rw [h, h]
  by_cases c : a < b
  · simp [c]
  · by_cases d : b < a
    · simp [c, d]
    · simp [c, d]
theorem f49_val (a b : Int) : F49 [a, b] = some (if a ≠ 0 then a else b) := by
  have s0 : F49_L0 [a, b] 0 = cond (a != 0) (some (.ret a)) (some (.nxt 1)) := rfl
  have s1 : F49_L0 [a, b] 1 = cond (b != 0) (some (.ret b)) (some (.nxt 2)) := rfl
  have s2 : F49_L0 [a, b] 2 = some (.brk ()) := rfl
  unfold F49
  by_cases c : a = 0
  · subst c
    rw [whileM_nxt (show F49_L0 [0, b] 0 = some (.nxt 1) from s0)]
    by_cases d : b = 0
    · subst d
      rw [whileM_nxt (show F49_L0 [0, 0] 1 = some (.nxt 2) from s1), whileM_brk s2]
      rfl
    · have : (b != 0) = true := by simpa using d
      rw [this] at s1
      rw [whileM_ret s1]
      simp [Ctl.on]
  · have : (a != 0) = true := by simpa using c
    rw [this] at s0
    rw [whileM_ret s0]
    simp [Ctl.on, c]
theorem f48_val {y : List Int} {l : List Ev} {a b : Nat} (hy : y.length = l.length) (ha : a < l.length) (hb : b < l.length) : ∃ r, F48 (a : Int) (b : Int) y l = some r ∧ decide (r < 0) = bef y l a b := by
  have e1 := List.getElem?_eq_getElem ha
  have e2 := List.getElem?_eq_getElem hb
  refine ⟨if c3 (vi y a) (vi y b) ≠ 0 then c3 (vi y a) (vi y b) else c3 (pr l a) (pr l b), ?_, ?_⟩
  · unfold F48
    rw [idx_some (get_vi (y := y) (j := a) (by omega)), idx_some (get_vi (y := y) (j := b) (by omega)), idx_some e1, idx_some e2]
    simp only [Option.bind_some, f50_val, f49_val, get_pr e1, get_pr e2]
  · unfold bef c3
    apply decide_eq_decide.2
    split <;> split <;> (try split) <;> (try split) <;> omega
def ups (n : Nat) : List Int := (List.range n).map fun (i : Nat) => (i : Int)
theorem ups_len (n : Nat) : (ups n).length = n := by simp [ups]
theorem ups_get {n i : Nat} (h : i < n) : (ups n)[i]? = some (i : Int) := by simp [ups, h]
theorem mem_ups {n : Nat} {x : Int} : x ∈ ups n ↔ ∃ i : Nat, i < n ∧ x = (i : Int) := by
  simp only [ups, List.mem_map, List.mem_range]
  exact ⟨fun ⟨i, h, e⟩ => ⟨i, h, e.symm⟩, fun ⟨i, h, e⟩ => ⟨i, h, e.symm⟩⟩
theorem ups_nodup (n : Nat) : (ups n).Nodup := by
  unfold ups List.Nodup
  rw [List.pairwise_map]
  refine (List.nodup_range (n := n)).imp ?_
  intro a b h e
  exact h (by omega)
theorem cmp_bef {y : List Int} {l : List Ev} (hy : y.length = l.length) (a b : { x : Int // x ∈ ups l.length }) : ltOf (cmpOf (fun z => F48 z.1 z.2 y l) (ups l.length)) a b = bef y l a.1.toNat b.1.toNat := by
  obtain ⟨x, hx⟩ := a
  obtain ⟨z, hz⟩ := b
  obtain ⟨i, hi, rfl⟩ := mem_ups.1 hx
  obtain ⟨j, hj, rfl⟩ := mem_ups.1 hz
  obtain ⟨r, h1, h2⟩ := f48_val hy hi hj
  unfold ltOf cmpOf
  simp only [h1, Option.getD_some, Int.toNat_natCast]
  exact h2
theorem bef_irr (y : List Int) (l : List Ev) (a : Nat) : bef y l a a = false := by unfold bef; rw [decide_eq_false_iff_not]; omega
theorem bef_swo {y : List Int} {l : List Ev} (hy : y.length = l.length) : SWO (ltOf (cmpOf (fun z => F48 z.1 z.2 y l) (ups l.length))) := by
  refine ⟨fun a => ?_, fun a b c h1 h2 => ?_, fun a b c h1 h2 => ?_⟩
  · rw [cmp_bef hy]; exact bef_irr _ _ _
  · rw [cmp_bef hy] at h1 h2 ⊢
    unfold bef at *
    rw [decide_eq_true_eq] at *
    omega
  · rw [cmp_bef hy] at h1 h2 ⊢
    unfold bef at *
    rw [decide_eq_false_iff_not] at *
    omega
theorem bef_tot {y : List Int} {l : List Ev} (ht : ∀ j, j < l.length → TP l y j) {a b : Nat} (ha : a < l.length) (hb : b < l.length) (h1 : bef y l a b = false) (h2 : bef y l b a = false) : a = b := by
  have key : ∀ a b, a < b → b < l.length → vi y a = vi y b → pr l a = pr l b → False := fun a b hab hb q1 q2 => by
    have e1 := List.getElem?_eq_getElem (show a < l.length by omega)
    have e2 := List.getElem?_eq_getElem hb
    rw [get_pr e1, get_pr e2] at q2
    have hE : E l a b = true := E_iff.2 ⟨_, _, e1, e2, hab, .inl q2⟩
    have := (ht b hb).up a (T_of_E hE)
    omega
  unfold bef at h1 h2
  rw [decide_eq_false_iff_not] at h1 h2
  rcases Nat.lt_trichotomy a b with q | q | q
  · exact (key a b q hb (by omega) (by omega)).elim
  · exact q
  · exact (key b a q ha (by omega) (by omega)).elim
theorem bef_sortable {y : List Int} {l : List Ev} (hl : l.length ≤ 30) (hy : y.length = l.length) (ht : ∀ j, j < l.length → TP l y j) : Sortable (fun z => F48 z.1 z.2 y l) (ups l.length) := by
  refine ⟨by rw [ups_len]; omega, fun x hx z hz => ?_, bef_swo hy, fun a b h1 h2 => ?_⟩
  · obtain ⟨i, hi, rfl⟩ := mem_ups.1 hx
    obtain ⟨j, hj, rfl⟩ := mem_ups.1 hz
    obtain ⟨r, q, _⟩ := f48_val hy hi hj
    exact ⟨r, q⟩
  · rw [cmp_bef hy] at h1 h2
    obtain ⟨x, hx⟩ := a
    obtain ⟨z, hz⟩ := b
    obtain ⟨i, hi, rfl⟩ := mem_ups.1 hx
    obtain ⟨j, hj, rfl⟩ := mem_ups.1 hz
    simp only [Int.toNat_natCast] at h1 h2
    have := bef_tot ht hi hj h1 h2
    subst this
    rfl
/-! Ranks. -/
def rkI (y : List Int) (l : List Ev) (k i : Nat) : Nat := (List.range k).countP fun j => bef y l j i
def rk (y : List Int) (l : List Ev) (i : Nat) : Nat := rkI y l l.length i
theorem rk_at {y : List Int} {l : List Ev} (ht : ∀ j, j < l.length → TP l y j) {s : List Int} (hs : s.Perm (ups l.length))
    (hp : s.Pairwise fun a b => bef y l b.toNat a.toNat = false) {p i : Nat} (hi : s[p]? = some (i : Int)) : i < l.length ∧ rk y l i = p := by
  have hpl := lt_of_get hi
  have hg : s[p] = (i : Int) := (List.getElem?_eq_some_iff.1 hi).2
  have hin : ∀ x ∈ s, ∃ j : Nat, j < l.length ∧ x = (j : Int) := fun x hx => mem_ups.1 (hs.mem_iff.1 hx)
  have hil : i < l.length := by
    obtain ⟨j, hj, e⟩ := hin _ (List.getElem_mem hpl)
    omega
  have hnd : s.Nodup := hs.nodup_iff.2 (ups_nodup _)
  have hsl : s.length = l.length := by rw [hs.length_eq, ups_len]
  refine ⟨hil, ?_⟩
  have e1 : rk y l i = (ups l.length).countP fun x => bef y l x.toNat i := by
    unfold rk rkI ups
    rw [List.countP_map]
    rfl
  rw [e1, ← hs.countP_eq, ← List.take_append_drop p s, List.countP_append]
  have e2 : (s.take p).countP (fun x => bef y l x.toNat i) = (s.take p).length := by
    rw [List.countP_eq_length]
    intro a ha
    obtain ⟨j, hj⟩ := List.getElem?_of_mem ha
    have hjl := lt_of_get hj
    rw [List.length_take] at hjl
    rw [List.getElem?_take, if_pos (by omega)] at hj
    have hja : s[j] = a := (List.getElem?_eq_some_iff.1 hj).2
    obtain ⟨m, hm, rfl⟩ := hin a (List.mem_of_getElem? hj)
    have q := List.pairwise_iff_getElem.1 hp j p (by omega) hpl (by omega)
    rw [hg, hja] at q
    simp only [Int.toNat_natCast] at q ⊢
    cases c : bef y l m i with
    | true => rfl
    | false =>
      have := bef_tot ht hm hil c q
      subst this
      have := List.pairwise_iff_getElem.1 hnd j p (by omega) hpl (by omega)
      rw [hg, hja] at this
      exact (this rfl).elim
  have e3 : (s.drop p).countP (fun x => bef y l x.toNat i) = 0 := by
    rw [List.countP_eq_zero]
    intro a ha hb
    obtain ⟨j, hj⟩ := List.getElem?_of_mem ha
    rw [List.getElem?_drop] at hj
    have hjl := lt_of_get hj
    have hja : s[p + j] = a := (List.getElem?_eq_some_iff.1 hj).2
    by_cases c : j = 0
    · subst c
      have : a = (i : Int) := by rw [← hja]; simpa using hg
      subst this
      rw [Int.toNat_natCast, bef_irr] at hb
      cases hb
    · have q := List.pairwise_iff_getElem.1 hp p (p + j) hpl hjl (by omega)
      rw [hg, hja] at q
      rw [Int.toNat_natCast] at q
      rw [q] at hb
      cases hb
  rw [e2, e3, List.length_take]
  omega
theorem f38_l1 {y : List Int} {l : List Ev} (hl : l.length ≤ 30) (hy : y.length = l.length) {i : Nat} (hi : i < l.length) : whileM (F38_L1 l y (i : Int)) (0, 0) = some (.brk (rk y l i : Int)) := by
  refine while_upto (fun k => ((rkI y l k i : Int), (k : Int))) l.length (fun k hk => ?_) ?_ (fun s h => by cases h)
  · have hd : decide ((k : Int) < (l.length : Int)) = true := by simpa using hk
    have e1 := List.getElem?_eq_getElem hk
    have e2 := List.getElem?_eq_getElem hi
    have hle : rkI y l k i ≤ k := by unfold rkI; exact Nat.le_trans List.countP_le_length (by simp)
    have hs : rkI y l (k + 1) i = rkI y l k i + cond (bef y l k i) 1 0 := by
      unfold rkI
      rw [List.range_succ, List.countP_append, List.countP_singleton]
      cases bef y l k i <;> rfl
    have hw : w64 ((rkI y l k i : Int) + 1) = ((rkI y l k i + 1 : Nat) : Int) := w64_succ (n := 40) (by omega) (by omega)
    have q1 := idx_some (get_vi (y := y) (j := k) (by omega))
    have q2 := idx_some (get_vi (y := y) (j := i) (by omega))
    have hb : bef y l k i = (decide (vi y k < vi y i) || (vi y k == vi y i && decide (l[k].1 < l[i].1))) := by
      unfold bef
      rw [get_pr e1, get_pr e2, Bool.eq_iff_iff]
      simp
    rw [hs, hb]
    simp only [F38_L1, hd, cond_true, q1, q2, idx_some e1, idx_some e2, Option.bind_some, w64_succ hk (show l.length ≤ 9223372036854775807 by omega), hw]
    cases decide (vi y k < vi y i) <;> cases (vi y k == vi y i) <;> cases decide (l[k].1 < l[i].1) <;> simp
  · have hd : decide ((l.length : Int) < (l.length : Int)) = false := by simp
    simp only [F38_L1, hd, cond_false]
    rfl
theorem f38_val {y : List Int} {l : List Ev} (hl : l.length ≤ 30) (hy : y.length = l.length) (h25 : F25 l = some y) (ht : ∀ j, j < l.length → TP l y j) {s : List Int} (hs : s.Perm (ups l.length))
    (hp : s.Pairwise fun a b => bef y l b.toNat a.toNat = false) : F38 l = some s := by
  have hsl : s.length = l.length := by rw [hs.length_eq, ups_len]
  have hat : ∀ i : Nat, i < l.length → ∃ p, s[p]? = some (i : Int) ∧ rk y l i = p := fun i hi => by
    obtain ⟨p, hq⟩ := List.getElem?_of_mem (hs.mem_iff.2 (mem_ups.2 ⟨i, hi, rfl⟩))
    exact ⟨p, hq, (rk_at ht hs hp hq).2⟩
  have hrl : ∀ i, i < l.length → rk y l i < l.length := fun i hi => by
    obtain ⟨p, h1, h2⟩ := hat i hi
    have := lt_of_get h1
    omega
  have hm : mkl (l.length : Int) 8 (0 : Int) = some (List.replicate l.length 0) := by unfold mkl; rw [if_pos ⟨by omega, by omega, by omega⟩]; simp
  have hw := while_foldI (body := F38_L0 l y) (fun k (t : List Int) => (t, (k : Int))) l.length (fun k t => t.set (rk y l k) (k : Int)) id
    (fun k t => t.length = l.length ∧ ∀ i, i < k → t[rk y l i]? = some (i : Int)) (List.replicate l.length 0) ⟨by simp, fun i hi => by omega⟩
    (fun k t hk I => by
      have hd : decide ((k : Int) < (l.length : Int)) = true := by simpa using hk
      have hr := hrl k hk
      have q : ∃ v, t[rk y l k]? = some v := ⟨_, List.getElem?_eq_getElem (by rw [I.1]; exact hr)⟩
      obtain ⟨v, q⟩ := q
      refine ⟨?_, by simpa using I.1, fun i hi => ?_⟩
      · simp only [F38_L0, hd, cond_true, f38_l1 hl hy hk, Option.bind_some, Ctl.on, idx_some q, w64_succ hk (show l.length ≤ 9223372036854775807 by omega), Int.toNat_natCast]
      · by_cases c : i = k
        · subst c; rw [List.getElem?_set_self]; rw [I.1]; exact hr
        · have hne : rk y l k ≠ rk y l i := fun e => by
            obtain ⟨p, h1, h2⟩ := hat i (by omega)
            obtain ⟨p', h3, h4⟩ := hat k hk
            have : p = p' := by omega
            subst this
            rw [h1] at h3
            have := Option.some.inj h3
            omega
          rw [List.getElem?_set_ne hne]
          exact I.2 i (by omega))
    (fun t I => by simp [F38_L0])
  obtain ⟨h1, h2, h3⟩ := hw
  unfold F38
  rw [h25, Option.bind_some, hm, Option.bind_some]
  have h1' : whileM (F38_L0 l y) (List.replicate l.length 0, 0) = _ := h1
  rw [h1']
  generalize (List.range l.length).foldl (fun t k => t.set (rk y l k) (k : Int)) (List.replicate l.length 0) = z at h2 h3
  have : z = s := by
    apply List.ext_getElem?
    intro p
    by_cases hpl : p < l.length
    · have hx : s[p]? = some s[p] := List.getElem?_eq_getElem (by omega)
      obtain ⟨i, hi, e⟩ := mem_ups.1 (hs.mem_iff.1 (List.mem_of_getElem? hx))
      rw [e] at hx
      have := (rk_at ht hs hp hx).2
      rw [hx, ← this]
      exact h3 i hi
    · rw [List.getElem?_eq_none (by omega), List.getElem?_eq_none (by omega)]
  subst this
  rfl
theorem f37_l0 {l : List Ev} (hl : l.length ≤ 30) : whileM (F37_L0 l) ([], 0) = some (.brk (ups l.length)) := by
  refine while_upto (fun k => (ups k, (k : Int))) l.length (fun k hk => ?_) ?_ (fun s h => by cases h)
  · have hd : decide ((k : Int) < (l.length : Int)) = true := by simpa using hk
    have ha : appl 8 (ups k) ([(k : Int)] : List Int) = some (ups (k + 1)) := by
      unfold appl
      rw [if_pos (by simp [ups_len]; omega)]
      simp [ups, List.range_succ]
    simp only [F37_L0, hd, cond_true, ha, Option.bind_some, w64_succ hk (show l.length ≤ 9223372036854775807 by omega)]
  · have hd : decide ((l.length : Int) < (l.length : Int)) = false := by simp
    simp only [F37_L0, hd, cond_false]
theorem law_TickOrders (a0 : Int) (_ : i64 a0) (a1 : List Ev) (h : a1.length ≤ 9223372036854775807) (_ : ∀ x ∈ a1, i64 x.1 ∧ i64 x.2.1 ∧ i64 x.2.2) : F13 a0 a1 = some true := by
  obtain ⟨r, q1, q2⟩ := runCheck_same a0 a1
  unfold F13 F37
  rw [q1, q2]
  by_cases c : r = 0
  · subst c
    have g := good_of q2
    have hl := g.len
    obtain ⟨y, e1, e2, e3⟩ := f42_val g
    obtain ⟨z, f1, f2, f3⟩ := f25_val g.len
    have : y = z := by
      apply List.ext_getElem?
      intro j
      by_cases hj : j < a1.length
      · rw [get_vi (by omega), get_vi (by omega), tp_unique e3 f3 j hj]
      · rw [List.getElem?_eq_none (by omega), List.getElem?_eq_none (by omega)]
    subst this
    have hs : srtF (fun z => F48 z.1 z.2 y a1) (ups a1.length) = some (sortedF (fun z => F48 z.1 z.2 y a1) (ups a1.length)) := by
      unfold srtF
      rw [if_pos (bef_sortable hl e2 e3)]
    have hperm := sortedF_perm (fun z => F48 z.1 z.2 y a1) (ups a1.length)
    have hpair : (sortedF (fun z => F48 z.1 z.2 y a1) (ups a1.length)).Pairwise fun a b => bef y a1 b.toNat a.toNat = false := by
      refine (sortedF_pair (bef_swo e2)).imp_of_mem ?_
      intro a b ha hb hq
      have := hq (hperm.mem_iff.1 ha) (hperm.mem_iff.1 hb)
      rw [cmp_bef e2] at this
      exact this
    have h38 := f38_val hl e2 f1 e3 hperm hpair
    generalize sortedF (fun z => F48 z.1 z.2 y a1) (ups a1.length) = s at hs h38 hperm
    have hsl : s.length = a1.length := by rw [hperm.length_eq, ups_len]
    have w := f37_l0 hl
    simp [e1, w, Ctl.on, hs, h38, ints_self s (by omega)]
  · have c1 : (r != 0) = true := by simpa using c
    have c2 : (r == 0) = false := by simpa using c
    simp [c1, c2, c]
end Go.Proofs.Ytmfidlalejdikaa
