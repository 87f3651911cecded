/-
  The plain law of CutManies.
-/
import Derived.Test.YtmfidlalejdikaaPCutIs
import Derived.Test.YtmfidlalejdikaaCM
import Derived.Test.YtmfidlalejdikaaPg
namespace Go.Proofs.Ytmfidlalejdikaa
open Go Go.Bk
set_option linter.unusedVariables false
set_option linter.unusedSimpArgs false

/-! The document's answer: how many vectors are whole. -/
def whb (l : List Ev) (v : Nat → Bool) : Bool := (List.range l.length).all (fun i => (List.range l.length).all (fun j => !(v j && T l i j && !v i)))
def lf (n : Nat) (l : List Ev) (c : List Int) : Bool := (List.range n).all (okc n l c) && whb l (inb l c)
def vecs (l : List Ev) : Nat → List Int → List (List Int)
  | 0, c => [c]
  | m + 1, c => (List.range (cnp l c.length l.length + 1)).flatMap fun k : Nat => vecs l m (c ++ [(k : Int)])
theorem vecs_len {l : List Ev} (hl : l.length ≤ 30) : ∀ (m : Nat) (c : List Int), (vecs l m c).length ≤ 31 ^ m
  | 0, c => by simp [vecs]
  | m + 1, c => by
    rw [vecs]
    have key : ∀ k, k ≤ 31 → ((List.range k).flatMap fun k : Nat => vecs l m (c ++ [(k : Int)])).length ≤ k * 31 ^ m := by
      intro k
      induction k with
      | zero => intro _; simp
      | succ k ih =>
        intro hk
        rw [List.range_succ, List.flatMap_append, List.length_append]
        have h1 := ih (by omega)
        have h2 := vecs_len hl m (c ++ [(k : Int)])
        simp only [List.flatMap_cons, List.flatMap_nil, List.append_nil]
        rw [Nat.add_mul, Nat.one_mul]; omega
    have hk := cnp_le l c.length l.length
    have := key (cnp l c.length l.length + 1) (by omega)
    have h3 : (cnp l c.length l.length + 1) * 31 ^ m ≤ 31 * 31 ^ m := Nat.mul_le_mul_right _ (by omega)
    rw [Nat.pow_succ]; omega
def cv (n : Nat) (l : List Ev) (m : Nat) (c : List Int) : Nat := (vecs l m c).countP (lf n l)
def cs (n : Nat) (l : List Ev) (m : Nat) (c : List Int) (k : Nat) : Nat := ((List.range k).flatMap fun k : Nat => vecs l m (c ++ [(k : Int)])).countP (lf n l)
theorem cs_succ (n : Nat) (l : List Ev) (m : Nat) (c : List Int) (k : Nat) : cs n l m c (k + 1) = cs n l m c k + cv n l m (c ++ [(k : Int)]) := by
  unfold cs cv; rw [List.range_succ, List.flatMap_append, List.countP_append]; simp
theorem pow_6 {m : Nat} (h : m ≤ 6) : 31 ^ m ≤ 887503681 := by
  have : 31 ^ m ≤ 31 ^ 6 := Nat.pow_le_pow_right (by decide) h
  simpa using this
theorem cs_le {n : Nat} {l : List Ev} (hl : l.length ≤ 30) {m : Nat} (c : List Int) : ∀ k, k ≤ 31 → cs n l m c k ≤ k * 31 ^ m
  | 0, _ => by simp [cs]
  | k + 1, h => by
    have h1 := cs_le (n := n) hl (m := m) c k (by omega)
    have h2 : cv n l m (c ++ [(k : Int)]) ≤ 31 ^ m := Nat.le_trans List.countP_le_length (vecs_len hl m _)
    rw [cs_succ, Nat.add_mul, Nat.one_mul]; omega
theorem many_val {n : Nat} {l : List Ev} (g : Good (n : Int) l) (c : List Int) : whileM (F31_L1 l c) (0, 0) = some (.brk (cnp l c.length l.length : Int)) := by
  have hl := g.len
  have h := while_upto (body := F31_L1 l c) (fun k => ((cnp l c.length k : Int), (k : Int))) l.length (c := .brk (cnp l c.length l.length : Int))
    (fun k hk => by
      have hd : decide ((k : Int) < (l.length : Int)) = true := by rw [decide_eq_true_eq]; omega
      have hget := List.getElem?_eq_getElem hk
      have hp := g.proc hget
      have hc := cnp_le l c.length k
      have he : (l[k].1 == (c.length : Int)) = decide (l[k].1.toNat = c.length) := by rw [Bool.eq_iff_iff, beq_iff_eq, decide_eq_true_eq]; omega
      simp only [F31_L1, hd, cond_true, idx_some hget, Option.bind_some, he, w64_succ hk (show l.length ≤ 9223372036854775807 by omega), cnp_succ hget]
      by_cases q : l[k].1.toNat = c.length
      · rw [decide_eq_true q, if_pos q, w64_of (by omega) (by omega)]; simp
      · rw [decide_eq_false q, if_neg q]; simp)
    (by simp [F31_L1]) (fun s => by simp)
  have h' : whileM (F31_L1 l c) ((cnp l c.length 0 : Int), ((0 : Nat) : Int)) = _ := h
  rw [cnp_zero] at h'; exact h'
theorem whileM_none {σ β ρ : Type} {body : σ → Option (Ctl σ β ρ)} {s : σ} (h : body s = none) : whileM body s = none := by
  cases x : whileM body s with
  | none => rfl
  | some c =>
    obtain ⟨n, hn⟩ := whileM_iter.1 x
    cases n with
    | zero => simp [iterM] at hn
    | succ n => rw [iterM, h] at hn; cases hn
theorem f31_R {n : Nat} {l : List Ev} (g : Good (n : Int) l) : ∀ (f m : Nat) (c : List Int), c.length + m = n →
    (F31_R f (n : Int) l c = none ∧ f ≤ m) ∨ F31_R f (n : Int) l c = some (cv n l m c : Int)
  | 0, m, c, hm => .inl ⟨rfl, by omega⟩
  | f + 1, m, c, hm => by
    have hl := g.len
    have hn6 := g.n6
    have hs : F31_R (f + 1) (n : Int) l c = F31_B (F31_R f) (n : Int) l c := rfl
    rw [hs]
    cases m with
    | zero =>
      right
      have e : ((c.length : Int) == (n : Int)) = true := by rw [beq_iff_eq]; omega
      have h35 := f35_val g (c := c) (by omega)
      have h36 := f36_val hl (inb l c)
      unfold F31_B
      rw [e, cond_true, h35]
      cases ok : (List.range n).all (okc n l c) with
      | false => simp [cv, vecs, lf, ok]
      | true =>
        simp only [cond_true, Option.bind_some, h36]
        have hcv : cv n l 0 c = if whb l (inb l c) = true then 1 else 0 := by simp [cv, vecs, List.countP_cons, lf, ok]
        rw [hcv]
        unfold whb
        cases (List.range l.length).all (fun i => (List.range l.length).all (fun j => !(inb l c j && T l i j && !inb l c i))) <;> simp
    | succ m =>
      have e : ((c.length : Int) == (n : Int)) = false := by rw [beq_eq_false_iff_ne]; omega
      have hK := cnp_le l c.length l.length
      have loop : ∀ (r k : Nat), k + r = cnp l c.length l.length + 1 →
          (whileM (F31_L0 (F31_R f) (n : Int) l c) ((cs n l m c k : Int), (k : Int)) = none ∧ f ≤ m) ∨
          whileM (F31_L0 (F31_R f) (n : Int) l c) ((cs n l m c k : Int), (k : Int)) = some (.ret (cs n l m c (cnp l c.length l.length + 1) : Int)) := by
        intro r
        induction r with
        | zero =>
          intro k hk
          obtain rfl : k = cnp l c.length l.length + 1 := by omega
          have hd : decide (((cnp l c.length l.length + 1 : Nat) : Int) > (cnp l c.length l.length : Int)) = true := by rw [decide_eq_true_eq]; omega
          right
          exact whileM_ret (by simp only [F31_L0, many_val g c, Option.bind_some, Ctl.on, hd, cond_true])
        | succ r ih =>
          intro k hk
          have hd : decide ((k : Int) > (cnp l c.length l.length : Int)) = false := by rw [decide_eq_false_iff_not]; omega
          have a1 : appl 8 ([] : List Int) c = some c := by unfold appl; rw [if_pos]; rfl; simp; omega
          have a2 : appl 8 c ([(k : Int)] : List Int) = some (c ++ [(k : Int)]) := by unfold appl; rw [if_pos]; simp; omega
          have hb := cs_le (n := n) hl (m := m) c (k + 1) (by omega)
          have hp := pow_6 (show m ≤ 6 by omega)
          have hb2 : (k + 1) * 31 ^ m ≤ 31 * 887503681 := Nat.mul_le_mul (by omega) hp
          rcases f31_R g f m (c ++ [(k : Int)]) (by simp; omega) with ⟨h, hf⟩ | h
          · left
            refine ⟨whileM_none ?_, hf⟩
            simp only [F31_L0, many_val g c, Option.bind_some, Ctl.on, hd, cond_false, a1, a2, h, Option.bind_none]
          · have hw : w64 ((cs n l m c k : Int) + (cv n l m (c ++ [(k : Int)]) : Int)) = (cs n l m c (k + 1) : Int) := by
              have := cs_succ n l m c k
              rw [w64_of (by omega) (by omega)]; omega
            have hk1 : w64 ((k : Int) + 1) = ((k + 1 : Nat) : Int) := by rw [w64_of (by omega) (by omega)]; push_cast; rfl
            rw [whileM_nxt (s' := ((cs n l m c (k + 1) : Int), ((k + 1 : Nat) : Int))) (by simp only [F31_L0, many_val g c, Option.bind_some, Ctl.on, hd, cond_false, a1, a2, h, hw, hk1])]
            exact ih (k + 1) (by omega)
      have hcs : cs n l m c (cnp l c.length l.length + 1) = cv n l (m + 1) c := rfl
      have h0 := loop (cnp l c.length l.length + 1) 0 (by omega)
      have hz : ((cs n l m c 0 : Nat) : Int) = 0 := rfl
      rw [hz, hcs] at h0
      rcases h0 with ⟨h, hf⟩ | h
      · left
        refine ⟨?_, by omega⟩
        unfold F31_B
        rw [e, cond_false]
        have h' : whileM (F31_L0 (F31_R f) (n : Int) l c) (0, 0) = none := h
        rw [h']; rfl
      · right
        unfold F31_B
        rw [e, cond_false]
        have h' : whileM (F31_L0 (F31_R f) (n : Int) l c) (0, 0) = _ := h
        rw [h']; rfl
theorem f31_val {n : Nat} {l : List Ev} (g : Good (n : Int) l) : F31 (n : Int) l [] = some (cv n l n [] : Int) := by
  refine fixO_of (f := fun m => F31_R m (n : Int) l []) (n + 1) ?_ ?_
  · rcases f31_R g (n + 1) n [] (by simp) with ⟨_, h⟩ | h
    · omega
    · exact h
  · intro m r hr
    have hr' : F31_R m (n : Int) l [] = some r := hr
    rcases f31_R g m n [] (by simp) with ⟨h, _⟩ | h
    · rw [h] at hr'; cases hr'
    · rw [h] at hr'; exact (Option.some.inj hr').symm

/-! The vectors, as words. -/
theorem mem_vecs {l : List Ev} : ∀ (m : Nat) (c0 c : List Int), c ∈ vecs l m c0 ↔ (c.length = c0.length + m ∧ c.take c0.length = c0 ∧ ∀ p, c0.length ≤ p → p < c.length → 0 ≤ cd c p ∧ cd c p ≤ (cnp l p l.length : Int))
  | 0, c0, c => by
    rw [vecs, List.mem_singleton]
    constructor
    · rintro rfl; exact ⟨by simp, by simp, fun p h1 h2 => by omega⟩
    · rintro ⟨h1, h2, _⟩; rw [← h2, List.take_of_length_le (by omega)]
  | m + 1, c0, c => by
    rw [vecs, List.mem_flatMap]
    constructor
    · rintro ⟨k, hk, hc⟩
      rw [List.mem_range] at hk
      obtain ⟨h1, h2, h3⟩ := (mem_vecs m (c0 ++ [(k : Int)]) c).1 hc
      rw [List.length_append, List.length_singleton] at h1 h2 h3
      have hcd : cd c c0.length = (k : Int) := by
        have : (c.take (c0.length + 1))[c0.length]? = some (k : Int) := by rw [h2]; simp
        rw [List.getElem?_take, if_pos (by omega)] at this
        simp [cd, List.getD_eq_getElem?_getD, this]
      refine ⟨by omega, ?_, fun p p1 p2 => ?_⟩
      · have := congrArg (List.take c0.length) h2
        rw [List.take_take, Nat.min_eq_left (by omega)] at this
        rw [this]; simp
      · by_cases e : p = c0.length
        · subst e; rw [hcd]; omega
        · exact h3 p (by omega) p2
    · rintro ⟨h1, h2, h3⟩
      have hc0 := h3 c0.length (Nat.le_refl _) (by omega)
      refine ⟨(cd c c0.length).toNat, by rw [List.mem_range]; omega, (mem_vecs m _ c).2 ⟨by simp; omega, ?_, fun p p1 p2 => h3 p (by simp at p1; omega) p2⟩⟩
      have hg : c[c0.length]? = some (((cd c c0.length).toNat : Nat) : Int) := by
        rw [get_cd (by omega)]; congr 1; omega
      rw [List.length_append, List.length_singleton, List.take_add_one, h2, hg]; rfl
theorem nodup_vecs {l : List Ev} : ∀ (m : Nat) (c0 : List Int), (vecs l m c0).Nodup
  | 0, c0 => by simp [vecs]
  | m + 1, c0 => by
    rw [vecs]
    unfold List.Nodup
    rw [List.pairwise_flatMap]
    refine ⟨fun k _ => nodup_vecs m _, ?_⟩
    refine List.Pairwise.imp ?_ (List.nodup_range (n := cnp l c0.length l.length + 1))
    intro a b hab x hx y hy e
    subst e
    have h1 := ((mem_vecs m _ _).1 hx).2.1
    have h2 := ((mem_vecs m _ _).1 hy).2.1
    rw [List.length_append, List.length_singleton] at h1 h2
    rw [h1] at h2
    have := List.append_inj_right' h2 rfl
    simp at this
    omega
/-- Closed to what is ahead. -/
def DC (l : List Ev) (w : W32) : Prop := (∀ b, w.getLsbD b = true → b < l.length) ∧ ∀ i j, w.getLsbD j = true → T l i j = true → w.getLsbD i = true
theorem whb_iff {l : List Ev} {v : Nat → Bool} : whb l v = true ↔ ∀ i j, i < l.length → j < l.length → v j = true → T l i j = true → v i = true := by
  unfold whb
  rw [List.all_eq_true]
  constructor
  · intro h i j hi hj h1 h2
    have := List.all_eq_true.1 (h i (by simpa using hi)) j (by simpa using hj)
    rw [h1, h2] at this
    simpa using this
  · intro h i hi
    rw [List.all_eq_true]
    intro j hj
    have := h i j (by simpa using hi) (by simpa using hj)
    cases c1 : v j with
    | false => rfl
    | true =>
      cases c2 : T l i j with
      | false => rfl
      | true => rw [this c1 c2]; rfl
section
variable {n : Nat} {l : List Ev} (g : Good (n : Int) l)
def Vs (n : Nat) (l : List Ev) : List (List Int) := (vecs l n []).filter (lf n l)
def Ws (n : Nat) (l : List Ev) : List W32 := (Vs n l).map fun c => setw l c l.length
theorem mem_Vs {c : List Int} : c ∈ Vs n l ↔ (c.length = n ∧ (∀ p, p < n → 0 ≤ cd c p ∧ cd c p ≤ (cnp l p l.length : Int)) ∧ whb l (inb l c) = true) := by
  unfold Vs
  rw [List.mem_filter, mem_vecs]
  unfold lf
  rw [Bool.and_eq_true]
  constructor
  · rintro ⟨⟨h1, _, h3⟩, _, h4⟩
    simp only [List.length_nil, Nat.zero_add] at h1 h3
    exact ⟨h1, fun p hp => h3 p (Nat.zero_le p) (by omega), h4⟩
  · rintro ⟨h1, h2, h3⟩
    refine ⟨⟨by simp [h1], by simp, fun p _ hp => h2 p (by omega)⟩, ?_, h3⟩
    rw [List.all_eq_true]
    intro p hp
    have := h2 p (by simpa using hp)
    unfold okc
    simp; omega
include g in
theorem prn {k : Nat} (hk : k < l.length) : pr l k < n ∧ l[k].1.toNat = pr l k := by
  have hget := List.getElem?_eq_getElem hk
  have hp := g.proc hget
  unfold pr
  rw [hget]
  refine ⟨?_, rfl⟩
  show l[k].1.toNat < n
  omega
/-- How many of one's events a set has, ahead of place k. -/
def has (l : List Ev) (v : Nat → Bool) (p k : Nat) : Nat := (List.range k).countP fun m => decide (pr l m = p) && v m
theorem has_succ (l : List Ev) (v : Nat → Bool) (p k : Nat) : has l v p (k + 1) = has l v p k + (if pr l k = p ∧ v k = true then 1 else 0) := by
  unfold has
  rw [List.range_succ, List.countP_append]
  by_cases c1 : pr l k = p <;> cases c2 : v k <;> simp [c1, c2]
include g in
theorem cnp_pr {p k : Nat} (hk : k < l.length) : cnp l p (k + 1) = cnp l p k + (if pr l k = p then 1 else 0) := by
  rw [cnp_succ (List.getElem?_eq_getElem hk), (prn g hk).2]
include g in
theorem has_inb {c : List Int} {p : Nat} (hc : 0 ≤ cd c p) : ∀ k, k ≤ l.length → (has l (inb l c) p k : Int) = if (cnp l p k : Int) ≤ cd c p then (cnp l p k : Int) else cd c p
  | 0, _ => by rw [cnp_zero]; simp [has, hc]
  | k + 1, hk => by
    have ih := has_inb hc k (by omega)
    rw [has_succ, cnp_pr g (by omega)]
    by_cases e : pr l k = p
    · have hin : inb l c k = decide ((cnp l p k : Int) < cd c p) := by unfold inb; rw [e, decide_eq_true (show k < l.length by omega), Bool.true_and]
      rw [hin, if_pos e]
      by_cases q : (cnp l p k : Int) < cd c p
      · rw [decide_eq_true q, if_pos ⟨e, rfl⟩]
        rw [if_pos (by omega)] at ih
        rw [if_pos (by push_cast; omega)]; push_cast; omega
      · rw [decide_eq_false q, if_neg (by simp)]
        by_cases q2 : (cnp l p k : Int) ≤ cd c p
        · rw [if_pos q2] at ih; rw [if_neg (by push_cast; omega)]; push_cast; omega
        · rw [if_neg q2] at ih; rw [if_neg (by push_cast; omega)]; push_cast; omega
    · rw [if_neg e, if_neg (fun h => e h.1)]; simpa using ih
theorem cd_ext {c d : List Int} (h : c.length = d.length) (he : ∀ p, p < c.length → cd c p = cd d p) : c = d := by
  apply List.ext_getElem? 
  intro p
  by_cases hp : p < c.length
  · rw [get_cd hp, get_cd (by omega), he p hp]
  · rw [List.getElem?_eq_none (by omega), List.getElem?_eq_none (by omega)]
include g in
theorem setw_inj {c d : List Int} (hc : c ∈ Vs n l) (hd : d ∈ Vs n l) (e : setw l c l.length = setw l d l.length) : c = d := by
  obtain ⟨c1, c2, _⟩ := mem_Vs.1 hc
  obtain ⟨d1, d2, _⟩ := mem_Vs.1 hd
  have hl := g.len
  have hb : ∀ k, k < l.length → inb l c k = inb l d k := fun k hk => by
    have h1 := setw_bit l c l.length (by omega) k
    have h2 := setw_bit l d l.length (by omega) k
    rw [e, h2] at h1
    simpa [hk] using h1.symm
  have hh : ∀ p, has l (inb l c) p l.length = has l (inb l d) p l.length := fun p => by
    unfold has
    refine List.countP_congr fun k hk => ?_
    rw [hb k (by simpa using hk)]
  refine cd_ext (by omega) fun p hp => ?_
  have a := has_inb g (c := c) (p := p) (c2 p (by omega)).1 l.length (Nat.le_refl _)
  have b := has_inb g (c := d) (p := p) (d2 p (by omega)).1 l.length (Nat.le_refl _)
  rw [hh p] at a
  rw [a] at b
  have h1 := c2 p (by omega)
  have h2 := d2 p (by omega)
  split at b <;> split at b <;> omega
include g in
theorem nodup_Ws : (Ws n l).Nodup := by
  unfold Ws List.Nodup
  rw [List.pairwise_map]
  refine List.Pairwise.imp_of_mem ?_ (List.filter_sublist.nodup (nodup_vecs n []))
  intro a b ha hb hab e
  exact hab (setw_inj g ha hb e)
include g in
theorem E_same {i j : Nat} (hij : i < j) (hj : j < l.length) (h : pr l i = pr l j) : T l i j = true := by
  refine T_of_E (E_iff.2 ⟨l[i], l[j], List.getElem?_eq_getElem (by omega), List.getElem?_eq_getElem hj, hij, .inl ?_⟩)
  have h1 := prn g (k := i) (by omega)
  have h2 := prn g hj
  have p1 := g.proc (List.getElem?_eq_getElem (show i < l.length by omega))
  have p2 := g.proc (List.getElem?_eq_getElem hj)
  omega
include g in
theorem mem_Ws {w : W32} : w ∈ Ws n l ↔ DC l w := by
  have hl := g.len
  unfold Ws
  rw [List.mem_map]
  constructor
  · rintro ⟨c, hc, rfl⟩
    obtain ⟨c1, c2, c3⟩ := mem_Vs.1 hc
    have hb := fun k => setw_bit l c l.length (by omega) k
    refine ⟨fun b h => ?_, fun i j h1 h2 => ?_⟩
    · rw [hb] at h; simp at h; exact h.1
    · rw [hb] at h1 ⊢
      simp only [Bool.and_eq_true, decide_eq_true_eq] at h1 ⊢
      have := T_lt h2
      exact ⟨by omega, whb_iff.1 c3 i j (by omega) h1.1 h1.2 h2⟩
  · rintro ⟨h1, h2⟩
    let v : Nat → Bool := fun k => w.getLsbD k
    have hhas : ∀ p k, has l v p k ≤ cnp l p k ∨ ¬ k ≤ l.length := fun p k => by
      induction k with
      | zero => left; simp [has]
      | succ k ih =>
        by_cases q : k + 1 ≤ l.length
        · left
          have ih' := ih.resolve_right (by omega)
          rw [has_succ, cnp_pr g (by omega)]
          split <;> split <;> (try simp_all) <;> omega
        · right; exact q
    have hcd : ∀ p, p < n → cd ((List.range n).map fun p => (has l v p l.length : Int)) p = (has l v p l.length : Int) := fun p hp => by
      simp [cd, List.getD_eq_getElem?_getD, hp]
    -- what the vector has is what the word has
    have hmono : ∀ p k m, k + m ≤ l.length → has l v p k ≤ has l v p (k + m) := fun p k m => by
      induction m with
      | zero => intro _; exact Nat.le_refl _
      | succ m ih => intro h; have := ih (by omega); rw [← Nat.add_assoc, has_succ]; omega
    have hin : ∀ k, k < l.length → inb l ((List.range n).map fun p => (has l v p l.length : Int)) k = v k := fun k hk => by
      have hp := (prn g hk).1
      unfold inb
      rw [decide_eq_true hk, Bool.true_and, hcd _ hp]
      cases hv : v k with
      | true =>
        have full : ∀ m, m ≤ k → has l v (pr l k) m = cnp l (pr l k) m := by
          intro m
          induction m with
          | zero => intro _; rw [cnp_zero]; simp [has]
          | succ m ih =>
            intro hm
            rw [has_succ, cnp_pr g (by omega), ih (by omega)]
            by_cases e : pr l m = pr l k
            · have hvm : v m = true := h2 m k hv (E_same g (by omega) hk e)
              rw [if_pos ⟨e, hvm⟩, if_pos e]
            · rw [if_neg (fun h => e h.1), if_neg e]
        have h3 := hmono (pr l k) (k + 1) (l.length - (k + 1)) (by omega)
        rw [show k + 1 + (l.length - (k + 1)) = l.length by omega, has_succ, if_pos ⟨rfl, hv⟩, full k (Nat.le_refl k)] at h3
        rw [decide_eq_true_eq]; omega
      | false =>
        have none_ : ∀ m, k ≤ m → m ≤ l.length → has l v (pr l k) m = has l v (pr l k) k := by
          intro m
          induction m with
          | zero => intro a b; obtain rfl : k = 0 := by omega
                    rfl
          | succ m ih =>
            intro a b
            by_cases e : k = m + 1
            · subst e; rfl
            · rw [has_succ, ih (by omega) (by omega), if_neg]
              · rfl
              · rintro ⟨q1, q2⟩
                by_cases e2 : k = m
                · subst e2; rw [hv] at q2; cases q2
                · have := h2 k m q2 (E_same g (by omega) (by omega) q1.symm)
                  have hv' : w.getLsbD k = false := hv
                  rw [hv'] at this; cases this
        rw [none_ l.length (by omega) (Nat.le_refl _)]
        have := (hhas (pr l k) k).resolve_right (by omega)
        rw [decide_eq_false_iff_not]; omega
    refine ⟨(List.range n).map fun p => (has l v p l.length : Int), mem_Vs.2 ⟨by simp, fun p hp => ?_, ?_⟩, ?_⟩
    · rw [hcd p hp]
      have := (hhas p l.length).resolve_right (by omega)
      omega
    · rw [whb_iff]
      intro i j hi hj a b
      rw [hin j hj] at a
      rw [hin i hi]
      exact h2 i j a b
    · apply BitVec.eq_of_getLsbD_eq
      intro b hb
      rw [setw_bit l _ l.length (by omega)]
      by_cases q : b < l.length
      · rw [decide_eq_true q, Bool.true_and, hin b q]
      · rw [decide_eq_false q, Bool.false_and]
        cases c : w.getLsbD b with
        | false => rfl
        | true => exact (q (h1 b c)).elim

/-! The program: level by level. -/
def sz (l : List Ev) (w : W32) : Nat := Go.Bk.cnt l.length w
theorem cnt_or (n i : Nat) (w : W32) (hi : i < n) (h32 : i < 32) (h : w.getLsbD i = false) : Go.Bk.cnt n (w ||| (1#32 <<< i)) = Go.Bk.cnt n w + 1 := by
  unfold Go.Bk.cnt
  have key : ∀ m, (List.range m).countP (fun b => (w ||| (1#32 <<< i)).getLsbD b) = (List.range m).countP (fun b => w.getLsbD b) + if i < m then 1 else 0 := by
    intro m
    induction m with
    | zero => simp
    | succ m ih =>
      rw [List.range_succ, List.countP_append, List.countP_append, ih]
      simp only [List.countP_cons, List.countP_nil, BitVec.getLsbD_or, bit_one h32]
      by_cases e : m = i
      · subst e; simp [h]
      · have h1 : decide (m = i) = false := by simpa using e
        rw [h1, Bool.or_false]
        by_cases q : i < m
        · rw [if_pos q, if_pos (show i < m + 1 by omega)]; simp; exact Nat.add_right_comm _ _ _
        · rw [if_neg q, if_neg (show ¬ i < m + 1 by omega)]; simp
  rw [key, if_pos hi]
theorem sz_le (l : List Ev) (w : W32) : sz l w ≤ l.length := by
  unfold sz Go.Bk.cnt
  have := List.countP_le_length (p := fun b => w.getLsbD b) (l := List.range l.length)
  simpa using this
/-- May an event come to a set? -/
def en (l : List Ev) (w : W32) (i : Nat) : Bool := !w.getLsbD i && (List.range l.length).all fun a => !T l a i || w.getLsbD a
theorem en_iff {w : W32} {i : Nat} : en l w i = true ↔ w.getLsbD i = false ∧ ∀ a, T l a i = true → w.getLsbD a = true := by
  unfold en
  rw [Bool.and_eq_true, Bool.not_eq_true', List.all_eq_true]
  constructor
  · rintro ⟨h1, h2⟩
    refine ⟨h1, fun a ha => ?_⟩
    have hlt := T_lt ha
    have := h2 a (by simp; omega)
    rw [ha] at this; simpa using this
  · rintro ⟨h1, h2⟩
    refine ⟨h1, fun a _ => ?_⟩
    cases c : T l a i with
    | false => rfl
    | true => rw [h2 a c]; rfl
open Classical in
noncomputable def lev (n : Nat) (l : List Ev) (t : Nat) : W32 → Option Bool := fun w => if w ∈ Ws n l ∧ sz l w = t then some true else none
def lw (n : Nat) (l : List Ev) (t : Nat) : List W32 := (Ws n l).filter fun w => decide (sz l w = t)
include g in
theorem enum_lev (t : Nat) : Enum (lev n l t) ((lw n l t).map fun w => (w, true)) := by
  refine ⟨?_, fun k v => ?_⟩
  · rw [List.map_map]
    have : ((fun x : W32 × Bool => x.1) ∘ fun w => (w, true)) = id := rfl
    rw [this, List.map_id]
    exact List.filter_sublist.nodup (nodup_Ws g)
  · rw [List.mem_map]
    unfold lev lw
    constructor
    · rintro ⟨w, hw, e⟩
      obtain ⟨rfl, rfl⟩ := Prod.mk.inj e
      rw [List.mem_filter, decide_eq_true_eq] at hw
      rw [if_pos hw]
    · intro e
      split at e
      · rename_i h
        obtain rfl := Option.some.inj e
        exact ⟨k, by rw [List.mem_filter, decide_eq_true_eq]; exact h, rfl⟩
      · cases e
include g in
theorem mlen_lev (t : Nat) : mlen (lev n l t) = (lw n l t).length := by rw [mlen_of (enum_lev g t), List.length_map]
variable {past : List W32} (hp : past.length = l.length) (hpb : ∀ j, j < l.length → ∀ i, (wd past j).getLsbD i = T l i j)
def adds (l : List Ev) (k w : W32) (m : Nat) : Bool := (List.range m).any fun i => en l k i && (w == k ||| (1#32 <<< i))
def addf (l : List Ev) (k : W32) (y : W32 → Option Bool) (m : Nat) : W32 → Option Bool := fun w => if adds l k w m = true then some true else y w
include g hp hpb in
theorem l2_val (k : W32) (y : W32 → Option Bool) : whileM (F30_L2 past k) (y, 0) = some (.brk (addf l k y l.length)) := by
  have hl := g.len
  have h := while_upto (body := F30_L2 past k) (fun m => (addf l k y m, (m : Int))) l.length (c := .brk (addf l k y l.length))
    (fun m hm => by
      have hd : decide ((m : Int) < (past.length : Int)) = true := by rw [decide_eq_true_eq]; omega
      have hgp : idx past (m : Int) = some (wd past m) := idx_some (get_wd (by omega))
      have h1 : (((k >>> m) &&& (1#32)) == (0#32)) = !k.getLsbD m := by rw [and_one]; cases k.getLsbD m <;> rfl
      have h2 : ((wd past m &&& ~~~k) == 0#32) = (List.range l.length).all fun a => !T l a m || k.getLsbD a := by
        rw [Bool.eq_iff_iff, beq_iff_eq, List.all_eq_true]
        constructor
        · intro e a ha
          have := congrArg (fun x => x.getLsbD a) e
          simp only [BitVec.getLsbD_and, BitVec.getLsbD_not, hpb m hm, BitVec.getLsbD_zero] at this
          rw [List.mem_range] at ha
          have h32 : decide (a < 32) = true := by rw [decide_eq_true_eq]; omega
          rw [h32] at this
          cases c1 : T l a m <;> cases c2 : k.getLsbD a <;> simp_all
        · intro e
          apply BitVec.eq_of_getLsbD_eq
          intro a ha
          rw [BitVec.getLsbD_and, BitVec.getLsbD_not, hpb m hm]
          by_cases q : a < l.length
          · have := e a (by simpa using q)
            cases c1 : T l a m <;> cases c2 : k.getLsbD a <;> simp_all
          · cases c1 : T l a m with
            | false => simp
            | true => have := T_lt c1; omega
      have hnext : addf l k y (m + 1) = cond (en l k m) (mupd (addf l k y m) (k ||| (1#32 <<< m)) true) (addf l k y m) := by
        funext w
        unfold addf adds
        rw [List.range_succ, List.any_append]
        cases c : en l k m with
        | false => simp [c]
        | true =>
          simp only [cond_true, mupd, List.any_cons, List.any_nil, c, Bool.true_and, Bool.or_false]
          by_cases e : w = k ||| (1#32 <<< m)
          · have : (w == k ||| (1#32 <<< m)) = true := by rw [beq_iff_eq]; exact e
            rw [this, Bool.or_true, if_pos rfl, if_pos e]
          · have : (w == k ||| (1#32 <<< m)) = false := by rw [beq_eq_false_iff_ne]; exact e
            rw [this, Bool.or_false, if_neg e]
      simp only [F30_L2, hd, cond_true, hgp, shc_nat, Option.bind_some, h1, h2, w64_succ hm (show l.length ≤ 9223372036854775807 by omega)]
      rw [hnext]
      unfold en
      cases (!k.getLsbD m && (List.range l.length).all fun a => !T l a m || k.getLsbD a) <;> simp)
    (by simp [F30_L2, hp]) (fun s => by simp)
  have h0 : addf l k y 0 = y := by funext w; simp [addf, adds]
  have h' : whileM (F30_L2 past k) (addf l k y 0, ((0 : Nat) : Int)) = _ := h
  rw [h0] at h'; exact h'
include g hp hpb in
theorem fold_lev : ∀ (p : List (W32 × Bool)) (y : W32 → Option Bool), foldR (F30_L1 past) p y = some (.nxt fun w => if (p.any fun x => adds l x.1 w l.length) = true then some true else y w)
  | [], y => by simp [foldR]
  | (k, v) :: p, y => by
    rw [foldR_cons]
    have hb : F30_L1 past k v y = some (.nxt (addf l k y l.length)) := by simp only [F30_L1, l2_val g hp hpb, Option.bind_some, Ctl.on]
    simp only [hb]
    rw [fold_lev p]
    congr 2
    funext w
    rw [List.any_cons]
    unfold addf
    cases c1 : adds l k w l.length <;> cases c2 : (p.any fun x => adds l x.1 w l.length) <;> simp
/-- A set of one more is one with an event that may come. -/
theorem dc_up (hl : l.length ≤ 30) {k : W32} {i : Nat} (hk : DC l k) (hi : i < l.length) (he : en l k i = true) : DC l (k ||| (1#32 <<< i)) ∧ sz l (k ||| (1#32 <<< i)) = sz l k + 1 := by
  obtain ⟨e1, e2⟩ := en_iff.1 he
  refine ⟨⟨fun b hb => ?_, fun a j hj ht => ?_⟩, cnt_or _ _ _ hi (by omega) e1⟩
  · rw [BitVec.getLsbD_or, bit_one (by omega), Bool.or_eq_true, decide_eq_true_eq] at hb
    rcases hb with hb | rfl
    · exact hk.1 b hb
    · exact hi
  · rw [BitVec.getLsbD_or, bit_one (by omega), Bool.or_eq_true, decide_eq_true_eq] at hj ⊢
    left
    rcases hj with hj | rfl
    · exact hk.2 a j hj ht
    · exact e2 a ht
theorem dc_down (hl : l.length ≤ 30) {w : W32} (hw : DC l w) (h0 : 0 < sz l w) : ∃ k i, DC l k ∧ i < l.length ∧ en l k i = true ∧ w = k ||| (1#32 <<< i) := by
  have hex : ∃ i, i < l.length ∧ w.getLsbD i = true ∧ ∀ j, i < j → j < l.length → w.getLsbD j = false := by
    have key : ∀ m, m ≤ l.length → (∀ j, m ≤ j → j < l.length → w.getLsbD j = false) → ∃ i, i < l.length ∧ w.getLsbD i = true ∧ ∀ j, i < j → j < l.length → w.getLsbD j = false := by
      intro m
      induction m with
      | zero =>
        intro _ h
        exfalso
        have : (List.range l.length).countP (fun b => w.getLsbD b) = 0 := by
          rw [List.countP_eq_zero]
          intro b hb
          rw [h b (Nat.zero_le b) (by simpa using hb)]; simp
        unfold sz Go.Bk.cnt at h0
        omega
      | succ m ih =>
        intro hm h
        cases c : w.getLsbD m with
        | true => exact ⟨m, by omega, c, fun j h1 h2 => h j (by omega) h2⟩
        | false =>
          refine ih (by omega) fun j h1 h2 => ?_
          by_cases e : j = m
          · rw [e]; exact c
          · exact h j (by omega) h2
    exact key l.length (Nat.le_refl _) fun j h1 h2 => by omega
  obtain ⟨i, hi, hwi, hmax⟩ := hex
  have hb : ∀ b, b < 32 → (w &&& ~~~(1#32 <<< i)).getLsbD b = (w.getLsbD b && !decide (b = i)) := fun b hb => by
    rw [BitVec.getLsbD_and, BitVec.getLsbD_not, bit_one (by omega)]; simp [hb]
  have hlt : ∀ b, (w &&& ~~~(1#32 <<< i)).getLsbD b = true → b < l.length := fun b h => hw.1 b (by rw [BitVec.getLsbD_and] at h; simp at h; exact h.1)
  refine ⟨w &&& ~~~(1#32 <<< i), i, ⟨hlt, fun a j hj ht => ?_⟩, hi, en_iff.2 ⟨?_, fun a ha => ?_⟩, ?_⟩
  · have hjl := hlt j hj
    rw [hb j (by omega)] at hj
    simp only [Bool.and_eq_true, Bool.not_eq_true', decide_eq_false_iff_not] at hj
    have htl := T_lt ht
    have hji : j < i := by
      rcases Nat.lt_trichotomy j i with q | q | q
      · exact q
      · exact (hj.2 q).elim
      · have := hmax j q hjl; rw [hj.1] at this; cases this
    rw [hb a (by omega), hw.2 a j hj.1 ht]
    simp; omega
  · rw [hb i (by omega)]; simp
  · have htl := T_lt ha
    rw [hb a (by omega), hw.2 a i hwi ha]
    simp; omega
  · apply BitVec.eq_of_getLsbD_eq
    intro b hb32
    rw [BitVec.getLsbD_or, hb b hb32, bit_one (by omega)]
    by_cases e : b = i
    · subst e; simp [hwi]
    · simp [e]
include g hp hpb in
theorem next_lev (t : Nat) : rangeM (lev n l t) (F30_L1 past) (mzero : W32 → Option Bool) = some (.nxt (lev n l (t + 1))) := by
  have hl := g.len
  refine rangeM_of (enum_lev g t) fun p hpe => ?_
  rw [fold_lev g hp hpb]
  congr 2
  funext w
  have : ((p.any fun x => adds l x.1 w l.length) = true) ↔ (w ∈ Ws n l ∧ sz l w = t + 1) := by
    rw [List.any_eq_true]
    constructor
    · rintro ⟨⟨k, v⟩, hk, ha⟩
      have hkl := (hpe.2 k v).1 hk
      unfold lev at hkl
      split at hkl
      · rename_i hh
        unfold adds at ha
        rw [List.any_eq_true] at ha
        obtain ⟨i, hi, ha⟩ := ha
        rw [Bool.and_eq_true, beq_iff_eq] at ha
        obtain ⟨u1, u2⟩ := dc_up hl ((mem_Ws g).1 hh.1) (by simpa using hi) ha.1
        rw [ha.2]
        exact ⟨(mem_Ws g).2 u1, by rw [u2, hh.2]⟩
      · cases hkl
    · rintro ⟨h1, h2⟩
      obtain ⟨k, i, q1, q2, q3, rfl⟩ := dc_down hl ((mem_Ws g).1 h1) (by omega)
      obtain ⟨_, u2⟩ := dc_up hl q1 q2 q3
      refine ⟨(k, true), (hpe.2 k true).2 ?_, ?_⟩
      · unfold lev
        rw [if_pos ⟨(mem_Ws g).2 q1, by omega⟩]
      · unfold adds
        rw [List.any_eq_true]
        exact ⟨i, by simpa using q2, by rw [q3]; simp⟩
  unfold lev mzero
  by_cases c : w ∈ Ws n l ∧ sz l w = t + 1
  · rw [if_pos (this.2 c), if_pos c]
  · rw [if_neg (fun h => c (this.1 h)), if_neg c]
include g in
theorem start_lev : mupd (mzero : W32 → Option Bool) (0#32) true = lev n l 0 := by
  funext w
  unfold mupd lev mzero
  by_cases c : w = 0#32
  · subst c
    have : (0#32 : W32) ∈ Ws n l ∧ sz l 0#32 = 0 := ⟨(mem_Ws g).2 ⟨fun b hb => by simp at hb, fun i j hj => by simp at hj⟩, by simp [sz, Go.Bk.cnt]⟩
    rw [if_pos rfl, if_pos this]
  · rw [if_neg c, if_neg]
    rintro ⟨h1, h2⟩
    apply c
    apply BitVec.eq_of_getLsbD_eq
    intro b _
    rw [BitVec.getLsbD_zero]
    cases q : w.getLsbD b with
    | false => rfl
    | true =>
      have hb := ((mem_Ws g).1 h1).1 b q
      unfold sz Go.Bk.cnt at h2
      rw [List.countP_eq_zero] at h2
      exact (h2 b (by simpa using hb) q).elim
include g in
theorem lev_some : ∀ t, t ≤ l.length → ∃ w, w ∈ Ws n l ∧ sz l w = t
  | 0, _ => ⟨0#32, (mem_Ws g).2 ⟨fun b hb => by simp at hb, fun i j hj => by simp at hj⟩, by simp [sz, Go.Bk.cnt]⟩
  | t + 1, h => by
    have hl := g.len
    obtain ⟨w, h1, h2⟩ := lev_some t (by omega)
    have hw := (mem_Ws g).1 h1
    have hex : ∃ i, i < l.length ∧ w.getLsbD i = false ∧ ∀ j, j < i → w.getLsbD j = true := by
      have key : ∀ m, m ≤ l.length → (∀ j, j < m → w.getLsbD j = true) ∨ ∃ i, i < l.length ∧ w.getLsbD i = false ∧ ∀ j, j < i → w.getLsbD j = true := by
        intro m
        induction m with
        | zero => intro _; exact .inl fun j hj => by omega
        | succ m ih =>
          intro hm
          rcases ih (by omega) with q | q
          · cases c : w.getLsbD m with
            | false => exact .inr ⟨m, by omega, c, q⟩
            | true =>
              refine .inl fun j hj => ?_
              by_cases e : j = m
              · rw [e]; exact c
              · exact q j (by omega)
          · exact .inr q
      rcases key l.length (Nat.le_refl _) with q | q
      · exfalso
        have : (List.range l.length).countP (fun b => w.getLsbD b) = (List.range l.length).length := by
          rw [List.countP_eq_length]; intro b hb; exact q b (by simpa using hb)
        unfold sz Go.Bk.cnt at h2
        rw [List.length_range] at this
        omega
      · exact q
    obtain ⟨i, hi, hwi, hj⟩ := hex
    obtain ⟨u1, u2⟩ := dc_up hl hw hi (en_iff.2 ⟨hwi, fun a ha => hj a (T_lt ha).1⟩)
    exact ⟨_, (mem_Ws g).2 u1, by omega⟩
def below (n : Nat) (l : List Ev) (t : Nat) : Nat := ((Ws n l).filter fun w => decide (sz l w < t)).length
theorem below_succ (t : Nat) : below n l (t + 1) = below n l t + (lw n l t).length := by
  unfold below lw
  induction Ws n l with
  | nil => rfl
  | cons w ws ih =>
    simp only [List.filter_cons]
    by_cases a : sz l w < t
    · have b : sz l w < t + 1 := by omega
      have c : ¬ sz l w = t := by omega
      simp [a, b, c] at ih ⊢; omega
    · by_cases c : sz l w = t
      · have b : sz l w < t + 1 := by omega
        simp [a, b, c] at ih ⊢; omega
      · have b : ¬ sz l w < t + 1 := by omega
        simp [a, b, c] at ih ⊢; omega
theorem below_le (t : Nat) : below n l t ≤ (Ws n l).length := List.length_filter_le _ _
theorem Ws_len : (Ws n l).length = cv n l n [] := by unfold Ws Vs cv; rw [List.length_map, List.countP_eq_length_filter]
include g in
theorem Ws_le : (Ws n l).length ≤ 887503681 := by
  rw [Ws_len]
  have hn := g.n6
  exact Nat.le_trans (Nat.le_trans List.countP_le_length (vecs_len g.len n [])) (pow_6 (by omega))
include g hp hpb in
theorem levels : ∀ (r t : Nat), t + r = l.length + 1 → whileM (F30_L0 past) (lev n l t, (below n l t : Int)) = some (.brk ((Ws n l).length : Int)) := by
  intro r
  induction r with
  | zero =>
    intro t ht
    obtain rfl : t = l.length + 1 := by omega
    have h0 : mlen (lev n l (l.length + 1)) = 0 := by
      rw [mlen_lev g]
      unfold lw
      rw [List.length_eq_zero_iff, List.filter_eq_nil_iff]
      intro w _
      have := sz_le l w
      simp; omega
    have hb : below n l (l.length + 1) = (Ws n l).length := by
      unfold below
      rw [List.filter_eq_self.2]
      intro w _
      have := sz_le l w
      simp; omega
    rw [hb]
    exact whileM_brk (by simp only [F30_L0, h0]; rfl)
  | succ r ih =>
    intro t ht
    obtain ⟨w, w1, w2⟩ := lev_some g t (by omega)
    have hm : mlen (lev n l t) = (lw n l t).length := mlen_lev g t
    have hpos : 0 < (lw n l t).length := List.length_pos_iff.2 fun e => by
      have : w ∈ lw n l t := by unfold lw; rw [List.mem_filter, decide_eq_true_eq]; exact ⟨w1, w2⟩
      rw [e] at this; cases this
    have hd : decide (((lw n l t).length : Int) > 0) = true := by rw [decide_eq_true_eq]; omega
    have h1 := below_succ (n := n) (l := l) t
    have h2 := below_le (n := n) (l := l) (t + 1)
    have h3 := Ws_le g
    have hw : w64 ((below n l t : Int) + ((lw n l t).length : Int)) = (below n l (t + 1) : Int) := by rw [w64_of (by omega) (by omega)]; omega
    rw [whileM_nxt (s' := (lev n l (t + 1), (below n l (t + 1) : Int))) (by simp only [F30_L0, hm, hd, cond_true, next_lev g hp hpb, Option.bind_some, Ctl.onN, hw])]
    exact ih (t + 1) (by omega)
end
theorem law_CutManies (a0 : Int) (_ : i64 a0) (a1 : List Ev) (h : a1.length ≤ 9223372036854775807) (_ : ∀ x ∈ a1, i64 x.1 ∧ i64 x.2.1 ∧ i64 x.2.2) : F10 a0 a1 = some true := by
  obtain ⟨r, e15, e16⟩ := runCheck_same a0 a1
  unfold F10 F30
  simp only [e15, e16, Option.bind_some]
  by_cases c : r = 0
  · subst c
    have g0 := good_of e16
    obtain ⟨n, rfl⟩ : ∃ n : Nat, a0 = n := ⟨a0.toNat, by have := g0.n1; omega⟩
    obtain ⟨past, h40, hp, hpb⟩ := f40_val g0
    have hlev := levels g0 hp hpb (a1.length + 1) 0 (by omega)
    have hb0 : below n a1 0 = 0 := by unfold below; rw [List.length_eq_zero_iff, List.filter_eq_nil_iff]; simp
    rw [hb0, ← start_lev g0] at hlev
    have hlev' : whileM (F30_L0 past) (mupd (mzero : W32 → Option Bool) (0#32) true, 0) = _ := hlev
    simp only [bne_self_eq_false, cond_false, h40, Option.bind_some, hlev', Ctl.on, beq_self_eq_true, cond_true, f31_val g0, Ws_len]
  · have e3 : (r != 0) = true := by simpa using c
    simp only [e3, cond_true, beq_self_eq_true, Bool.and_self, Option.bind_some]
end Go.Proofs.Ytmfidlalejdikaa
