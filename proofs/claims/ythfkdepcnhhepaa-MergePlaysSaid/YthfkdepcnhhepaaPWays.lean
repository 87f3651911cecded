/-
  Ways as a list of letters, and as queues under a map.
-/
import Derived.Test.YthfkdepcnhhepaaKM
import Derived.Test.YthfkdepcnhhepaaPw
import Derived.Test.YthfkdepcnhhepaaBk6
namespace Go.Proofs.Ythfkdepcnhhepaa
open Go Go.Bk
set_option linter.unusedVariables false
set_option linter.unusedSimpArgs false
set_option linter.unusedSectionVars false

abbrev Mv := Int × Int × Int × Int
abbrev Lt := Int × Int × Int
def ge {α : Type} (d : α) (l : List α) (j : Nat) : α := l.getD j d
theorem get_ge {α : Type} (d : α) {l : List α} {j : Nat} (h : j < l.length) : l[j]? = some (ge d l j) := by simp [ge, List.getD_eq_getElem?_getD, List.getElem?_eq_getElem h]
theorem idx_ge {α : Type} (d : α) {l : List α} {j : Nat} (h : j < l.length) : idx l (j : Int) = some (ge d l j) := idx_some (get_ge d h)
theorem ge_set {α : Type} {d : α} {l : List α} {i b : Nat} {v : α} (hi : i < l.length) : ge d (l.set i v) b = if b = i then v else ge d l b := by
  unfold ge
  rw [List.getD_eq_getElem?_getD, List.getD_eq_getElem?_getD, List.getElem?_set]
  by_cases c : i = b
  · subst c; simp [hi]
  · have : ¬ b = i := fun e => c e.symm
    simp [c, this]
theorem ge_rep {α : Type} (d v : α) {n i : Nat} (h : i < n) : ge d (List.replicate n v) i = v := by
  unfold ge; rw [List.getD_eq_getElem?_getD, List.getElem?_replicate]; simp [h]
theorem w64i {x : Int} (h0 : -9000000000 ≤ x) (h1 : x ≤ 9000000000) : w64 x = x := w64_of (by omega) (by omega)
theorem appM {α : Type} (b : Nat) (hb : b ≤ 128) (l m : List α) (h : l.length + m.length ≤ 100000) : appl b l m = some (l ++ m) := by
  unfold appl; rw [if_pos]
  have : (l.length + m.length) * b ≤ 100000 * 128 := Nat.mul_le_mul h hb
  omega
theorem app1 {α : Type} (b : Nat) (hb : b ≤ 128) (l : List α) (z : α) (h : l.length ≤ 60000) : appl b l [z] = some (l ++ [z]) := appM b hb l [z] (by simp; omega)
theorem idx_setG {α : Type} {l : List α} {j : Nat} (h : j < l.length) (v : α) : idx (l.set j v) (j : Int) = some v := idx_some (by rw [List.getElem?_set_self h])
theorem mkl_rep {α : Type} {n b : Nat} (hn : n ≤ 6) (hb : b ≤ 128) (z : α) : mkl (n : Int) b z = some (List.replicate n z) := by
  unfold mkl
  rw [if_pos]; simp
  refine ⟨by omega, ?_, by omega⟩
  have : (b : Int) * (n : Int) ≤ 128 * 6 := Int.mul_le_mul (by omega) (by omega) (by omega) (by omega)
  omega
theorem nat_of {a : Int} (h : 0 ≤ a) : ∃ c : Nat, a = (c : Int) := ⟨a.toNat, by omega⟩
theorem take_succ' {α : Type} {L : List α} {k : Nat} (hk : k < L.length) : L.take (k + 1) = L.take k ++ [L[k]] := by
  rw [List.take_add_one, List.getElem?_eq_getElem hk]; rfl
theorem set_ge {α : Type} {d : α} {l : List α} {i : Nat} {v : α} (hi : i < l.length) (h : ge d l i = v) : l.set i v = l := by
  apply List.ext_getElem?
  intro j
  rw [List.getElem?_set]
  by_cases e : i = j
  · subst e; rw [if_pos rfl, if_pos hi, ← h, get_ge d hi]
  · rw [if_neg e]
theorem bitT (w : BitVec 32) (k : Nat) : (((w >>> k) &&& (1#32)) == (1#32)) = w.getLsbD k := by
  rw [and_one]; cases w.getLsbD k <;> rfl
theorem while_ex {σ τ β ρ : Type} {body : σ → Option (Ctl σ β ρ)} (S : Nat → τ → σ) (n : Nat) (out : τ → β) (I : Nat → τ → Prop)
    (hstep : ∀ k t, k < n → I k t → ∃ t', body (S k t) = some (.nxt (S (k + 1) t')) ∧ I (k + 1) t') (hend : ∀ t, I n t → body (S n t) = some (.brk (out t))) (t : τ) (h0 : I 0 t) :
    ∃ t', whileM body (S 0 t) = some (.brk (out t')) ∧ I n t' := by
  have key : ∀ m k t, k + m = n → I k t → ∃ t', whileM body (S k t) = some (.brk (out t')) ∧ I n t' := by
    intro m
    induction m with
    | zero =>
      intro k t hk hI
      obtain rfl : k = n := by omega
      exact ⟨t, whileM_brk (hend t hI), hI⟩
    | succ m ih =>
      intro k t hk hI
      obtain ⟨t', h1, h2⟩ := hstep k t (by omega) hI
      rw [whileM_nxt h1]
      exact ih (k + 1) t' (by omega) h2
  exact key n 0 t (by omega) h0
theorem has_val (l : List Int) (hl : l.length ≤ 1000000) (a : Int) : F66 l a = some (decide (a ∈ l)) := by
  have h : whileM (F66_L0 l a) 0 = some (found () (cond (l.any (fun e => a == e)) (some true) none)) := by
    rw [← scan_any (k := 0)]
    refine while_scan (by omega) _ (fun k e h => ?_) (by simp [F66_L0])
    have hk := lt_of_get h
    have hd : decide ((k : Int) < (l.length : Int)) = true := by rw [decide_eq_true_eq]; omega
    cases c : (a == e) <;> (simp only [F66_L0, idx_some h, hd, c, going, Option.bind_some, cond_true, cond_false]; simp)
  have e : l.any (fun e => a == e) = decide (a ∈ l) := by
    rw [Bool.eq_iff_iff, List.any_eq_true, decide_eq_true_eq]
    constructor
    · rintro ⟨x, hx, e⟩; rw [beq_iff_eq] at e; rw [e]; exact hx
    · intro h; exact ⟨a, h, by simp⟩
  unfold F66
  rw [h, e]
  cases c : decide (a ∈ l) <;> simp [found, Ctl.on]
theorem same_ints (l : List Int) (hl : l.length ≤ 1000) : F25 l l = some true := by
  have h : whileM (F25_L0 l l) 0 = some (.brk ()) := by
    refine while_upto (fun k => (k : Int)) l.length (fun k hk => ?_) (by simp [F25_L0]) (by simp)
    have hg : l[k]? = some l[k] := List.getElem?_eq_getElem hk
    have hd : decide ((k : Int) < (l.length : Int)) = true := by rw [decide_eq_true_eq]; omega
    simp only [F25_L0, hd, cond_true, idx_some hg, Option.bind_some, bne_self_eq_false, cond_false, w64_succ hk (by omega)]
  unfold F25
  rw [h]; simp [Ctl.on]
theorem same_codes (l : List Int) (hl : l.length ≤ 1000) : F18 l l = some true := same_ints l hl
theorem same_lists (l : List (List Int)) (hl : l.length ≤ 1000) (hr : ∀ x ∈ l, x.length ≤ 1000) : F28 l l = some true := by
  have h : whileM (F28_L0 l l) 0 = some (.brk ()) := by
    refine while_upto (fun k => (k : Int)) l.length (fun k hk => ?_) (by simp [F28_L0]) (by simp)
    have hg : l[k]? = some l[k] := List.getElem?_eq_getElem hk
    have hd : decide ((k : Int) < (l.length : Int)) = true := by rw [decide_eq_true_eq]; omega
    simp only [F28_L0, hd, cond_true, idx_some hg, Option.bind_some, same_ints l[k] (hr _ (List.getElem_mem hk)), Bool.not_true, cond_false, w64_succ hk (by omega)]
  unfold F28
  rw [h]; simp [Ctl.on]

/-! The letters from one to another one. -/
def hit (a b : Int) (l : Lt) : Bool := (l.1 == a) && (l.2.1 == b)
def qs (way : List Lt) (a b : Int) : List Int := (way.filter (hit a b)).map (·.2.2)
theorem hit_iff {a b : Int} {l : Lt} : hit a b l = true ↔ l.1 = a ∧ l.2.1 = b := by simp [hit]
theorem qs_app (way : List Lt) (l : Lt) (c d : Int) : qs (way ++ [l]) c d = qs way c d ++ (if l.1 = c ∧ l.2.1 = d then [l.2.2] else []) := by
  unfold qs
  rw [List.filter_append, List.map_append]
  congr 1
  by_cases e : l.1 = c ∧ l.2.1 = d
  · rw [if_pos e, List.filter_cons, if_pos (hit_iff.2 e)]; rfl
  · rw [if_neg e, List.filter_cons, if_neg (fun q => e (hit_iff.1 q))]; rfl
theorem first_scan (way : List Lt) (hl : way.length ≤ 1000000) (a b : Int) : F61 way a b = some ((scan (fun k (e : Lt) => if hit a b e = true then some (k : Int) else none) way 0).getD (-1)) := by
  have h : whileM (F61_L0 way a b) 0 = some (found () (scan (fun k (e : Lt) => if hit a b e = true then some (k : Int) else none) way 0)) := by
    refine while_scan (by omega) _ (fun k e h => ?_) (by simp [F61_L0])
    have hk := lt_of_get h
    have hd : decide ((k : Int) < (way.length : Int)) = true := by rw [decide_eq_true_eq]; omega
    cases c : hit a b e <;> (unfold hit at c; simp only [F61_L0, idx_some h, hd, c, going, Option.bind_some, cond_true, cond_false]; simp)
  unfold F61
  rw [h]
  cases (scan (fun k (e : Lt) => if hit a b e = true then some (k : Int) else none) way 0) <;> simp [found, Ctl.on]
/-- Either there is none, or the first one stands somewhere. -/
theorem first_val (way : List Lt) (hl : way.length ≤ 1000000) (a b : Int) : (qs way a b = [] ∧ F61 way a b = some (-1)) ∨
    ∃ (k : Nat) (x : Int), F61 way a b = some (k : Int) ∧ k < way.length ∧ way[k]? = some (a, b, x) ∧ qs way a b = x :: qs (way.eraseIdx k) a b ∧ (∀ c d, (c, d) ≠ (a, b) → qs (way.eraseIdx k) c d = qs way c d) := by
  rw [first_scan way hl]
  clear hl
  have key : ∀ (way : List Lt) (s : Nat), (qs way a b = [] ∧ scan (fun k (e : Lt) => if hit a b e = true then some (k : Int) else none) way s = none) ∨
      ∃ (k : Nat) (x : Int), scan (fun k (e : Lt) => if hit a b e = true then some (k : Int) else none) way s = some ((s + k : Nat) : Int) ∧ k < way.length ∧ way[k]? = some (a, b, x) ∧ qs way a b = x :: qs (way.eraseIdx k) a b ∧ (∀ c d, (c, d) ≠ (a, b) → qs (way.eraseIdx k) c d = qs way c d) := by
    intro way
    induction way with
    | nil => intro s; exact .inl ⟨rfl, rfl⟩
    | cons l way ih =>
      intro s
      by_cases c : hit a b l = true
      · right
        obtain ⟨e1, e2⟩ := hit_iff.1 c
        refine ⟨0, l.2.2, by simp [scan, c], by simp, ?_, ?_, ?_⟩
        · obtain ⟨p, q, x⟩ := l; simp only at e1 e2; subst e1; subst e2; rfl
        · simp [qs, c]
        · intro p q hpq
          have : hit p q l = false := by
            cases z : hit p q l with
            | false => rfl
            | true => obtain ⟨f1, f2⟩ := hit_iff.1 z; exact absurd (by rw [← f1, ← f2, e1, e2]) hpq
          simp [qs, this]
      · have c' : hit a b l = false := by simpa using c
        rcases ih (s + 1) with ⟨h1, h2⟩ | ⟨k, x, h1, h2, h3, h4, h5⟩
        · left
          refine ⟨?_, ?_⟩
          · have : qs (l :: way) a b = qs way a b := by simp [qs, c']
            rw [this]; exact h1
          · simp [scan, c', h2]
        · right
          refine ⟨k + 1, x, ?_, by simp; omega, by simpa using h3, ?_, ?_⟩
          · simp only [scan, c', Bool.false_eq_true, if_false, h1]; congr 2; omega
          · have e1 : qs (l :: way) a b = qs way a b := by simp [qs, c']
            have e2 : qs ((l :: way).eraseIdx (k + 1)) a b = qs (way.eraseIdx k) a b := by simp [qs, c']
            rw [e1, e2]; exact h4
          · intro p q hpq
            have := h5 p q hpq
            unfold qs at this ⊢
            rw [List.eraseIdx_cons_succ, List.filter_cons, List.filter_cons]
            split <;> simp [this]
  rcases key way 0 with ⟨h1, h2⟩ | ⟨k, x, h1, h2, h3, h4, h5⟩
  · exact .inl ⟨h1, by rw [h2]; rfl⟩
  · exact .inr ⟨k, x, by rw [h1]; simp, h2, h3, h4, h5⟩
theorem without_val {way : List Lt} (hl : way.length ≤ 50000) {k : Nat} (hk : k < way.length) : F62 way (k : Int) = some (way.eraseIdx k) := by
  have s1 : slI way 0 (k : Int) = some (way.take k) := slI_take hk
  have s2 : slI way ((k + 1 : Nat) : Int) (way.length : Int) = some (way.drop (k + 1)) := by
    unfold slI
    rw [if_pos ⟨by omega, by omega, by omega⟩]
    simp
  unfold F62
  rw [w64_succ hk (by omega), s1, s2]
  simp only [Option.bind_some]
  rw [appM 24 (by decide) [] _ (by simp; omega)]
  simp only [Option.bind_some, List.nil_append]
  rw [appM 24 (by decide) _ _ (by simp; omega)]
  simp only [Option.bind_some]
  rw [List.eraseIdx_eq_take_drop_succ]

/-! Queues under a map. -/
section
variable {β : Type} {enc : β → Int}
structure WRel (enc : β → Int) (m : Int × Int → Option (List β)) (way : List Lt) : Prop where
  eq : ∀ a b, ((m (a, b)).getD []).map enc = qs way a b
  fin : ∃ p, Enum m p
theorem WRel.zero : WRel enc (mzero : Int × Int → Option (List β)) [] := ⟨fun a b => rfl, _, Enum.zero⟩
theorem WRel.send {m : Int × Int → Option (List β)} {way : List Lt} (h : WRel enc m way) (a b : Int) (y : β) : WRel enc (mupd m (a, b) ((m (a, b)).getD [] ++ [y])) (way ++ [(a, b, enc y)]) := by
  obtain ⟨p, hp⟩ := h.fin
  refine ⟨fun c d => ?_, _, hp.upd _ _⟩
  rw [qs_app]
  unfold mupd
  by_cases e : (c, d) = (a, b)
  · obtain ⟨rfl, rfl⟩ := Prod.mk.inj e
    rw [if_pos rfl, Option.getD_some, List.map_append, h.eq]
    simp
  · rw [if_neg e, h.eq]
    have : ¬ (a = c ∧ b = d) := fun q => e (by rw [q.1, q.2])
    simp [this]
theorem WRel.take {m : Int × Int → Option (List β)} {way : List Lt} (h : WRel enc m way) {a b : Int} {y : β} {ys : List β} {k : Nat} {x : Int} (hm : (m (a, b)).getD [] = y :: ys) (hq : qs way a b = x :: qs (way.eraseIdx k) a b)
    (ho : ∀ c d, (c, d) ≠ (a, b) → qs (way.eraseIdx k) c d = qs way c d) : x = enc y ∧ WRel enc (mupd m (a, b) ys) (way.eraseIdx k) := by
  obtain ⟨p, hp⟩ := h.fin
  have h1 := h.eq a b
  rw [hm, hq, List.map_cons] at h1
  obtain ⟨h2, h3⟩ := List.cons.inj h1
  refine ⟨h2.symm, fun c d => ?_, _, hp.upd _ _⟩
  unfold mupd
  by_cases e : (c, d) = (a, b)
  · obtain ⟨rfl, rfl⟩ := Prod.mk.inj e
    rw [if_pos rfl, Option.getD_some]; exact h3
  · rw [if_neg e, ho c d e]; exact h.eq c d
theorem WRel.len {m : Int × Int → Option (List β)} {way : List Lt} (h : WRel enc m way) (a b : Int) : ((m (a, b)).getD []).length ≤ way.length := by
  have := congrArg List.length (h.eq a b)
  rw [List.length_map] at this
  rw [this]
  unfold qs
  rw [List.length_map]
  exact List.length_filter_le _ _
theorem WRel.none_iff {m : Int × Int → Option (List β)} {way : List Lt} (h : WRel enc m way) (a b : Int) : (m (a, b)).getD [] = [] ↔ qs way a b = [] := by
  rw [← h.eq a b]; simp
/-- How many there are. -/
def manyIn (p : List ((Int × Int) × List β)) : Nat := (p.map fun x => x.2.length).sum
theorem WRel.tot {m : Int × Int → Option (List β)} {way : List Lt} (h : WRel enc m way) {p : List ((Int × Int) × List β)} (hp : Enum m p) : manyIn p = way.length := by
  have e1 : manyIn p = ((p.map (·.1)).map fun k => (qs way k.1 k.2).length).sum := by
    unfold manyIn
    rw [List.map_map]
    congr 1
    apply List.map_congr_left
    intro x hx
    have := congrArg List.length (h.eq x.1.1 x.1.2)
    rw [List.length_map, (hp.2 x.1 x.2).1 hx] at this
    exact this
  have cover : ∀ l ∈ way, (l.1, l.2.1) ∈ p.map (·.1) := by
    intro l hl
    have hne : qs way l.1 l.2.1 ≠ [] := by
      unfold qs
      intro q
      rw [List.map_eq_nil_iff, List.filter_eq_nil_iff] at q
      exact q l hl (hit_iff.2 ⟨rfl, rfl⟩)
    cases c : m (l.1, l.2.1) with
    | none => have := (h.none_iff l.1 l.2.1).1 (by rw [c]; rfl); exact absurd this hne
    | some v => exact List.mem_map.2 ⟨_, (hp.2 _ _).2 c, rfl⟩
  have nd := hp.1
  rw [e1]
  generalize p.map (·.1) = ks at cover nd
  clear e1 h hp
  induction way with
  | nil =>
    have : ∀ ks : List (Int × Int), (ks.map fun k => (qs [] k.1 k.2).length).sum = 0 := by
      intro ks
      induction ks with
      | nil => rfl
      | cons k ks ih => rw [List.map_cons, List.sum_cons, ih]; rfl
    rw [this]; rfl
  | cons l way ih =>
    have ih' := ih (fun x hx => cover x (List.mem_cons_of_mem _ hx))
    have hk := cover l (by simp)
    obtain ⟨k1, k2, rfl⟩ := List.append_of_mem hk
    have hnk : (l.1, l.2.1) ∉ k1 ∧ (l.1, l.2.1) ∉ k2 := by
      have := (List.perm_middle.nodup_iff).1 nd
      rw [List.nodup_cons, List.mem_append] at this
      exact ⟨fun q => this.1 (.inl q), fun q => this.1 (.inr q)⟩
    have other : ∀ ks : List (Int × Int), (l.1, l.2.1) ∉ ks → (ks.map fun k => (qs (l :: way) k.1 k.2).length) = (ks.map fun k => (qs way k.1 k.2).length) := by
      intro ks hks
      apply List.map_congr_left
      intro k hk
      have : hit k.1 k.2 l = false := by
        cases z : hit k.1 k.2 l with
        | false => rfl
        | true => obtain ⟨f1, f2⟩ := hit_iff.1 z; exact absurd (by rw [f1, f2]; exact hk) hks
      simp [qs, this]
    have mine : (qs (l :: way) l.1 l.2.1).length = (qs way l.1 l.2.1).length + 1 := by
      have : hit l.1 l.2.1 l = true := hit_iff.2 ⟨rfl, rfl⟩
      simp [qs, this]
    rw [List.map_append, List.map_cons, List.sum_append, List.sum_cons] at ih' ⊢
    dsimp only at ih' ⊢
    rw [other k1 hnk.1, other k2 hnk.2, mine, List.length_cons]
    omega
/-- A letter to each of some. -/
def sendM (i : Nat) (P : Nat → Bool) (y : β) : Nat → (Int × Int → Option (List β)) → (Int × Int → Option (List β))
  | 0, m => m
  | k + 1, m => if P k = true then mupd (sendM i P y k m) ((i : Int), (k : Int)) ((sendM i P y k m ((i : Int), (k : Int))).getD [] ++ [y]) else sendM i P y k m
def sendW (i : Nat) (P : Nat → Bool) (x : Int) : Nat → List Lt → List Lt
  | 0, w => w
  | k + 1, w => if P k = true then sendW i P x k w ++ [((i : Int), (k : Int), x)] else sendW i P x k w
theorem send_rel {m : Int × Int → Option (List β)} {way : List Lt} (h : WRel enc m way) (i : Nat) (P : Nat → Bool) (y : β) : ∀ k, WRel enc (sendM i P y k m) (sendW i P (enc y) k way)
  | 0 => h
  | k + 1 => by
    unfold sendM sendW
    by_cases c : P k = true
    · rw [if_pos c, if_pos c]; exact (send_rel h i P y k).send _ _ _
    · rw [if_neg c, if_neg c]; exact send_rel h i P y k
theorem sendW_len (i : Nat) (P : Nat → Bool) (x : Int) (way : List Lt) : ∀ k, (sendW i P x k way).length ≤ way.length + k
  | 0 => by simp [sendW]
  | k + 1 => by
    have := sendW_len i P x way k
    unfold sendW
    split
    · simp; omega
    · omega
end
theorem same_len {α : Type} [DecidableEq α] {p q : List α} (hp : p.Nodup) (hs : ∀ x ∈ p, x ∈ q) (hl : q.length ≤ p.length) : ∀ x ∈ q, x ∈ p := fun x hx => by
  refine Classical.byContradiction fun hn => ?_
  have := nodup_len (p := x :: p) (q := q) (List.nodup_cons.2 ⟨hn, hp⟩) fun y hy => by
    rcases List.mem_cons.1 hy with rfl | hy
    · exact hx
    · exact hs y hy
  simp at this
  omega
/-- All pairs of two of n. -/
def pairs (n : Nat) : List (Nat × Nat) := (List.range n).flatMap fun i => ((List.range n).filter (· != i)).map fun j => (i, j)
theorem pairs_mem {n i j : Nat} : (i, j) ∈ pairs n ↔ i < n ∧ j < n ∧ j ≠ i := by
  simp only [pairs, List.mem_flatMap, List.mem_range, List.mem_map, List.mem_filter, bne_iff_ne, Prod.mk.injEq]
  constructor
  · rintro ⟨a, ha, b, ⟨hb, hne⟩, rfl, rfl⟩; exact ⟨ha, hb, hne⟩
  · rintro ⟨h1, h2, h3⟩; exact ⟨i, h1, j, ⟨h2, h3⟩, rfl, rfl⟩
theorem pairs_len {n : Nat} (hn : n ≤ 6) : (pairs n).length = n * (n - 1) ∧ (pairs n).Nodup := by
  have : n = 0 ∨ n = 1 ∨ n = 2 ∨ n = 3 ∨ n = 4 ∨ n = 5 ∨ n = 6 := by omega
  rcases this with rfl | rfl | rfl | rfl | rfl | rfl | rfl <;> decide
end Go.Proofs.Ythfkdepcnhhepaa
