/-
  Maps as functions: what a key has, whatever the order in which the keys came. Nothing of any program stands here.
-/
import Derived.Test.YtgofkfhkolkfmaaBk21
import Derived.Maps.RangeRun
namespace Go.Bk
open Go
set_option linter.unusedVariables false
set_option linter.unusedSimpArgs false

section
variable {κ ν : Type}
/-- The entries of a finite map, in some order. -/
def Enum (m : κ → Option ν) (p : List (κ × ν)) : Prop := (p.map (·.1)).Nodup ∧ ∀ k v, (k, v) ∈ p ↔ m k = some v
/-- Some of the entries. -/
def SubE (m : κ → Option ν) (p : List (κ × ν)) : Prop := (p.map (·.1)).Nodup ∧ ∀ k v, (k, v) ∈ p → m k = some v
def mzero : κ → Option ν := fun _ => none
open Classical in
noncomputable def mlen (m : κ → Option ν) : Nat := if h : ∃ p, Enum m p then (Classical.choose h).length else 0
theorem Enum.sub {m : κ → Option ν} {p : List (κ × ν)} (h : Enum m p) : SubE m p := ⟨h.1, fun k v => (h.2 k v).1⟩
theorem nodup_fst {p : List (κ × ν)} (h : (p.map (·.1)).Nodup) : p.Nodup := by
  induction p with
  | nil => exact List.nodup_nil
  | cons x p ih =>
    rw [List.map_cons, List.nodup_cons] at h
    exact List.nodup_cons.2 ⟨fun hx => h.1 (List.mem_map.2 ⟨x, hx, rfl⟩), ih h.2⟩
theorem nodup_len {α : Type} : ∀ {p q : List α}, p.Nodup → (∀ x ∈ p, x ∈ q) → p.length ≤ q.length
  | [], q, _, _ => Nat.zero_le _
  | x :: p, q, h, hs => by
    obtain ⟨q1, q2, rfl⟩ := List.append_of_mem (hs x (by simp))
    rw [List.nodup_cons] at h
    have := nodup_len (q := q1 ++ q2) h.2 (fun y hy => by
      have h1 := hs y (List.mem_cons_of_mem x hy)
      simp only [List.mem_append, List.mem_cons] at h1 ⊢
      rcases h1 with h1 | rfl | h1
      · exact .inl h1
      · exact (h.1 hy).elim
      · exact .inr h1)
    simp only [List.length_append, List.length_cons] at this ⊢
    omega
theorem SubE.len {m : κ → Option ν} {p q : List (κ × ν)} (h : SubE m p) (g : Enum m q) : p.length ≤ q.length :=
  nodup_len (nodup_fst h.1) fun x hx => (g.2 x.1 x.2).2 (h.2 x.1 x.2 hx)
theorem Enum.len {m : κ → Option ν} {p q : List (κ × ν)} (h : Enum m p) (g : Enum m q) : p.length = q.length := Nat.le_antisymm (h.sub.len g) (g.sub.len h)
theorem mlen_of {m : κ → Option ν} {p : List (κ × ν)} (h : Enum m p) : mlen m = p.length := by
  have hx : ∃ p, Enum m p := ⟨p, h⟩
  unfold mlen
  rw [dif_pos hx]
  exact (Classical.choose_spec hx).len h
theorem Enum.zero : Enum (mzero : κ → Option ν) [] := ⟨List.nodup_nil, fun k v => by simp [mzero]⟩
theorem Enum.perm {m : κ → Option ν} {p q : List (κ × ν)} (h : Enum m p) (g : Enum m q) : p.Perm q :=
  (List.perm_ext_iff_of_nodup (nodup_fst h.1) (nodup_fst g.1)).2 fun x => (h.2 x.1 x.2).trans (g.2 x.1 x.2).symm

/-! Loops over a map: whatever the order, the same comes of them. -/
def foldR {σ β ρ : Type} (body : κ → ν → σ → Option (Ctl σ β ρ)) : List (κ × ν) → σ → Option (Ctl σ β ρ)
  | [], s => some (.nxt s)
  | x :: l, s => match body x.1 x.2 s with
    | some (.nxt s') => foldR body l s'
    | r => r
theorem foldR_app {σ β ρ : Type} {body : κ → ν → σ → Option (Ctl σ β ρ)} : ∀ {l : List (κ × ν)} {m : List (κ × ν)} {s t : σ}, foldR body l s = some (.nxt t) → foldR body (l ++ m) s = foldR body m t
  | [], m, s, t, h => by simp [foldR] at h; subst h; rfl
  | x :: l, m, s, t, h => by
    rw [List.cons_append, foldR]
    rw [foldR] at h
    cases c : body x.1 x.2 s with
    | none => rw [c] at h; cases h
    | some d =>
      cases d with
      | nxt s' => rw [c] at h; exact foldR_app h
      | brk b => rw [c] at h; cases h
      | ret r => rw [c] at h; cases h
theorem foldR_cons {σ β ρ : Type} {body : κ → ν → σ → Option (Ctl σ β ρ)} {x : κ × ν} {l : List (κ × ν)} {s : σ} : foldR body (x :: l) s = match body x.1 x.2 s with
    | some (.nxt s') => foldR body l s'
    | r => r := rfl
open Classical in
noncomputable def rangeM {σ β ρ : Type} (m : κ → Option ν) (body : κ → ν → σ → Option (Ctl σ β ρ)) (s : σ) : Option (Ctl σ β ρ) :=
  if h : ∃ c, (∃ p, Enum m p) ∧ ∀ p, Enum m p → foldR body p s = some c then some (Classical.choose h) else none
theorem rangeM_spec {σ β ρ : Type} {m : κ → Option ν} {body : κ → ν → σ → Option (Ctl σ β ρ)} {s : σ} {c : Ctl σ β ρ} (h : rangeM m body s = some c) : (∃ p, Enum m p) ∧ ∀ p, Enum m p → foldR body p s = some c := by
  unfold rangeM at h
  split at h
  · rename_i hx
    have := Classical.choose_spec hx
    rw [Option.some.inj h] at this
    exact this
  · cases h
theorem rangeM_of {σ β ρ : Type} {m : κ → Option ν} {body : κ → ν → σ → Option (Ctl σ β ρ)} {s : σ} {c : Ctl σ β ρ} {p : List (κ × ν)} (hp : Enum m p) (h : ∀ p, Enum m p → foldR body p s = some c) : rangeM m body s = some c := by
  have hx : ∃ c, (∃ p, Enum m p) ∧ ∀ p, Enum m p → foldR body p s = some c := ⟨c, ⟨p, hp⟩, h⟩
  unfold rangeM
  rw [dif_pos hx]
  have := (Classical.choose_spec hx).2 p hp
  rw [h p hp] at this
  exact this.symm
theorem SubE.more {m : κ → Option ν} {q : List (κ × ν)} (h : SubE m q) {k : κ} {v : ν} (hk : m k = some v) (hn : k ∉ q.map (·.1)) : SubE m (q ++ [(k, v)]) := by
  refine ⟨?_, ?_⟩
  · rw [List.map_append, List.nodup_append]
    exact ⟨h.1, by simp, fun a ha b hb => by simp at hb; subst hb; exact fun e => hn (e ▸ ha)⟩
  · intro j w hj
    rw [List.mem_append] at hj
    rcases hj with hj | hj
    · exact h.2 j w hj
    · simp at hj; obtain ⟨rfl, rfl⟩ := hj; exact hk
theorem SubE.full {m : κ → Option ν} {q : List (κ × ν)} (h : SubE m q) (hd : ∀ k v, m k = some v → (k, v) ∈ q) : Enum m q := ⟨h.1, fun k v => ⟨h.2 k v, hd k v⟩⟩
/-- What a round is sure of. -/
structure RInv {σ β ρ : Type} (m : κ → Option ν) (body : κ → ν → σ → Option (Ctl σ β ρ)) (s0 : σ) (o : Ctl σ β ρ) (q : List (κ × ν)) (s : σ) : Prop where
  sub : SubE m q
  now : foldR body q s0 = some (.nxt s)
  all : (∃ p, Enum m p) ∧ ∀ p, Enum m p → foldR body p s0 = some o
theorem RInv.start {σ β ρ : Type} {m : κ → Option ν} {body : κ → ν → σ → Option (Ctl σ β ρ)} {s0 : σ} {o : Ctl σ β ρ} (h : rangeM m body s0 = some o) : RInv m body s0 o [] s0 :=
  ⟨⟨List.nodup_nil, fun k v h => by cases h⟩, rfl, rangeM_spec h⟩
theorem RInv.done {σ β ρ : Type} {m : κ → Option ν} {body : κ → ν → σ → Option (Ctl σ β ρ)} {s0 s : σ} {o : Ctl σ β ρ} {q : List (κ × ν)} (h : RInv m body s0 o q s) (hd : ∀ k v, m k = some v → (k, v) ∈ q) : o = .nxt s := by
  have := h.all.2 q (h.sub.full hd)
  rw [h.now] at this
  exact (Option.some.inj this).symm

/-! The map in memory. -/
def Ents (kf : κ → Value) (vf : ν → Value) (l : List (κ × ν × Nat)) : List MapEntry := l.map fun x => ⟨kf x.1, vf x.2.1, x.2.2⟩
structure IsM (m : κ → Option ν) (l : List (κ × ν × Nat)) (clock : Nat) : Prop where
  keys : (l.map (·.1)).Nodup
  born : (l.map (·.2.2)).Nodup
  old : ∀ x ∈ l, x.2.2 < clock
  get : ∀ k v, m k = some v ↔ ∃ b, (k, v, b) ∈ l
/-- A map that the call owns. -/
def MF (kf : κ → Value) (vf : ν → Value) (r : Nat) (m : κ → Option ν) : HP := fun h => ∃ l clock, IsM m l clock ∧ h r = some (.map (Ents kf vf l).toArray clock)
theorem IsM.enum {m : κ → Option ν} {l : List (κ × ν × Nat)} {c : Nat} (h : IsM m l c) : Enum m (l.map fun x => (x.1, x.2.1)) := by
  refine ⟨by rw [List.map_map]; exact h.keys, fun k v => ?_⟩
  rw [h.get, List.mem_map]
  constructor
  · rintro ⟨x, hx, e⟩
    obtain ⟨rfl, rfl⟩ := Prod.mk.inj e
    exact ⟨x.2.2, hx⟩
  · rintro ⟨b, hb⟩; exact ⟨_, hb, rfl⟩
theorem MF.len {m : κ → Option ν} {l : List (κ × ν × Nat)} {c : Nat} (h : IsM m l c) : mlen m = l.length := by rw [mlen_of h.enum, List.length_map]
theorem ents_map {kf : κ → Value} {vf : ν → Value} (l : List (κ × ν × Nat)) : (Ents kf vf l).map (fun e => (e.key, e.val)) = (l.map fun x => (x.1, x.2.1)).map (fun x => (kf x.1, vf x.2)) := by
  simp [Ents]
end

section
variable {κ ν : Type} [DecidableEq κ]
def mupd (m : κ → Option ν) (k : κ) (v : ν) : κ → Option ν := fun j => if j = k then some v else m j
def mdel (m : κ → Option ν) (k : κ) : κ → Option ν := fun j => if j = k then none else m j
theorem Enum.upd {m : κ → Option ν} {p : List (κ × ν)} (h : Enum m p) (k : κ) (v : ν) : Enum (mupd m k v) ((p.filter fun x => decide (x.1 ≠ k)) ++ [(k, v)]) := by
  refine ⟨?_, ?_⟩
  · rw [List.map_append, List.nodup_append]
    refine ⟨(List.filter_sublist.map _).nodup h.1, by simp, ?_⟩
    intro a ha b hb
    simp at hb; subst hb
    rw [List.mem_map] at ha
    obtain ⟨x, hx, rfl⟩ := ha
    rw [List.mem_filter] at hx
    simpa using hx.2
  · intro j w
    unfold mupd
    rw [List.mem_append, List.mem_filter, h.2]
    by_cases e : j = k
    · subst e; simp [eq_comm]
    · simp [e]
theorem Enum.del {m : κ → Option ν} {p : List (κ × ν)} (h : Enum m p) (k : κ) : Enum (mdel m k) (p.filter fun x => decide (x.1 ≠ k)) := by
  refine ⟨(List.filter_sublist.map _).nodup h.1, ?_⟩
  intro j w
  unfold mdel
  rw [List.mem_filter, h.2]
  by_cases e : j = k
  · subst e; simp
  · simp [e]
theorem SubE.ext {m : κ → Option ν} {q p : List (κ × ν)} (h : SubE m q) (hp : Enum m p) : ∃ r, Enum m (q ++ r) := by
  refine ⟨p.filter fun x => decide (x.1 ∉ q.map (·.1)), ?_, ?_⟩
  · rw [List.map_append, List.nodup_append]
    refine ⟨h.1, (List.filter_sublist.map _).nodup hp.1, ?_⟩
    intro a ha b hb e
    subst e
    rw [List.mem_map] at hb
    obtain ⟨x, hx, rfl⟩ := hb
    rw [List.mem_filter] at hx
    have := hx.2
    simp only [decide_eq_true_eq] at this
    exact this ha
  · intro k v
    rw [List.mem_append, List.mem_filter]
    constructor
    · rintro (a | a)
      · exact h.2 k v a
      · exact (hp.2 k v).1 a.1
    · intro a
      by_cases c : k ∈ q.map (·.1)
      · left
        rw [List.mem_map] at c
        obtain ⟨x, hx, rfl⟩ := c
        have := h.2 x.1 x.2 hx
        rw [a] at this
        obtain rfl := Option.some.inj this
        exact hx
      · right; exact ⟨(hp.2 k v).2 a, by simpa using c⟩
theorem RInv.more {σ β ρ : Type} {m : κ → Option ν} {body : κ → ν → σ → Option (Ctl σ β ρ)} {s0 s : σ} {o : Ctl σ β ρ} {q : List (κ × ν)} (h : RInv m body s0 o q s) {k : κ} {v : ν} (hk : m k = some v) (hn : k ∉ q.map (·.1)) :
    ∃ c, body k v s = some c ∧ (match c with | .nxt s' => RInv m body s0 o (q ++ [(k, v)]) s' | c => o = c) := by
  obtain ⟨p, hp⟩ := h.all.1
  obtain ⟨r, hr⟩ := (h.sub.more hk hn).ext hp
  have h1 := h.all.2 _ hr
  rw [List.append_assoc, foldR_app h.now, List.cons_append, List.nil_append, foldR_cons] at h1
  have h2 : foldR body (q ++ [(k, v)]) s0 = foldR body [(k, v)] s := foldR_app h.now
  cases c : body k v s with
  | none => simp only [c] at h1; cases h1
  | some d =>
    refine ⟨d, rfl, ?_⟩
    cases d with
    | nxt s' => exact ⟨h.sub.more hk hn, by rw [h2, foldR_cons]; simp only [c]; rfl, h.all⟩
    | brk b => simp only [c] at h1; exact (Option.some.inj h1).symm
    | ret b => simp only [c] at h1; exact (Option.some.inj h1).symm
theorem IsM.fnd {m : κ → Option ν} {l : List (κ × ν × Nat)} {c : Nat} (h : IsM m l c) (k : κ) : (fndG k (l.map fun x => (x.1, x.2.1)) 0).map (·.2) = m k := by
  rw [fndG_val]
  cases hm : m k with
  | none =>
    unfold val?
    rw [List.find?_eq_none.2]; rfl
    intro x hx
    rw [List.mem_map] at hx
    obtain ⟨y, hy, rfl⟩ := hx
    simp only [decide_eq_true_eq]
    intro e
    have := (h.get k y.2.1).2 ⟨y.2.2, by rw [← e]; exact hy⟩
    rw [hm] at this; cases this
  | some v =>
    cases hv : val? (l.map fun x => (x.1, x.2.1)) k with
    | none =>
      unfold val? at hv
      obtain ⟨b, hb⟩ := (h.get k v).1 hm
      simp at hv
      exact (hv k v b hb rfl).elim
    | some u =>
      unfold val? at hv
      rw [Option.map_eq_some_iff] at hv
      obtain ⟨x, hx, rfl⟩ := hv
      have h1 := List.mem_of_find?_eq_some hx
      have h2 := List.find?_some hx
      simp only [decide_eq_true_eq] at h2
      rw [List.mem_map] at h1
      obtain ⟨y, hy, rfl⟩ := h1
      have := (h.get k y.2.1).2 ⟨y.2.2, by rw [← h2]; exact hy⟩
      rw [hm] at this; exact congrArg some (Option.some.inj this).symm
end
end Go.Bk
