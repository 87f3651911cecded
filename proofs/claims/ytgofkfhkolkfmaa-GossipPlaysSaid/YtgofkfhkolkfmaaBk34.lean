/-
  Lists that come of a map in some order: what comes of them hangs on no order. Nothing of any program stands here.
-/
import Derived.Test.YtgofkfhkolkfmaaBk33
namespace Go.Bk
open Go
set_option linter.unusedVariables false
set_option linter.unusedSimpArgs false

section
variable {κ ν : Type}
open Classical in
/-- A loop over a map: whatever the order, what comes of it is R-like one and the same. -/
noncomputable def rangeQ {σ β ρ : Type} (R : σ → σ → Prop) (m : κ → Option ν) (body : κ → ν → σ → Option (Ctl σ β ρ)) (s : σ) : Option σ :=
  if h : ∃ c, (∃ p, Enum m p) ∧ ∀ p, Enum m p → ∃ t, foldR body p s = some (.nxt t) ∧ R t c then some (Classical.choose h) else none
theorem rangeQ_spec {σ β ρ : Type} {R : σ → σ → Prop} {m : κ → Option ν} {body : κ → ν → σ → Option (Ctl σ β ρ)} {s c : σ} (h : rangeQ R m body s = some c) : (∃ p, Enum m p) ∧ ∀ p, Enum m p → ∃ t, foldR body p s = some (.nxt t) ∧ R t c := by
  unfold rangeQ at h
  split at h
  · rename_i hx
    have := Classical.choose_spec hx
    rw [Option.some.inj h] at this
    exact this
  · cases h
theorem rangeQ_of {σ β ρ : Type} {R : σ → σ → Prop} {m : κ → Option ν} {body : κ → ν → σ → Option (Ctl σ β ρ)} {s c : σ} (hp : ∃ p, Enum m p) (h : ∀ p, Enum m p → ∃ t, foldR body p s = some (.nxt t) ∧ R t c) : ∃ c', rangeQ R m body s = some c' := by
  have hx : ∃ c, (∃ p, Enum m p) ∧ ∀ p, Enum m p → ∃ t, foldR body p s = some (.nxt t) ∧ R t c := ⟨c, hp, h⟩
  exact ⟨_, by unfold rangeQ; rw [dif_pos hx]⟩
structure QInv {σ β ρ : Type} (R : σ → σ → Prop) (m : κ → Option ν) (body : κ → ν → σ → Option (Ctl σ β ρ)) (s0 c : σ) (q : List (κ × ν)) (s : σ) : Prop where
  sub : SubE m q
  now : foldR body q s0 = some (.nxt s)
  all : (∃ p, Enum m p) ∧ ∀ p, Enum m p → ∃ t, foldR body p s0 = some (.nxt t) ∧ R t c
theorem QInv.start {σ β ρ : Type} {R : σ → σ → Prop} {m : κ → Option ν} {body : κ → ν → σ → Option (Ctl σ β ρ)} {s0 c : σ} (h : rangeQ R m body s0 = some c) : QInv R m body s0 c [] s0 :=
  ⟨⟨List.nodup_nil, fun k v h => by cases h⟩, rfl, rangeQ_spec h⟩
theorem QInv.done {σ β ρ : Type} {R : σ → σ → Prop} {m : κ → Option ν} {body : κ → ν → σ → Option (Ctl σ β ρ)} {s0 s c : σ} {q : List (κ × ν)} (h : QInv R m body s0 c q s) (hd : ∀ k v, m k = some v → (k, v) ∈ q) : R s c := by
  obtain ⟨t, h1, h2⟩ := h.all.2 q (h.sub.full hd)
  rw [h.now] at h1
  obtain rfl : s = t := by simpa using h1
  exact h2
theorem QInv.more [DecidableEq κ] {σ β ρ : Type} {R : σ → σ → Prop} {m : κ → Option ν} {body : κ → ν → σ → Option (Ctl σ β ρ)} {s0 s c : σ} {q : List (κ × ν)} (h : QInv R m body s0 c q s) {k : κ} {v : ν} (hk : m k = some v) (hn : k ∉ q.map (·.1)) :
    ∃ s', body k v s = some (.nxt s') ∧ QInv R m body s0 c (q ++ [(k, v)]) s' := by
  obtain ⟨p, hp⟩ := h.all.1
  obtain ⟨r, hr⟩ := (h.sub.more hk hn).ext hp
  obtain ⟨t, h1, _⟩ := h.all.2 _ hr
  rw [List.append_assoc, foldR_app h.now, List.cons_append, List.nil_append, foldR_cons] at h1
  have h2 : foldR body (q ++ [(k, v)]) s0 = foldR body [(k, v)] s := foldR_app h.now
  cases c' : body k v s with
  | none => simp only [c'] at h1; cases h1
  | some d =>
    cases d with
    | nxt s' => exact ⟨s', rfl, h.sub.more hk hn, by rw [h2, foldR_cons]; simp only [c']; rfl, h.all⟩
    | brk b => simp only [c'] at h1; cases h1
    | ret b => simp only [c'] at h1; cases h1
open Classical in
/-- What comes of a list, whatever its order. -/
noncomputable def permK {α ω : Type} (c : List α) (k : List α → Option ω) : Option ω :=
  if h : ∃ r, ∀ l, l.Perm c → k l = some r then some (Classical.choose h) else none
theorem permK_spec {α ω : Type} {c : List α} {k : List α → Option ω} {r : ω} (h : permK c k = some r) (l : List α) (hl : l.Perm c) : k l = some r := by
  unfold permK at h
  split at h
  · rename_i hx
    have := Classical.choose_spec hx
    rw [Option.some.inj h] at this
    exact this l hl
  · cases h
theorem permK_of {α ω : Type} {c : List α} {k : List α → Option ω} {r : ω} (h : ∀ l, l.Perm c → k l = some r) : permK c k = some r := by
  have hx : ∃ r, ∀ l, l.Perm c → k l = some r := ⟨r, h⟩
  unfold permK
  rw [dif_pos hx]
  have := Classical.choose_spec hx c (List.Perm.refl c)
  rw [h c (List.Perm.refl c)] at this
  exact this.symm
end

section
variable {P : Program} {N : Nat} {B : World} {E : Env} {L : List HP} {ops : Array Oper} {rest : List Oper} {Q : Act → World → Prop} {X : Post}
variable {κ ν : Type} [DecidableEq κ] {m : κ → Option ν}
/-- A loop over a map, in its block, of which what comes hangs on the order. -/
theorem TC.rangeQ {σ ρ : Type} {id : Nat} {cd : Code} {R : σ → σ → Prop} {body : κ → ν → σ → Option (Ctl σ Unit ρ)} {s0 c : σ} (hm : Bk.rangeQ R m body s0 = some c) (Pre : List (κ × ν) → σ → Act → World → Prop) (Aft : σ → Act → World → Prop) (Ret : ρ → Act → World → Prop)
    (hb : ∀ q s, (∀ k v, m k = some v → k ∉ q.map (·.1) → ∃ c, body k v s = some c) → ∀ a w, Pre q s a w → cd.wp P
      (Post.q { nrm := fun a w => ∃ k v s', m k = some v ∧ k ∉ q.map (·.1) ∧ body k v s = some (.nxt s') ∧ Pre (q ++ [(k, v)]) s' a w
                ret := fun a w => ∃ k v r, m k = some v ∧ k ∉ q.map (·.1) ∧ body k v s = some (.ret r) ∧ Ret r a w
                ex := [(id, fun a w => (∀ k v, m k = some v → (k, v) ∈ q) ∧ Aft s a w)] }) a w)
    (h0 : ∀ a w, EnvOk N E a → St B L w → Pre [] s0 a w) (hnxt : ∀ s, R s c → ∀ a w, Aft s a w → X.nrm a w) : TC P N B (.block id (.loop cd)) E L X := by
  obtain ⟨⟨p, hp⟩, hall⟩ := rangeQ_spec hm
  refine TC.block fun a w e st => ?_
  have key : ∀ (n : Nat) (q : List (κ × ν)) (s : σ), QInv R m body s0 c q s → p.length + 1 ≤ q.length + n → ∀ a w, Pre q s a w → Code.rounds P cd (fun e a w => match e with
      | .exit i => i = id ∧ ∃ s, R s c ∧ Aft s a w
      | _ => False) n a w := by
    intro n
    induction n with
    | zero =>
      intro q s hi hn a w hpre
      have := hi.sub.len hp
      omega
    | succ n ih =>
      intro q s hi hn a w hpre
      rw [rounds_succ]
      refine wp_mono (hb q s (fun k v hk hq => by obtain ⟨c, hc, _⟩ := hi.more hk hq; exact ⟨_, hc⟩) a w hpre) ?_
      intro ex a w hq
      cases ex with
      | normal =>
        obtain ⟨k, v, s', hk, hn', hbd, hpre'⟩ := hq
        obtain ⟨c', hc, hc2⟩ := hi.more hk hn'
        rw [hbd] at hc
        obtain rfl : s' = c' := by simpa using hc
        exact ih (q ++ [(k, v)]) s' hc2 (by simp; omega) a w hpre'
      | exit i =>
        obtain ⟨M, hM, hMa⟩ := hq
        simp only [lkx] at hM
        cases hi' : Nat.beq i id with
        | false => rw [hi'] at hM; cases hM
        | true =>
          rw [hi'] at hM
          simp at hM
          subst hM
          obtain rfl := Nat.eq_of_beq_eq_true hi'
          exact ⟨rfl, s, hi.done hMa.1, hMa.2⟩
      | ret =>
        obtain ⟨k, v, r, hk, hn', hbd, hr⟩ := hq
        obtain ⟨c', hc, hc2⟩ := hi.more hk hn'
        rw [hbd] at hc
        cases hc
      | goto l => exact hq
      | panic c => exact hq
      | outgrown => exact hq
  refine wp_mono (wp_loop_rounds (p.length + 1) (key (p.length + 1) [] s0 (QInv.start hm) (by simp) a w (h0 a w e st))) ?_
  intro ex a w hq
  cases ex with
  | exit i =>
    obtain ⟨rfl, s, hs, ha⟩ := hq
    exact ⟨_, by simp [lkx], hnxt s hs a w ha⟩
  | ret => exact hq.elim
  | normal => exact hq.elim
  | goto l => exact hq.elim
  | panic c => exact hq.elim
  | outgrown => exact hq.elim
end

section
variable {P : Program} {N : Nat} {B : World} {E : Env} {L : List HP} {ops : Array Oper} {l : List Oper} {Q : Act → World → Prop}
/-- An own slice of which the order is not known. -/
def OwnP {α : Type} (e sz : Nat) (v : Value) (f : α → List Value) (c : List α) : HP := fun h => ∃ l : List α, l.Perm c ∧ OwnS e sz v (l.map f) h
variable {α : Type} {e sz : Nat} {v : Value} {f : α → List Value} {xs c : List α}
theorem Sat.toP {h : PH} (k : Nat) (hk : L[k]? = some (OwnS e sz v (xs.map f))) (hp : xs.Perm c) (s : Sat L h) : Sat (L.set k (OwnP e sz v f c)) h := Sat.at k hk (fun g o => ⟨xs, hp, o⟩) s
theorem Sat.exiAt {β : Type} {A : HP} {A' : β → HP} {φ : β → Prop} : ∀ {L : List HP} (k : Nat) {h : PH}, L[k]? = some A → (∀ g, A g → ∃ z, φ z ∧ A' z g) → Sat L h → ∃ z, φ z ∧ Sat (L.set k (A' z)) h
  | [], _, _, hk, _, _ => by simp at hk
  | B :: L, 0, h, hk, f, ⟨h1, h2, d, s1, s2, a, r⟩ => by
    simp at hk; subst hk
    obtain ⟨z, hz, az⟩ := f _ a
    exact ⟨z, hz, h1, h2, d, s1, s2, az, r⟩
  | B :: L, k + 1, h, hk, f, ⟨h1, h2, d, s1, s2, a, r⟩ => by
    obtain ⟨z, hz, sz⟩ := Sat.exiAt k (by simpa using hk) f r
    exact ⟨z, hz, h1, h2, d, s1, s2, a, sz⟩
theorem TO.openP (k : Nat) (hk : L[k]? = some (OwnP e sz v f c)) (h : ∀ xs : List α, xs.Perm c → TO P N B ops l E (L.set k (OwnS e sz v (xs.map f))) Q) : TO P N B ops l E L Q := fun a w en s => by
  obtain ⟨xs, hp, hs⟩ := Sat.exiAt (A' := fun xs : List α => OwnS e sz v (xs.map f)) (φ := fun xs => xs.Perm c) k hk (fun g ⟨xs, hp, o⟩ => ⟨xs, hp, o⟩) s.sat
  exact h xs hp a w en ⟨s.os, s.tape, s.output, hs⟩
end
end Go.Bk
