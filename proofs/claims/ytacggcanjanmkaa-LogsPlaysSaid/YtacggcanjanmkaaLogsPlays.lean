/-
  The statement LogsPlaysSaid: for every input the call of the Go function beaconry/beaconrylaw.LogsPlays returns true, and each argument reads afterwards as it read before. No condition narrows the inputs.
-/
import Derived.Test.YtacggcanjanmkaaRows
import Derived.WalkKit
import Derived.ProofKit
import Derived.Test.YtacggcanjanmkaaBk6
import Derived.Test.YtacggcanjanmkaaHW
import Derived.Test.YtacggcanjanmkaaPw
import Derived.Test.YtacggcanjanmkaaHM
namespace Go.Proofs.Ytacggcanjanmkaa
open Go Go.Bk
set_option linter.unusedVariables false
set_option linter.unusedSimpArgs false
set_option linter.unusedSectionVars false

/-! Beginnings of lists. -/
theorem pre_get {α : Type} {l m : List α} (h : l <+: m) {k : Nat} {e : α} (g : l[k]? = some e) : m[k]? = some e := by
  obtain ⟨t, rfl⟩ := h
  rw [List.getElem?_append_left (List.getElem?_eq_some_iff.1 g).1]; exact g
theorem pre_len {α : Type} {l m : List α} (h : l <+: m) : l.length ≤ m.length := by
  obtain ⟨t, rfl⟩ := h; simp
theorem pre_of {α : Type} {a b l : List α} (h : a <+: l) (g : b <+: l) (c : a.length ≤ b.length) : a <+: b := List.prefix_of_prefix_length_le h g c
theorem pre_take {α : Type} {a b : List α} (h : a <+: b) : b.take a.length = a := by
  obtain ⟨t, rfl⟩ := h; simp
theorem pre_takes {α : Type} {a b : List α} (h : a <+: b) {k : Nat} (c : k ≤ a.length) : b.take k = a.take k := by
  obtain ⟨t, rfl⟩ := h; rw [List.take_append_of_le_length c]
theorem get_lt {α : Type} {l : List α} {k : Nat} {e : α} (g : l[k]? = some e) : k < l.length := (List.getElem?_eq_some_iff.1 g).1
theorem get_mem {α : Type} {l : List α} {k : Nat} {e : α} (g : l[k]? = some e) : e ∈ l := List.mem_of_getElem? g
theorem mem_get {α : Type} {l : List α} {e : α} (h : e ∈ l) : ∃ k : Nat, l[k]? = some e := List.mem_iff_getElem?.1 h

/-! How many. -/
theorem dec_iff (p : Prop) : @decide p (Classical.propDecidable p) = true ↔ p := @decide_eq_true_iff p (Classical.propDecidable p)
noncomputable def cnt (n : Nat) (p : Nat → Prop) : Nat := (List.range n).countP fun i => @decide (p i) (Classical.propDecidable _)
theorem cnt_mono {n : Nat} {p q : Nat → Prop} (h : ∀ i, i < n → p i → q i) : cnt n p ≤ cnt n q := by
  unfold cnt
  refine List.countP_mono_left fun x hx hp => ?_
  exact (dec_iff _).2 (h x (List.mem_range.1 hx) ((dec_iff _).1 hp))
theorem two_cnt {p q : Nat → Bool} : ∀ {l : List Nat}, (∀ x ∈ l, ¬ (p x = true ∧ q x = true)) → l.countP p + l.countP q ≤ l.length
  | [], _ => by simp
  | x :: l, h => by
    have ih := two_cnt (l := l) fun y hy => h y (List.mem_cons_of_mem _ hy)
    have hx := h x (by simp)
    rw [List.countP_cons, List.countP_cons, List.length_cons]
    by_cases a : p x = true <;> by_cases b : q x = true <;> simp [a, b] at hx ⊢ <;> omega
theorem meet {n : Nat} {p q : Nat → Prop} (h1 : n < 2 * cnt n p) (h2 : n < 2 * cnt n q) : ∃ i, i < n ∧ p i ∧ q i := by
  refine Classical.byContradiction fun c => ?_
  have := two_cnt (p := fun i => @decide (p i) (Classical.propDecidable _)) (q := fun i => @decide (q i) (Classical.propDecidable _)) (l := List.range n) fun x hx e => c ⟨x, List.mem_range.1 hx, (dec_iff _).1 e.1, (dec_iff _).1 e.2⟩
  rw [List.length_range] at this
  unfold cnt at h1 h2
  omega
theorem cnt_some {n : Nat} {p : Nat → Prop} (h : n < 2 * cnt n p) : ∃ i, i < n ∧ p i := by
  obtain ⟨i, a, b, _⟩ := meet h h
  exact ⟨i, a, b⟩
theorem nodup_len : ∀ {l m : List Int}, l.Nodup → (∀ x ∈ l, x ∈ m) → l.length ≤ m.length
  | [], m, _, _ => by simp
  | x :: l, m, h, s => by
    rw [List.nodup_cons] at h
    have hx : x ∈ m := s x (by simp)
    have := nodup_len (l := l) (m := m.erase x) h.2 fun y hy => (List.mem_erase_of_ne (fun e => h.1 (by rw [← e]; exact hy))).2 (s y (by simp [hy]))
    rw [List.length_erase_of_mem hx] at this
    have : 0 < m.length := List.length_pos_of_mem hx
    simp; omega
theorem cnt_list {n : Nat} {p : Nat → Prop} {l : List Int} (h : l.Nodup) (s : ∀ b ∈ l, ∃ i : Nat, i < n ∧ b = (i : Int) ∧ p i) : l.length ≤ cnt n p := by
  unfold cnt
  rw [List.countP_eq_length_filter]
  have := nodup_len (m := ((List.range n).filter fun i => @decide (p i) (Classical.propDecidable _)).map (fun i : Nat => (i : Int))) h fun x hx => by
    obtain ⟨i, a, e, b⟩ := s x hx
    refine List.mem_map.2 ⟨i, List.mem_filter.2 ⟨List.mem_range.2 a, (dec_iff _).2 b⟩, e.symm⟩
  simpa using this

/-! The state, and what has been. -/
abbrev En := Int × Int
structure Pr where
  tm : Int
  rl : Int
  vt : Int
  bs : List Int
  lg : List En
  su : Int
  hs : List Int
  nx : List Int
/-- Votes, who led, the logs of those who led, the logs of those who stood, and which beginnings were taken over. -/
structure Gh where
  vd : Nat → Int → Nat → Prop
  ld : Int → Nat → Prop
  ll : Int → List En
  cl : Int → Nat → List En
  ac : Nat → Int → Nat → Prop
def upd (f : Nat → Pr) (i : Nat) (y : Pr) : Nat → Pr := fun j => if j = i then y else f j
theorem upd_eq {f : Nat → Pr} {i : Nat} {y : Pr} : upd f i y i = y := if_pos rfl
theorem upd_ne {f : Nat → Pr} {i j : Nat} {y : Pr} (h : j ≠ i) : upd f i y j = f j := if_neg h
def Wf (g : Gh) (t : Int) (l : List En) : Prop := ∀ m e, l[m]? = some e → e.1 ≤ t ∧ (∃ c, g.ld e.1 c) ∧ l.take (m + 1) <+: g.ll e.1
def Pt (g : Gh) (T : Int) (k : Nat) : Prop := 0 < k ∧ ∃ v, (g.ll T)[k - 1]? = some (T, v)
def Sf (g : Gh) (T : Int) (k : Nat) (U : Int) : Prop := ∀ V c, T < V → V < U → g.ld V c → (g.ll T).take k <+: g.ll V
def Com (n : Nat) (g : Gh) (T : Int) (k : Nat) : Prop := Pt g T k ∧ n < 2 * cnt n fun j => g.ac j T k
/-- The votes that one has are votes for it. -/
def Bys (n : Nat) (g : Gh) (c : Nat) (y : Pr) : Prop := y.bs.Nodup ∧ ∀ b ∈ y.bs, ∃ i : Nat, i < n ∧ b = (i : Int) ∧ g.vd i y.tm c
/-- What one that leads knows of the others. -/
def Hn (n : Nat) (g : Gh) (y : Pr) : Prop := y.hs.length = n ∧ y.nx.length = n ∧ (∀ (j : Nat) (k : Int), y.hs[j]? = some k → 0 ≤ k ∧ ∀ m : Nat, 0 < m → (m : Int) ≤ k → g.ac j y.tm m) ∧ ∀ (j : Nat) (k : Int), y.nx[j]? = some k → 0 ≤ k ∧ k ≤ (y.lg.length : Int)
/-- What one takes to be sure is. -/
def Su (n : Nat) (g : Gh) (y : Pr) : Prop := 0 ≤ y.su ∧ y.su ≤ (y.lg.length : Int) ∧ (0 < y.su → ∃ T k, T ≤ y.tm ∧ Com n g T k ∧ y.lg.take y.su.toNat <+: (g.ll T).take k)
structure Inv (n : Nat) (f : Nat → Pr) (g : Gh) : Prop where
  t0 : ∀ i, 0 ≤ (f i).tm
  v1 : ∀ i U c, g.vd i U c → U ≤ (f i).tm
  v2 : ∀ i c, g.vd i (f i).tm c → (f i).vt = (c : Int)
  v3 : ∀ i U c d, g.vd i U c → g.vd i U d → c = d
  v4 : ∀ i U c, g.vd i U c → U ≤ (f c).tm
  b1 : ∀ c, (f c).rl = 1 → Bys n g c (f c)
  m0 : ∀ U c, g.ld U c → 0 < U
  m1 : ∀ U c, g.ld U c → n < 2 * cnt n fun i => g.vd i U c
  m2 : ∀ U c, g.ld U c → U ≤ (f c).tm
  s1 : ∀ c, (f c).rl = 1 → 0 < (f c).tm ∧ ¬ g.ld (f c).tm c ∧ g.cl (f c).tm c = (f c).lg ∧ ∀ e ∈ (f c).lg, e.1 < (f c).tm
  l1 : ∀ c, (f c).rl = 2 → g.ld (f c).tm c ∧ (f c).lg = g.ll (f c).tm ∧ ∀ k, k ≤ (f c).lg.length → g.ac c (f c).tm k
  w1 : ∀ i, Wf g (f i).tm (f i).lg
  w2 : ∀ U c, g.ld U c → Wf g U (g.ll U)
  c1 : ∀ U c, g.ld U c → g.cl U c <+: g.ll U
  a1 : ∀ j T k, g.ac j T k → T ≤ (f j).tm
  a2 : ∀ j T k, g.ac j T k → Pt g T k → Sf g T k ((f j).tm + 1) → (g.ll T).take k <+: (f j).lg
  a3 : ∀ j T k U c, g.ac j T k → Pt g T k → g.vd j U c → T < U → Sf g T k U → (g.ll T).take k <+: g.cl U c ∨ ∃ d, d ≠ c ∧ g.ld U d
  a4 : ∀ j T k, g.ac j T k → ∃ c, g.ld T c
  a5 : ∀ j T k, g.ac j T k → k ≤ (g.ll T).length
  h1 : ∀ c, (f c).rl = 2 → Hn n g (f c)
  u1 : ∀ i, Su n g (f i)

section
variable {n : Nat} {f : Nat → Pr} {g g' : Gh}
theorem Wf.mono {t t' : Int} {l : List En} (h : Wf g t l) (e : t ≤ t') : Wf g t' l := fun m x hx => by
  obtain ⟨a, b, c⟩ := h m x hx
  exact ⟨by omega, b, c⟩
theorem Sf.mono {T U U' : Int} {k : Nat} (h : Sf g T k U') (e : U ≤ U') : Sf g T k U := fun V c a b d => h V c a (by omega) d
theorem Pt.len {T : Int} {k : Nat} (h : Pt g T k) : k ≤ (g.ll T).length := by
  obtain ⟨a, v, q⟩ := h
  have := get_lt q; omega
theorem Com.ld {T : Int} {k : Nat} (I : Inv n f g) (h : Com n g T k) : ∃ c, g.ld T c := by
  obtain ⟨j, _, a⟩ := cnt_some h.2
  exact I.a4 j T k a
/-- One leads in a term. -/
theorem Inv.one (I : Inv n f g) {U : Int} {c d : Nat} (h : g.ld U c) (k : g.ld U d) : c = d := by
  obtain ⟨i, _, a, b⟩ := meet (I.m1 U c h) (I.m1 U d k)
  exact I.v3 i U c d a b
/-- What a majority has taken over is with all that lead later. -/
theorem Inv.keeps (I : Inv n f g) {T : Int} {k : Nat} (h : Com n g T k) : ∀ (m : Nat) (U : Int) (c : Nat), (U - T).toNat = m → T < U → g.ld U c → (g.ll T).take k <+: g.ll U := by
  intro m
  induction m using Nat.strongRecOn with
  | _ m ih =>
    intro U c hm hU hl
    have hs : Sf g T k U := fun V d a b e => ih (V - T).toNat (by omega) V d rfl a e
    obtain ⟨j, _, a, b⟩ := meet h.2 (I.m1 U c hl)
    rcases I.a3 j T k U c a h.1 b hU hs with q | ⟨d, q, r⟩
    · exact q.trans (I.c1 U c hl)
    · exact absurd (I.one r hl) q
/-- Two logs that have one entry's term in common are the same up to it. -/
theorem same_upto {a b : Int} {l l' : List En} (h : Wf g a l) (h' : Wf g b l') {m : Nat} {e e' : En} (q : l[m]? = some e) (q' : l'[m]? = some e') (c : e.1 = e'.1) : l.take (m + 1) = l'.take (m + 1) := by
  have x := (h m e q).2.2
  have y := (h' m e' q').2.2
  rw [← c] at y
  have l1 := get_lt q
  have l2 := get_lt q'
  have p := pre_of x y (by simp; omega)
  obtain ⟨t, ht⟩ := p
  have hl := congrArg List.length ht
  simp at hl
  have : t = [] := List.length_eq_zero_iff.1 (by omega)
  subst this; simpa using ht
/-- Terms grow along a log. -/
theorem Inv.terms (I : Inv n f g) {t : Int} {l : List En} (h : Wf g t l) {m m' : Nat} {e e' : En} (q : l[m]? = some e) (q' : l[m']? = some e') (c : m ≤ m') : e.1 ≤ e'.1 := by
  obtain ⟨_, ⟨d, hd⟩, p⟩ := h m' e' q'
  have : (l.take (m' + 1))[m]? = some e := by rw [List.getElem?_take_of_lt (by omega)]; exact q
  exact (I.w2 _ d hd m e (pre_get p this)).1
def lastOf (l : List En) : Int := match l.getLast? with
  | some e => e.1
  | none => 0
/-- As good as another log. -/
def Good (a b : List En) : Prop := lastOf b < lastOf a ∨ lastOf a = lastOf b ∧ b.length ≤ a.length
theorem last_get {l : List En} (h : 0 < l.length) : ∃ e, l[l.length - 1]? = some e ∧ lastOf l = e.1 := by
  cases hq : l.getLast? with
  | none => rw [List.getLast?_eq_none_iff] at hq; subst hq; simp at h
  | some e => exact ⟨e, by rw [← List.getLast?_eq_getElem?]; exact hq, by unfold lastOf; rw [hq]⟩
/-- A log as good as one that has what is sure has it, if all that led in between had it. -/
theorem Inv.good (I : Inv n f g) {T U a b : Int} {k : Nat} {lc lj : List En} {d : Nat} (hT : g.ld T d) (hp : Pt g T k) (hj : (g.ll T).take k <+: lj) (wj : Wf g b lj) (wc : Wf g a lc) (hc : ∀ e ∈ lc, e.1 < U) (hs : Sf g T k U) (hg : Good lc lj) : (g.ll T).take k <+: lc := by
  have hk := hp.len
  obtain ⟨k0, v, hv⟩ := hp
  have lp : ((g.ll T).take k).length = k := by simp; omega
  have hjl := pre_len hj
  have hT0 := I.m0 T d hT
  obtain ⟨ej, qj, bj⟩ := last_get (l := lj) (by omega)
  have hvj : lj[k - 1]? = some (T, v) := pre_get hj (by rw [List.getElem?_take_of_lt (by omega)]; exact hv)
  have hTb : T ≤ ej.1 := I.terms wj hvj qj (by omega)
  by_cases z : lc.length = 0
  · have : lc = [] := List.length_eq_zero_iff.1 z
    subst this
    have : lastOf [] = 0 := rfl
    unfold Good at hg
    rw [this, bj] at hg
    simp at hg; omega
  · obtain ⟨ec, qc, ac⟩ := last_get (l := lc) (by omega)
    obtain ⟨_, _, pc⟩ := wc _ _ qc
    have e1 : lc.length - 1 + 1 = lc.length := by omega
    rw [e1, List.take_length] at pc
    unfold Good at hg
    rw [ac, bj] at hg
    rcases hg with hg | ⟨hg, hl⟩
    · obtain ⟨_, ⟨x, hx⟩, _⟩ := wc _ _ qc
      have hP := hs ec.1 x (by omega) (hc _ (get_mem qc)) hx
      by_cases q : k ≤ lc.length
      · exact pre_of hP pc (by omega)
      · have q2 := pre_of pc hP (by omega)
        have := pre_get q2 qc
        rw [List.getElem?_take_of_lt (by omega)] at this
        have := (I.w2 T d hT _ _ this).1
        omega
    · obtain ⟨_, _, pj⟩ := wj _ _ qj
      have e2 : lj.length - 1 + 1 = lj.length := by omega
      rw [e2, List.take_length, ← hg] at pj
      exact hj.trans (pre_of pj pc hl)
end
end Go.Proofs.Ytacggcanjanmkaa

namespace Go.Proofs.Ytacggcanjanmkaa
open Go Go.Bk
set_option linter.unusedVariables false
set_option linter.unusedSimpArgs false
set_option linter.unusedSectionVars false
section
variable {n : Nat} {f : Nat → Pr} {g g' : Gh}
theorem Su.keep {y z : Pr} (h : Su n g y) (a : y.tm ≤ z.tm) (b : z.lg = y.lg) (c : z.su = y.su ∨ z.su = 0) : Su n g z := by
  obtain ⟨h1, h2, h3⟩ := h
  unfold Su
  rw [b]
  rcases c with c | c
  · rw [c]
    refine ⟨h1, h2, fun q => ?_⟩
    obtain ⟨T, k, r1, r2, r3⟩ := h3 q
    exact ⟨T, k, by omega, r2, r3⟩
  · rw [c]
    exact ⟨by omega, by omega, fun q => by omega⟩
/-- One that follows from now on, perhaps in a greater term. -/
theorem Inv.lower (I : Inv n f g) {i : Nat} {y : Pr} (a : (f i).tm ≤ y.tm) (b : y.tm = (f i).tm → y.vt = (f i).vt) (c : y.lg = (f i).lg) (d : y.rl = 0) (e : y.su = (f i).su ∨ y.su = 0) : Inv n (upd f i y) g := by
  have T : ∀ j, (f j).tm ≤ (upd f i y j).tm := fun j => by
    by_cases q : j = i
    · subst q; rw [upd_eq]; exact a
    · rw [upd_ne q]; exact Int.le_refl _
  have L : ∀ j, (upd f i y j).lg = (f j).lg := fun j => by
    by_cases q : j = i
    · subst q; rw [upd_eq]; exact c
    · rw [upd_ne q]
  refine ⟨fun j => Int.le_trans (I.t0 j) (T j), fun j U x h => Int.le_trans (I.v1 j U x h) (T j), fun j x h => ?_, I.v3, fun j U x h => Int.le_trans (I.v4 j U x h) (T x), fun j h => ?_, I.m0, I.m1, fun U x h => Int.le_trans (I.m2 U x h) (T x), fun j h => ?_, fun j h => ?_,
    fun j => by rw [L]; exact (I.w1 j).mono (T j), I.w2, I.c1, fun j t k h => Int.le_trans (I.a1 j t k h) (T j), fun j t k h p s => by rw [L]; exact I.a2 j t k h p (s.mono (by have := T j; omega)), I.a3, I.a4, I.a5, fun j h => ?_, fun j => ?_⟩
  · by_cases q : j = i
    · subst q
      rw [upd_eq] at h ⊢
      have := I.v1 j _ _ h
      have e : y.tm = (f j).tm := by omega
      rw [b e]; rw [e] at h; exact I.v2 j x h
    · rw [upd_ne q] at h ⊢; exact I.v2 j x h
  · by_cases q : j = i
    · subst q; rw [upd_eq, d] at h; omega
    · rw [upd_ne q] at h ⊢; exact I.b1 j h
  · by_cases q : j = i
    · subst q; rw [upd_eq, d] at h; omega
    · rw [upd_ne q] at h ⊢; exact I.s1 j h
  · by_cases q : j = i
    · subst q; rw [upd_eq, d] at h; omega
    · rw [upd_ne q] at h ⊢; exact I.l1 j h
  · by_cases q : j = i
    · subst q; rw [upd_eq, d] at h; omega
    · rw [upd_ne q] at h ⊢; exact I.h1 j h
  · by_cases q : j = i
    · subst q; rw [upd_eq]; exact (I.u1 j).keep a c e
    · rw [upd_ne q]; exact I.u1 j
/-- What changes neither term nor role nor vote nor log. -/
theorem Inv.minor (I : Inv n f g) {i : Nat} {y : Pr} (a : y.tm = (f i).tm) (b : y.rl = (f i).rl) (c : y.vt = (f i).vt) (d : y.lg = (f i).lg) (hb : y.rl = 1 → Bys n g i y) (hh : y.rl = 2 → Hn n g y) (hu : Su n g y) : Inv n (upd f i y) g := by
  have T : ∀ j, (upd f i y j).tm = (f j).tm := fun j => by
    by_cases q : j = i
    · subst q; rw [upd_eq]; exact a
    · rw [upd_ne q]
  have L : ∀ j, (upd f i y j).lg = (f j).lg := fun j => by
    by_cases q : j = i
    · subst q; rw [upd_eq]; exact d
    · rw [upd_ne q]
  have R : ∀ j, (upd f i y j).rl = (f j).rl := fun j => by
    by_cases q : j = i
    · subst q; rw [upd_eq]; exact b
    · rw [upd_ne q]
  have V : ∀ j, (upd f i y j).vt = (f j).vt := fun j => by
    by_cases q : j = i
    · subst q; rw [upd_eq]; exact c
    · rw [upd_ne q]
  refine ⟨fun j => by rw [T]; exact I.t0 j, fun j U x h => by rw [T]; exact I.v1 j U x h, fun j x h => by rw [T] at h; rw [V]; exact I.v2 j x h, I.v3, fun j U x h => by rw [T]; exact I.v4 j U x h, fun j h => ?_, I.m0, I.m1, fun U x h => by rw [T]; exact I.m2 U x h,
    fun j h => by rw [R] at h; rw [T, L]; exact I.s1 j h, fun j h => by rw [R] at h; rw [T, L]; exact I.l1 j h, fun j => by rw [T, L]; exact I.w1 j, I.w2, I.c1, fun j t k h => by rw [T]; exact I.a1 j t k h,
    fun j t k h p s => by rw [L]; rw [T] at s; exact I.a2 j t k h p s, I.a3, I.a4, I.a5, fun j h => ?_, fun j => ?_⟩
  · by_cases q : j = i
    · subst q; rw [upd_eq] at h ⊢; exact hb h
    · rw [upd_ne q] at h ⊢; exact I.b1 j h
  · by_cases q : j = i
    · subst q; rw [upd_eq] at h ⊢; exact hh h
    · rw [upd_ne q] at h ⊢; exact I.h1 j h
  · by_cases q : j = i
    · subst q; rw [upd_eq]; exact hu
    · rw [upd_ne q]; exact I.u1 j
/-- One stands for the next term. -/
theorem Inv.stand (I : Inv n f g) {i : Nat} (hi : i < n) {y : Pr} (a : y.tm = (f i).tm + 1) (b : y.rl = 1) (c : y.vt = (i : Int)) (d : y.lg = (f i).lg) (e : y.su = (f i).su) (hb : y.bs = []) : ∃ g', Inv n (upd f i y) g' ∧ g'.vd i y.tm i := by
  have T : ∀ j, (f j).tm ≤ (upd f i y j).tm := fun j => by
    by_cases q : j = i
    · subst q; rw [upd_eq]; omega
    · rw [upd_ne q]; exact Int.le_refl _
  have L : ∀ j, (upd f i y j).lg = (f j).lg := fun j => by
    by_cases q : j = i
    · subst q; rw [upd_eq]; exact d
    · rw [upd_ne q]
  have nl : ¬ g.ld ((f i).tm + 1) i := fun h => by have := I.m2 _ _ h; omega
  refine ⟨{ g with vd := fun j U x => g.vd j U x ∨ (j = i ∧ U = (f i).tm + 1 ∧ x = i), cl := fun U x => if U = (f i).tm + 1 ∧ x = i then (f i).lg else g.cl U x }, ?_, .inr ⟨rfl, a, rfl⟩⟩
  have CL : ∀ U x, ¬ (U = (f i).tm + 1 ∧ x = i) → (if U = (f i).tm + 1 ∧ x = i then (f i).lg else g.cl U x) = g.cl U x := fun U x h => if_neg h
  have CE : (if (f i).tm + 1 = (f i).tm + 1 ∧ i = i then (f i).lg else g.cl ((f i).tm + 1) i) = (f i).lg := if_pos ⟨rfl, rfl⟩
  refine ⟨fun j => Int.le_trans (I.t0 j) (T j), ?_, ?_, ?_, ?_, ?_, I.m0, ?_, fun U x h => Int.le_trans (I.m2 U x h) (T x), ?_, ?_, fun j => by rw [L]; exact (I.w1 j).mono (T j), I.w2, ?_, fun j t k h => Int.le_trans (I.a1 j t k h) (T j),
    fun j t k h p s => by rw [L]; exact I.a2 j t k h p (s.mono (by have := T j; omega)), ?_, I.a4, I.a5, ?_, ?_⟩
  · rintro j U x (h | ⟨rfl, rfl, rfl⟩)
    · exact Int.le_trans (I.v1 j U x h) (T j)
    · rw [upd_eq]; omega
  · rintro j x (h | ⟨rfl, h, rfl⟩)
    · by_cases q : j = i
      · subst q
        rw [upd_eq] at h ⊢
        have := I.v1 j _ _ h; omega
      · rw [upd_ne q] at h ⊢; exact I.v2 j x h
    · rw [upd_eq]; exact c
  · rintro j U x z (h | ⟨rfl, rfl, rfl⟩) (k | ⟨k1, k2, rfl⟩)
    · exact I.v3 j U x z h k
    · subst k1; subst k2; have := I.v1 _ _ _ h; omega
    · have := I.v1 _ _ _ k; omega
    · rfl
  · rintro j U x (h | ⟨rfl, rfl, rfl⟩)
    · exact Int.le_trans (I.v4 j U x h) (T x)
    · rw [upd_eq]; omega
  · intro j h
    by_cases q : j = i
    · subst q
      rw [upd_eq]
      refine ⟨by rw [hb]; simp, fun x hx => ?_⟩
      rw [hb] at hx
      simp at hx
    · rw [upd_ne q] at h ⊢
      obtain ⟨h1, h2⟩ := I.b1 j h
      exact ⟨h1, fun x hx => by obtain ⟨z, z1, z2, z3⟩ := h2 x hx; exact ⟨z, z1, z2, .inl z3⟩⟩
  · intro U x h
    exact Nat.lt_of_lt_of_le (I.m1 U x h) (Nat.mul_le_mul_left 2 (cnt_mono fun z _ hz => .inl hz))
  · intro j h
    by_cases q : j = i
    · subst q
      rw [upd_eq, a, d]
      exact ⟨by have := I.t0 j; omega, nl, CE, fun z hz => by
        obtain ⟨m, hm⟩ := mem_get hz
        have := (I.w1 j m z hm).1; omega⟩
    · rw [upd_ne q] at h ⊢
      obtain ⟨h1, h2, h3, h4⟩ := I.s1 j h
      exact ⟨h1, h2, (CL _ _ (fun z => q z.2)).trans h3, h4⟩
  · intro j h
    by_cases q : j = i
    · subst q; rw [upd_eq, b] at h; omega
    · rw [upd_ne q] at h ⊢; exact I.l1 j h
  · intro U x h
    have q : ¬ (U = (f i).tm + 1 ∧ x = i) := by rintro ⟨rfl, rfl⟩; exact nl h
    show (if U = (f i).tm + 1 ∧ x = i then (f i).lg else g.cl U x) <+: _
    rw [CL U x q]; exact I.c1 U x h
  · rintro j t k U x h p (hv | ⟨rfl, rfl, rfl⟩) u s
    · have q : ¬ (U = (f i).tm + 1 ∧ x = i) := by rintro ⟨rfl, rfl⟩; have := I.v4 _ _ _ hv; omega
      show (_ <+: if U = (f i).tm + 1 ∧ x = i then (f i).lg else g.cl U x) ∨ _
      rw [CL U x q]; exact I.a3 j t k U x h p hv u s
    · left
      have := I.a2 _ t k h p s
      rw [← CE] at this; exact this
  · intro j h
    by_cases q : j = i
    · subst q; rw [upd_eq, b] at h; omega
    · rw [upd_ne q] at h ⊢; exact I.h1 j h
  · intro j
    by_cases q : j = i
    · subst q; rw [upd_eq]; exact (I.u1 j).keep (by omega) d (.inl e)
    · rw [upd_ne q]; exact I.u1 j
/-- One votes. -/
theorem Inv.vote (I : Inv n f g) {i c : Nat} (hi : i < n) {y : Pr} (hr : (f c).rl = 1) (ht : (f i).tm = (f c).tm) (hv : (f i).vt < 0 ∨ (f i).vt = (c : Int)) (hg : Good (f c).lg (f i).lg) (a : y = { f i with vt := (c : Int) }) :
    ∃ g', Inv n (upd f i y) g' ∧ g'.vd i (f c).tm c ∧ ∀ j U x, g.vd j U x → g'.vd j U x := by
  subst a
  have T : ∀ j, (upd f i { f i with vt := (c : Int) } j).tm = (f j).tm := fun j => by
    by_cases q : j = i
    · subst q; rw [upd_eq]
    · rw [upd_ne q]
  have L : ∀ j, (upd f i { f i with vt := (c : Int) } j).lg = (f j).lg := fun j => by
    by_cases q : j = i
    · subst q; rw [upd_eq]
    · rw [upd_ne q]
  have R : ∀ j, (upd f i { f i with vt := (c : Int) } j).rl = (f j).rl := fun j => by
    by_cases q : j = i
    · subst q; rw [upd_eq]
    · rw [upd_ne q]
  have BS : ∀ j, (upd f i { f i with vt := (c : Int) } j).bs = (f j).bs := fun j => by
    by_cases q : j = i
    · subst q; rw [upd_eq]
    · rw [upd_ne q]
  obtain ⟨s1, s2, s3, s4⟩ := I.s1 c hr
  refine ⟨{ g with vd := fun j U x => g.vd j U x ∨ (j = i ∧ U = (f c).tm ∧ x = c) }, ?_, .inr ⟨rfl, rfl, rfl⟩, fun j U x h => .inl h⟩
  have old : ∀ x, g.vd i (f c).tm x → x = c := fun x h => by
    rw [← ht] at h
    have := I.v2 i x h
    omega
  refine ⟨fun j => by rw [T]; exact I.t0 j, ?_, ?_, ?_, ?_, fun j h => ?_, I.m0, ?_, fun U x h => by rw [T]; exact I.m2 U x h,
    fun j h => by rw [R] at h; rw [T, L]; exact I.s1 j h, fun j h => by rw [R] at h; rw [T, L]; exact I.l1 j h, fun j => by rw [T, L]; exact I.w1 j, I.w2, I.c1, fun j t k h => by rw [T]; exact I.a1 j t k h,
    fun j t k h p s => by rw [L]; rw [T] at s; exact I.a2 j t k h p s, ?_, I.a4, I.a5, fun j h => ?_, fun j => ?_⟩
  · rintro j U x (h | ⟨rfl, rfl, rfl⟩)
    · rw [T]; exact I.v1 j U x h
    · rw [T]; omega
  · rintro j x (h | ⟨rfl, h, rfl⟩)
    · rw [T] at h
      by_cases q : j = i
      · subst q; rw [upd_eq]
        rw [ht] at h
        rw [old x h]
      · rw [upd_ne q]; exact I.v2 j x h
    · rw [upd_eq]
  · rintro j U x z (h | ⟨rfl, rfl, rfl⟩) (k | ⟨k1, k2, rfl⟩)
    · exact I.v3 j U x z h k
    · subst k1; subst k2; exact old x h
    · exact (old z k).symm
    · rfl
  · rintro j U x (h | ⟨rfl, rfl, rfl⟩)
    · rw [T]; exact I.v4 j U x h
    · rw [T]; exact Int.le_refl _
  · rw [R] at h
    obtain ⟨h1, h2⟩ := I.b1 j h
    unfold Bys
    rw [BS, T]
    exact ⟨h1, fun x hx => by obtain ⟨z, z1, z2, z3⟩ := h2 x hx; exact ⟨z, z1, z2, .inl z3⟩⟩
  · intro U x h
    exact Nat.lt_of_lt_of_le (I.m1 U x h) (Nat.mul_le_mul_left 2 (cnt_mono fun z _ hz => .inl hz))
  · rintro j t k U x h p (hv | ⟨rfl, rfl, rfl⟩) u s
    · exact I.a3 j t k U x h p hv u s
    · by_cases z : ∃ d, d ≠ x ∧ g.ld (f x).tm d
      · exact .inr z
      · left
        have s' : Sf g t k ((f j).tm + 1) := fun V d q1 q2 q3 => by
          by_cases e : V = (f x).tm
          · subst e
            by_cases e2 : d = x
            · subst e2; exact absurd q3 s2
            · exact absurd ⟨d, e2, q3⟩ z
          · exact s V d q1 (by omega) q3
        obtain ⟨d, hd⟩ := I.a4 _ _ _ h
        have := I.good hd p (I.a2 j t k h p s') (I.w1 j) (I.w1 x) s4 s hg
        show _ <+: g.cl (f x).tm x
        rw [s3]; exact this
  · rw [R] at h
    have := I.h1 j h
    by_cases q : j = i
    · subst q; rw [upd_eq]; exact this
    · rw [upd_ne q]; exact this
  · by_cases q : j = i
    · subst q; rw [upd_eq]; exact I.u1 j
    · rw [upd_ne q]; exact I.u1 j
end
end Go.Proofs.Ytacggcanjanmkaa

namespace Go.Proofs.Ytacggcanjanmkaa
open Go Go.Bk
set_option linter.unusedVariables false
set_option linter.unusedSimpArgs false
set_option linter.unusedSectionVars false
section
variable {n : Nat} {f : Nat → Pr} {g g' : Gh}
/-- One that stands has a majority, and leads. -/
theorem Inv.elect (I : Inv n f g) {c : Nat} {y : Pr} (hr : (f c).rl = 1) (hm : n < 2 * (f c).bs.length) (a : y = { f c with rl := 2, hs := List.replicate n 0, nx := List.replicate n ((f c).lg.length : Int) }) : ∃ g', Inv n (upd f c y) g' := by
  subst a
  obtain ⟨s1, s2, s3, s4⟩ := I.s1 c hr
  obtain ⟨b1, b2⟩ := I.b1 c hr
  have maj : n < 2 * cnt n fun i => g.vd i (f c).tm c := by
    have := cnt_list b1 b2; omega
  have NL : ∀ d, ¬ g.ld (f c).tm d := fun d h => by
    obtain ⟨i, _, x, z⟩ := meet maj (I.m1 _ d h)
    have := I.v3 i _ _ _ x z
    subst this; exact s2 h
  have T : ∀ j, (upd f c { f c with rl := 2, hs := List.replicate n 0, nx := List.replicate n ((f c).lg.length : Int) } j).tm = (f j).tm := fun j => by
    by_cases q : j = c
    · subst q; rw [upd_eq]
    · rw [upd_ne q]
  have L : ∀ j, (upd f c { f c with rl := 2, hs := List.replicate n 0, nx := List.replicate n ((f c).lg.length : Int) } j).lg = (f j).lg := fun j => by
    by_cases q : j = c
    · subst q; rw [upd_eq]
    · rw [upd_ne q]
  have V : ∀ j, (upd f c { f c with rl := 2, hs := List.replicate n 0, nx := List.replicate n ((f c).lg.length : Int) } j).vt = (f j).vt := fun j => by
    by_cases q : j = c
    · subst q; rw [upd_eq]
    · rw [upd_ne q]
  generalize hF : upd f c { f c with rl := 2, hs := List.replicate n 0, nx := List.replicate n ((f c).lg.length : Int) } = F at *
  have Fc : F c = { f c with rl := 2, hs := List.replicate n 0, nx := List.replicate n ((f c).lg.length : Int) } := by rw [← hF, upd_eq]
  have Fj : ∀ j, j ≠ c → F j = f j := fun j q => by rw [← hF, upd_ne q]
  generalize hG : ({ g with ld := fun U d => g.ld U d ∨ (U = (f c).tm ∧ d = c), ll := fun U => if U = (f c).tm then (f c).lg else g.ll U, ac := fun j t k => g.ac j t k ∨ (j = c ∧ t = (f c).tm ∧ k ≤ (f c).lg.length) } : Gh) = G
  have gl : ∀ U d, G.ld U d ↔ g.ld U d ∨ (U = (f c).tm ∧ d = c) := fun U d => by rw [← hG]
  have gv : G.vd = g.vd := by rw [← hG]
  have gc : G.cl = g.cl := by rw [← hG]
  have ga : ∀ j t k, G.ac j t k ↔ g.ac j t k ∨ (j = c ∧ t = (f c).tm ∧ k ≤ (f c).lg.length) := fun j t k => by rw [← hG]
  have le : G.ll (f c).tm = (f c).lg := by rw [← hG]; exact if_pos rfl
  have ln : ∀ U, U ≠ (f c).tm → G.ll U = g.ll U := fun U q => by rw [← hG]; exact if_neg q
  have ll : ∀ U d, g.ld U d → G.ll U = g.ll U := fun U d q => ln U fun e => NL d (e ▸ q)
  have WF : ∀ t l, Wf g t l → Wf G t l := fun t l h m e he => by
    obtain ⟨r1, ⟨d, r2⟩, r3⟩ := h m e he
    exact ⟨r1, ⟨d, (gl _ _).2 (.inl r2)⟩, by rw [ll _ d r2]; exact r3⟩
  have PT : ∀ t k, Pt G t k → t ≠ (f c).tm := by
    rintro t k ⟨q0, v, q⟩ rfl
    rw [le] at q
    have := s4 _ (get_mem q)
    simp at this
  have PG : ∀ t k, t ≠ (f c).tm → (Pt G t k ↔ Pt g t k) := fun t k q => by unfold Pt; rw [ln t q]
  have SF : ∀ t k U, t ≠ (f c).tm → Sf G t k U → Sf g t k U := fun t k U q h X d q1 q2 q3 => by
    have := h X d q1 q2 ((gl _ _).2 (.inl q3))
    rw [ln t q, ll X d q3] at this; exact this
  have AC : ∀ j t k, t ≠ (f c).tm → G.ac j t k → g.ac j t k := fun j t k q h => by
    rcases (ga j t k).1 h with h | ⟨_, h, _⟩
    · exact h
    · exact absurd h q
  have CM : ∀ t k, Com n g t k → Com n G t k := fun t k h => by
    obtain ⟨d, hd⟩ := h.ld I
    have q : t ≠ (f c).tm := fun e => NL d (e ▸ hd)
    exact ⟨(PG t k q).2 h.1, Nat.lt_of_lt_of_le h.2 (Nat.mul_le_mul_left 2 (cnt_mono fun z _ hz => (ga _ _ _).2 (.inl hz)))⟩
  refine ⟨G, ⟨fun j => by rw [T]; exact I.t0 j, fun j U x h => by rw [T]; rw [gv] at h; exact I.v1 j U x h, fun j x h => by rw [T, gv] at h; rw [V]; exact I.v2 j x h, by rw [gv]; exact I.v3, fun j U x h => by rw [T]; rw [gv] at h; exact I.v4 j U x h,
    fun j h => ?_, fun U d h => ?_, fun U d h => ?_, fun U d h => ?_, fun j h => ?_, fun j h => ?_, fun j => by rw [T, L]; exact WF _ _ (I.w1 j), fun U d h => ?_, fun U d h => ?_, fun j t k h => ?_, fun j t k h p s => ?_, fun j t k U x h p v u s => ?_, fun j t k h => ?_, fun j t k h => ?_, fun j h => ?_, fun j => ?_⟩⟩
  · by_cases q : j = c
    · subst q; rw [Fc] at h; simp at h
    · rw [Fj j q] at h ⊢
      obtain ⟨h1, h2⟩ := I.b1 j h
      exact ⟨h1, fun x hx => by obtain ⟨z, z1, z2, z3⟩ := h2 x hx; exact ⟨z, z1, z2, by rw [gv]; exact z3⟩⟩
  · rcases (gl U d).1 h with h | ⟨rfl, _⟩
    · exact I.m0 U d h
    · exact s1
  · rw [gv]
    rcases (gl U d).1 h with h | ⟨rfl, rfl⟩
    · exact I.m1 U d h
    · exact maj
  · rw [T]
    rcases (gl U d).1 h with h | ⟨rfl, rfl⟩
    · exact I.m2 U d h
    · exact Int.le_refl _
  · by_cases q : j = c
    · subst q; rw [Fc] at h; simp at h
    · rw [Fj j q] at h ⊢
      obtain ⟨h1, h2, h3, h4⟩ := I.s1 j h
      refine ⟨h1, fun e => ?_, by rw [gc]; exact h3, h4⟩
      rcases (gl _ _).1 e with e | ⟨_, e⟩
      · exact h2 e
      · exact q e
  · rw [T, L]
    by_cases q : j = c
    · subst q
      exact ⟨(gl _ _).2 (.inr ⟨rfl, rfl⟩), le.symm, fun k hk => (ga _ _ _).2 (.inr ⟨rfl, rfl, hk⟩)⟩
    · rw [Fj j q] at h
      obtain ⟨h1, h2, h3⟩ := I.l1 j h
      exact ⟨(gl _ _).2 (.inl h1), by rw [ll _ j h1]; exact h2, fun k hk => (ga _ _ _).2 (.inl (h3 k hk))⟩
  · rcases (gl U d).1 h with h | ⟨rfl, rfl⟩
    · rw [ll U d h]; exact WF _ _ (I.w2 U d h)
    · rw [le]; exact WF _ _ (I.w1 d)
  · rw [gc]
    rcases (gl U d).1 h with h | ⟨rfl, rfl⟩
    · rw [ll U d h]; exact I.c1 U d h
    · rw [le, s3]; exact List.prefix_rfl
  · rw [T]
    rcases (ga j t k).1 h with h | ⟨rfl, rfl, _⟩
    · exact I.a1 j t k h
    · exact Int.le_refl _
  · have q := PT t k p
    rw [T] at s
    rw [L, ln t q]
    exact I.a2 j t k (AC j t k q h) ((PG t k q).1 p) (SF t k _ q s)
  · have q := PT t k p
    rw [gv] at v
    rw [gc, ln t q]
    rcases I.a3 j t k U x (AC j t k q h) ((PG t k q).1 p) v u (SF t k _ q s) with r | ⟨d, r1, r2⟩
    · exact .inl r
    · exact .inr ⟨d, r1, (gl _ _).2 (.inl r2)⟩
  · rcases (ga j t k).1 h with h | ⟨rfl, rfl, _⟩
    · obtain ⟨d, hd⟩ := I.a4 j t k h
      exact ⟨d, (gl _ _).2 (.inl hd)⟩
    · exact ⟨j, (gl _ _).2 (.inr ⟨rfl, rfl⟩)⟩
  · rcases (ga j t k).1 h with h | ⟨rfl, rfl, e⟩
    · obtain ⟨d, hd⟩ := I.a4 j t k h
      rw [ll t d hd]; exact I.a5 j t k h
    · rw [le]; exact e
  · by_cases q : j = c
    · subst q; rw [Fc]
      refine ⟨by simp, by simp, fun x k hk => ?_, fun x k hk => ?_⟩
      · rw [List.getElem?_replicate] at hk
        split at hk
        · obtain rfl := Option.some.inj hk
          exact ⟨by omega, fun m h1 h2 => by omega⟩
        · cases hk
      · rw [List.getElem?_replicate] at hk
        split at hk
        · obtain rfl := Option.some.inj hk
          exact ⟨by omega, by simp⟩
        · cases hk
    · rw [Fj j q] at h ⊢
      obtain ⟨h1, h2, h3, h4⟩ := I.h1 j h
      exact ⟨h1, h2, fun x k hk => ⟨(h3 x k hk).1, fun m m1 m2 => (ga _ _ _).2 (.inl ((h3 x k hk).2 m m1 m2))⟩, h4⟩
  · have : Su n G (f j) := by
      obtain ⟨h1, h2, h3⟩ := I.u1 j
      refine ⟨h1, h2, fun q => ?_⟩
      obtain ⟨t, k, r1, r2, r3⟩ := h3 q
      obtain ⟨d, hd⟩ := r2.ld I
      exact ⟨t, k, r1, CM t k r2, by rw [ll t d hd]; exact r3⟩
    by_cases q : j = c
    · subst q; rw [Fc]; exact this
    · rw [Fj j q]; exact this
/-- One that leads hands its log over. -/
theorem Inv.send (I : Inv n f g) {i j : Nat} (hij : j ≠ i) {y : Pr} {lg' : List En} {su' : Int} (hr : (f i).rl = 2) (hj : (f j).rl = 0) (ht : (f j).tm = (f i).tm) (hl : (f i).lg <+: lg') (hw : lg' = (f i).lg ∨ lg' = (f j).lg)
    (hs : su' = (f i).su ∧ (f j).su ≤ (f i).su ∨ su' = (f j).su ∧ (f i).su ≤ (f j).su) (a : y = { f j with lg := lg', su := su' }) :
    ∃ g', Inv n (upd f j y) g' ∧ (∀ k, k ≤ (f i).lg.length → g'.ac j (f i).tm k) ∧ ∀ x t k, g.ac x t k → g'.ac x t k := by
  subst a
  obtain ⟨l1, l2, l3⟩ := I.l1 i hr
  generalize hF : upd f j { f j with lg := lg', su := su' } = F
  have Fc : F j = { f j with lg := lg', su := su' } := by rw [← hF, upd_eq]
  have Fj : ∀ x, x ≠ j → F x = f x := fun x q => by rw [← hF, upd_ne q]
  have T : ∀ x, (F x).tm = (f x).tm := fun x => by
    by_cases q : x = j
    · subst q; rw [Fc]
    · rw [Fj x q]
  have V : ∀ x, (F x).vt = (f x).vt := fun x => by
    by_cases q : x = j
    · subst q; rw [Fc]
    · rw [Fj x q]
  have R : ∀ x, (F x).rl = (f x).rl := fun x => by
    by_cases q : x = j
    · subst q; rw [Fc]
    · rw [Fj x q]
  have N1 : ∀ x, (F x).rl = 1 → x ≠ j := fun x h e => by subst e; rw [R, hj] at h; omega
  have N2 : ∀ x, (F x).rl = 2 → x ≠ j := fun x h e => by subst e; rw [R, hj] at h; omega
  refine ⟨{ g with ac := fun x t k => g.ac x t k ∨ (x = j ∧ t = (f i).tm ∧ k ≤ (f i).lg.length) }, ?_, fun k hk => .inr ⟨rfl, rfl, hk⟩, fun x t k h => .inl h⟩
  have CM : ∀ t k, Com n g t k → Com n { g with ac := fun x t k => g.ac x t k ∨ (x = j ∧ t = (f i).tm ∧ k ≤ (f i).lg.length) } t k := fun t k h =>
    ⟨h.1, Nat.lt_of_lt_of_le h.2 (Nat.mul_le_mul_left 2 (cnt_mono fun z _ hz => .inl hz))⟩
  refine ⟨fun x => by rw [T]; exact I.t0 x, fun x U z h => by rw [T]; exact I.v1 x U z h, fun x z h => by rw [T] at h; rw [V]; exact I.v2 x z h, I.v3, fun x U z h => by rw [T]; exact I.v4 x U z h,
    fun x h => ?_, I.m0, I.m1, fun U d h => by rw [T]; exact I.m2 U d h, fun x h => ?_, fun x h => ?_, fun x => ?_, I.w2, I.c1, ?_, ?_, ?_, ?_, ?_, fun x h => ?_, fun x => ?_⟩
  · have q := N1 x h; rw [Fj x q] at h ⊢; exact I.b1 x h
  · have q := N1 x h; rw [Fj x q] at h ⊢; exact I.s1 x h
  · have q := N2 x h; rw [Fj x q] at h ⊢
    obtain ⟨h1, h2, h3⟩ := I.l1 x h
    exact ⟨h1, h2, fun k hk => .inl (h3 k hk)⟩
  · by_cases q : x = j
    · subst q; rw [Fc]
      show Wf g (f x).tm lg'
      rcases hw with e | e
      · rw [e, ht]; exact I.w1 i
      · rw [e]; exact I.w1 x
    · rw [Fj x q]; exact I.w1 x
  · rintro x t k (h | ⟨rfl, rfl, _⟩)
    · rw [T]; exact I.a1 x t k h
    · rw [T, ht]; exact Int.le_refl _
  · rintro x t k (h | ⟨rfl, rfl, _⟩) p s
    · by_cases q : x = j
      · subst q
        rw [T] at s
        rw [Fc]
        show (g.ll t).take k <+: lg'
        have := I.a1 x t k h
        by_cases e : t = (f i).tm
        · subst e; rw [← l2]; exact (List.take_prefix _ _).trans hl
        · have r := s (f i).tm i (by omega) (by omega) l1
          have r' : (g.ll t).take k <+: g.ll (f i).tm := r
          rw [← l2] at r'
          exact r'.trans hl
      · rw [T] at s
        rw [Fj x q]; exact I.a2 x t k h p s
    · rw [Fc]
      show (g.ll (f i).tm).take k <+: lg'
      rw [← l2]; exact (List.take_prefix _ _).trans hl
  · rintro x t k U z (h | ⟨rfl, rfl, _⟩) p v u s
    · exact I.a3 x t k U z h p v u s
    · have := I.v1 _ _ _ v; omega
  · rintro x t k (h | ⟨rfl, rfl, _⟩)
    · exact I.a4 x t k h
    · exact ⟨i, l1⟩
  · rintro x t k (h | ⟨rfl, rfl, e⟩)
    · exact I.a5 x t k h
    · show k ≤ (g.ll (f i).tm).length
      rw [← l2]; exact e
  · have q := N2 x h; rw [Fj x q] at h ⊢
    obtain ⟨h1, h2, h3, h4⟩ := I.h1 x h
    exact ⟨h1, h2, fun z k hk => ⟨(h3 z k hk).1, fun m m1 m2 => .inl ((h3 z k hk).2 m m1 m2)⟩, h4⟩
  · by_cases q : x = j
    · subst q; rw [Fc]
      have hlen := pre_len hl
      rcases hs with ⟨e, _⟩ | ⟨e, hle⟩
      · obtain ⟨h1, h2, h3⟩ := I.u1 i
        refine ⟨by show 0 ≤ su'; omega, by show su' ≤ (lg'.length : Int); omega, fun z => ?_⟩
        have z' : 0 < su' := z
        obtain ⟨t, k, r1, r2, r3⟩ := h3 (by omega)
        refine ⟨t, k, by show t ≤ (f x).tm; omega, CM t k r2, ?_⟩
        show lg'.take su'.toNat <+: _
        rw [pre_takes hl (by omega), e]; exact r3
      · obtain ⟨h1, h2, h3⟩ := I.u1 x
        by_cases z0 : 0 < (f x).su
        · obtain ⟨t, k, r1, r2, r3⟩ := h3 z0
          have hP : (g.ll t).take k <+: lg' := by
            by_cases c : t = (f i).tm
            · subst c; rw [← l2]; exact (List.take_prefix _ _).trans hl
            · have := I.keeps r2 _ (f i).tm i rfl (by omega) l1
              rw [← l2] at this; exact this.trans hl
          have hx := r3.trans hP
          have hx2 := pre_len hx
          simp at hx2
          have hx3 := pre_take hx
          rw [List.length_take, Nat.min_eq_left (by omega)] at hx3
          refine ⟨by show 0 ≤ su'; omega, by show su' ≤ (lg'.length : Int); omega, fun z => ⟨t, k, r1, CM t k r2, ?_⟩⟩
          show lg'.take su'.toNat <+: _
          rw [e, hx3]; exact r3
        · refine ⟨by show 0 ≤ su'; omega, by show su' ≤ (lg'.length : Int); omega, fun z => ?_⟩
          have z' : 0 < su' := z
          omega
    · rw [Fj x q]
      obtain ⟨h1, h2, h3⟩ := I.u1 x
      refine ⟨h1, h2, fun z => ?_⟩
      obtain ⟨t, k, r1, r2, r3⟩ := h3 z
      exact ⟨t, k, r1, CM t k r2, r3⟩
/-- One that leads adds to its log. -/
theorem Inv.add (I : Inv n f g) {i : Nat} {y : Pr} {v : Int} (hr : (f i).rl = 2) (a : y = { f i with lg := (f i).lg ++ [((f i).tm, v)] }) : ∃ g', Inv n (upd f i y) g' := by
  subst a
  obtain ⟨l1, l2, l3⟩ := I.l1 i hr
  generalize hF : upd f i { f i with lg := (f i).lg ++ [((f i).tm, v)] } = F
  have Fc : F i = { f i with lg := (f i).lg ++ [((f i).tm, v)] } := by rw [← hF, upd_eq]
  have Fj : ∀ x, x ≠ i → F x = f x := fun x q => by rw [← hF, upd_ne q]
  have T : ∀ x, (F x).tm = (f x).tm := fun x => by
    by_cases q : x = i
    · subst q; rw [Fc]
    · rw [Fj x q]
  have V : ∀ x, (F x).vt = (f x).vt := fun x => by
    by_cases q : x = i
    · subst q; rw [Fc]
    · rw [Fj x q]
  have R : ∀ x, (F x).rl = (f x).rl := fun x => by
    by_cases q : x = i
    · subst q; rw [Fc]
    · rw [Fj x q]
  have Lp : ∀ x, (f x).lg <+: (F x).lg := fun x => by
    by_cases q : x = i
    · subst q; rw [Fc]; exact List.prefix_append _ _
    · rw [Fj x q]; exact List.prefix_rfl
  generalize hl' : (f i).lg ++ [((f i).tm, v)] = lg' at *
  have hll : lg'.length = (f i).lg.length + 1 := by rw [← hl']; simp
  have hlp : (f i).lg <+: lg' := by rw [← hl']; exact List.prefix_append _ _
  generalize hG : ({ g with ll := fun U => if U = (f i).tm then lg' else g.ll U, ac := fun j t k => g.ac j t k ∨ (j = i ∧ t = (f i).tm ∧ k ≤ lg'.length) } : Gh) = G
  have gl : G.ld = g.ld := by rw [← hG]
  have gv : G.vd = g.vd := by rw [← hG]
  have gc : G.cl = g.cl := by rw [← hG]
  have ga : ∀ j t k, G.ac j t k ↔ g.ac j t k ∨ (j = i ∧ t = (f i).tm ∧ k ≤ lg'.length) := fun j t k => by rw [← hG]
  have le : G.ll (f i).tm = lg' := by rw [← hG]; exact if_pos rfl
  have ln : ∀ U, U ≠ (f i).tm → G.ll U = g.ll U := fun U q => by rw [← hG]; exact if_neg q
  have lp : ∀ U, g.ll U <+: G.ll U := fun U => by
    by_cases q : U = (f i).tm
    · subst q; rw [le, ← l2]; exact hlp
    · rw [ln U q]; exact List.prefix_rfl
  have tk : ∀ t k, k ≤ (g.ll t).length → (G.ll t).take k = (g.ll t).take k := fun t k h => pre_takes (lp t) h
  have WF : ∀ t l, Wf g t l → Wf G t l := fun t l h m e he => by
    obtain ⟨r1, ⟨d, r2⟩, r3⟩ := h m e he
    exact ⟨r1, ⟨d, by rw [gl]; exact r2⟩, r3.trans (lp _)⟩
  have WL : Wf G (f i).tm lg' := fun m e he => by
    by_cases q : m < (f i).lg.length
    · have e' : (f i).lg[m]? = some e := by rw [← hl', List.getElem?_append_left q] at he; exact he
      obtain ⟨r1, ⟨d, r2⟩, r3⟩ := I.w1 i m e e'
      refine ⟨r1, ⟨d, by rw [gl]; exact r2⟩, ?_⟩
      rw [pre_takes hlp (by omega)]; exact r3.trans (lp _)
    · have h2 := get_lt he
      have : m = (f i).lg.length := by omega
      subst this
      have he' : e = ((f i).tm, v) := by
        rw [← hl'] at he; simp at he; exact he.symm
      subst he'
      refine ⟨Int.le_refl _, ⟨i, by rw [gl]; exact l1⟩, ?_⟩
      show _ <+: G.ll (f i).tm
      rw [le]; exact List.take_prefix _ _
  have PT : ∀ t k, k ≤ (g.ll t).length → Pt G t k → Pt g t k := fun t k hk ⟨q0, w, q⟩ => by
    refine ⟨q0, w, ?_⟩
    obtain ⟨z, hz⟩ := lp t
    rw [← hz, List.getElem?_append_left (by omega)] at q; exact q
  have SF : ∀ t k U, k ≤ (g.ll t).length → Pt g t k → Sf G t k U → Sf g t k U := fun t k U hk hp h X d q1 q2 q3 => by
    have r := h X d q1 q2 (by rw [gl]; exact q3)
    rw [tk t k hk] at r
    by_cases e : X = (f i).tm
    · subst e
      rw [le] at r
      rw [← l2]
      have lk : ((g.ll t).take k).length = k := by simp; omega
      by_cases z : k ≤ (f i).lg.length
      · exact pre_of r hlp (by omega)
      · exfalso
        have := pre_len r
        obtain ⟨q0, w, hq⟩ := hp
        have h1 : lg'[k - 1]? = some (t, w) := pre_get r (by rw [List.getElem?_take_of_lt (by omega)]; exact hq)
        have h2 : k - 1 = (f i).lg.length := by omega
        rw [h2, ← hl'] at h1
        simp at h1; omega
    · rw [ln X e] at r; exact r
  have CM : ∀ t k, Com n g t k → Com n G t k := fun t k h => by
    refine ⟨?_, Nat.lt_of_lt_of_le h.2 (Nat.mul_le_mul_left 2 (cnt_mono fun z _ hz => (ga _ _ _).2 (.inl hz)))⟩
    obtain ⟨q0, w, q⟩ := h.1
    exact ⟨q0, w, pre_get (lp t) q⟩
  refine ⟨G, ⟨fun j => by rw [T]; exact I.t0 j, fun j U x h => by rw [T]; rw [gv] at h; exact I.v1 j U x h, fun j x h => by rw [T, gv] at h; rw [V]; exact I.v2 j x h, by rw [gv]; exact I.v3, fun j U x h => by rw [T]; rw [gv] at h; exact I.v4 j U x h,
    fun j h => ?_, by rw [gl]; exact I.m0, by rw [gl, gv]; exact I.m1, fun U d h => by rw [T]; rw [gl] at h; exact I.m2 U d h, fun j h => ?_, fun j h => ?_, fun j => ?_, fun U d h => ?_, fun U d h => ?_, fun j t k h => ?_, fun j t k h p s => ?_, fun j t k U x h p w u s => ?_, fun j t k h => ?_, fun j t k h => ?_, fun j h => ?_, fun j => ?_⟩⟩
  · have q : j ≠ i := fun e => by subst e; rw [R, hr] at h; omega
    rw [Fj j q] at h ⊢
    obtain ⟨h1, h2⟩ := I.b1 j h
    exact ⟨h1, fun x hx => by obtain ⟨z, z1, z2, z3⟩ := h2 x hx; exact ⟨z, z1, z2, by rw [gv]; exact z3⟩⟩
  · have q : j ≠ i := fun e => by subst e; rw [R, hr] at h; omega
    rw [Fj j q] at h ⊢
    rw [gl, gc]; exact I.s1 j h
  · by_cases q : j = i
    · subst q
      rw [T, Fc]
      exact ⟨by rw [gl]; exact l1, le.symm, fun k hk => (ga _ _ _).2 (.inr ⟨rfl, rfl, hk⟩)⟩
    · rw [Fj j q] at h ⊢
      obtain ⟨h1, h2, h3⟩ := I.l1 j h
      have e : (f j).tm ≠ (f i).tm := fun e => by rw [e] at h1; exact q (I.one h1 l1)
      exact ⟨by rw [gl]; exact h1, by rw [ln _ e]; exact h2, fun k hk => (ga _ _ _).2 (.inl (h3 k hk))⟩
  · by_cases q : j = i
    · subst q; rw [Fc]; exact WL
    · rw [Fj j q]; exact WF _ _ (I.w1 j)
  · rw [gl] at h
    by_cases q : U = (f i).tm
    · subst q; rw [le]; exact WL
    · rw [ln U q]; exact WF _ _ (I.w2 U d h)
  · rw [gl] at h; rw [gc]; exact (I.c1 U d h).trans (lp U)
  · rw [T]
    rcases (ga j t k).1 h with h | ⟨rfl, rfl, _⟩
    · exact I.a1 j t k h
    · exact Int.le_refl _
  · rw [T] at s
    rcases (ga j t k).1 h with h | ⟨rfl, rfl, _⟩
    · have hk := I.a5 j t k h
      have p' := PT t k hk p
      rw [tk t k hk]
      exact (I.a2 j t k h p' (SF t k _ hk p' s)).trans (Lp j)
    · rw [le, Fc]; exact List.take_prefix _ _
  · rw [gv] at w
    rcases (ga j t k).1 h with h | ⟨rfl, rfl, _⟩
    · have hk := I.a5 j t k h
      have p' := PT t k hk p
      rw [tk t k hk, gc, gl]
      exact I.a3 j t k U x h p' w u (SF t k _ hk p' s)
    · have := I.v1 _ _ _ w; omega
  · rw [gl]
    rcases (ga j t k).1 h with h | ⟨rfl, rfl, _⟩
    · exact I.a4 j t k h
    · exact ⟨j, l1⟩
  · rcases (ga j t k).1 h with h | ⟨rfl, rfl, e⟩
    · have := I.a5 j t k h
      have := pre_len (lp t); omega
    · rw [le]; exact e
  · rw [R] at h
    obtain ⟨h1, h2, h3, h4⟩ := I.h1 j h
    have hn : (F j).hs = (f j).hs ∧ (F j).nx = (f j).nx := by
      by_cases q : j = i
      · subst q; rw [Fc]; exact ⟨rfl, rfl⟩
      · rw [Fj j q]; exact ⟨rfl, rfl⟩
    have := pre_len (Lp j)
    unfold Hn
    rw [hn.1, hn.2, T]
    exact ⟨h1, h2, fun z k hk => ⟨(h3 z k hk).1, fun m m1 m2 => (ga _ _ _).2 (.inl ((h3 z k hk).2 m m1 m2))⟩, fun z k hk => ⟨(h4 z k hk).1, by have := (h4 z k hk).2; omega⟩⟩
  · obtain ⟨h1, h2, h3⟩ := I.u1 j
    have hn : (F j).su = (f j).su := by
      by_cases q : j = i
      · subst q; rw [Fc]
      · rw [Fj j q]
    have hlj := pre_len (Lp j)
    unfold Su
    rw [hn, T]
    refine ⟨h1, by omega, fun q => ?_⟩
    obtain ⟨t, k, r1, r2, r3⟩ := h3 q
    refine ⟨t, k, r1, CM t k r2, ?_⟩
    rw [pre_takes (Lp j) (by omega), tk t k r2.1.len]; exact r3
/-- One that leads takes a beginning that a majority holds to be sure. -/
theorem Inv.sure (I : Inv n f g) {i k : Nat} {y : Pr} {v : Int} (hi : i < n) (hr : (f i).rl = 2) (h0 : 0 < k) (hv : (f i).lg[k - 1]? = some ((f i).tm, v)) (hm : n < 2 * cnt n fun j => j = i ∨ ∃ h, (f i).hs[j]? = some h ∧ (k : Int) ≤ h) (a : y = { f i with su := (k : Int) }) : Inv n (upd f i y) g := by
  subst a
  obtain ⟨l1, l2, l3⟩ := I.l1 i hr
  obtain ⟨h1, h2, h3, h4⟩ := I.h1 i hr
  have hk := get_lt hv
  refine I.minor rfl rfl rfl rfl (fun h => by have h' : (f i).rl = 1 := h; omega) (fun _ => I.h1 i hr) ⟨by show (0 : Int) ≤ (k : Int); omega, by show (k : Int) ≤ ((f i).lg.length : Int); omega, fun _ => ⟨(f i).tm, k, Int.le_refl _, ⟨⟨h0, v, by rw [← l2]; exact hv⟩, ?_⟩, ?_⟩⟩
  · refine Nat.lt_of_lt_of_le hm (Nat.mul_le_mul_left 2 (cnt_mono fun z _ hz => ?_))
    rcases hz with rfl | ⟨h, q1, q2⟩
    · exact l3 k (by omega)
    · exact (h3 z h q1).2 k h0 q2
  · show (f i).lg.take (k : Int).toNat <+: _
    rw [l2]; simp
end
/-- In the beginning. -/
theorem Inv.start (n : Nat) : Inv n (fun _ => ⟨0, 0, -1, [], [], 0, [], []⟩) ⟨fun _ _ _ => False, fun _ _ => False, fun _ => [], fun _ _ => [], fun _ _ _ => False⟩ := by
  refine ⟨fun _ => Int.le_refl _, fun _ _ _ h => h.elim, fun _ _ h => h.elim, fun _ _ _ _ h => h.elim, fun _ _ _ h => h.elim, fun _ h => ?_, fun _ _ h => h.elim, fun _ _ h => h.elim, fun _ _ h => h.elim, fun _ h => ?_, fun _ h => ?_, fun _ m e h => ?_, fun _ _ h => h.elim, fun _ _ h => h.elim, fun _ _ _ h => h.elim, fun _ _ _ h => h.elim, fun _ _ _ _ _ h => h.elim, fun _ _ _ h => h.elim, fun _ _ _ h => h.elim, fun _ h => ?_, fun _ => ⟨Int.le_refl _, by simp, fun h => by simp at h⟩⟩
  · simp at h
  · simp at h
  · simp at h
  · simp at h
  · simp at h
end Go.Proofs.Ytacggcanjanmkaa

namespace Go.Proofs.Ytacggcanjanmkaa
open Go Go.Bk
set_option linter.unusedVariables false
set_option linter.unusedSimpArgs false
set_option linter.unusedSectionVars false

abbrev Mv := Int × Int × Int × Int
abbrev One := Int × Int × Int × BitVec 32
abbrev Vr := Int × Int × Int × List Int × List (Int × Int) × Int × List Int × List Int
abbrev Lo := List (Int × Int) × Int × List Int × List Int
def ge {α : Type} (d : α) (l : List α) (j : Nat) : α := l.getD j d
theorem get_ge {α : Type} (d : α) {l : List α} {j : Nat} (h : j < l.length) : l[j]? = some (ge d l j) := by simp [ge, List.getD_eq_getElem?_getD, List.getElem?_eq_getElem h]
theorem idx_ge {α : Type} (d : α) {l : List α} {j : Nat} (h : j < l.length) : idx l (j : Int) = some (ge d l j) := idx_some (get_ge d h)
theorem ge_set {α : Type} {d : α} {l : List α} {i b : Nat} {v : α} (hi : i < l.length) : ge d (l.set i v) b = if b = i then v else ge d l b := by
  unfold ge
  rw [List.getD_eq_getElem?_getD, List.getD_eq_getElem?_getD, List.getElem?_set]
  by_cases c : i = b
  · subst c; simp [hi]
  · have : ¬ b = i := fun e => c e.symm
    simp [c, this]
theorem w64i {x : Int} (h0 : -9000000000 ≤ x) (h1 : x ≤ 9000000000) : w64 x = x := w64_of (by omega) (by omega)
theorem app1 {α : Type} (b : Nat) (hb : b ≤ 128) (l : List α) (z : α) (h : l.length ≤ 60) : appl b l [z] = some (l ++ [z]) := by
  unfold appl; rw [if_pos]
  simp
  have : (l.length + 1) * b ≤ 61 * 128 := Nat.mul_le_mul (by omega) hb
  omega
theorem idx_setG {α : Type} {l : List α} {j : Nat} (h : j < l.length) (v : α) : idx (l.set j v) (j : Int) = some v := idx_some (by rw [List.getElem?_set_self h])
theorem idx_setN {α : Type} (d : α) {l : List α} {i j : Nat} (h : j < l.length) (hi : i < l.length) (v : α) : idx (l.set i v) (j : Int) = some (if j = i then v else ge d l j) := by
  rw [idx_ge d (by simpa using h), ge_set hi]
theorem mkl_rep {α : Type} {n b : Nat} (hn : n ≤ 6) (hb : b ≤ 128) (z : α) : mkl (n : Int) b z = some (List.replicate n z) := by
  unfold mkl
  rw [if_pos]; simp
  refine ⟨by omega, ?_, by omega⟩
  have : (b : Int) * (n : Int) ≤ 128 * 6 := Int.mul_le_mul (by omega) (by omega) (by omega) (by omega)
  omega
theorem nat_of {a : Int} (h : 0 ≤ a) : ∃ c : Nat, a = (c : Int) := ⟨a.toNat, by omega⟩
theorem while_ex {σ τ β ρ : Type} {body : σ → Option (Ctl σ β ρ)} (S : Nat → τ → σ) (n : Nat) (out : τ → β) (I : Nat → τ → Prop)
    (hstep : ∀ k t, k < n → I k t → ∃ t', body (S k t) = some (.nxt (S (k + 1) t')) ∧ I (k + 1) t') (hend : ∀ t, I n t → body (S n t) = some (.brk (out t))) (t : τ) (h0 : I 0 t) :
    ∃ t', whileM body (S 0 t) = some (.brk (out t')) ∧ I n t' := by
  have key : ∀ m k t, k + m = n → I k t → ∃ t', whileM body (S k t) = some (.brk (out t')) ∧ I n t' := by
    intro m
    induction m with
    | zero =>
      intro k t hk hI
      obtain rfl : k = n := by omega
      exact ⟨t, whileM_brk (hend t hI), hI⟩
    | succ m ih =>
      intro k t hk hI
      obtain ⟨t', h1, h2⟩ := hstep k t (by omega) hI
      rw [whileM_nxt h1]
      exact ih (k + 1) t' (by omega) h2
  exact key n 0 t (by omega) h0
theorem nodup_le : ∀ {l m : List Int}, l.Nodup → (∀ x ∈ l, x ∈ m) → l.length ≤ m.length
  | [], m, _, _ => by simp
  | x :: l, m, h, s => by
    rw [List.nodup_cons] at h
    have hx : x ∈ m := s x (by simp)
    have := nodup_le (l := l) (m := m.erase x) h.2 fun y hy => (List.mem_erase_of_ne (fun e => h.1 (by rw [← e]; exact hy))).2 (s y (by simp [hy]))
    rw [List.length_erase_of_mem hx] at this
    have : 0 < m.length := List.length_pos_of_mem hx
    simp; omega
theorem has_val (l : List Int) (hl : l.length ≤ 1000) (a : Int) : F33 l a = some (decide (a ∈ l)) := by
  have h : whileM (F33_L0 l a) 0 = some (found () (cond (l.any (fun e => a == e)) (some true) none)) := by
    rw [← scan_any (k := 0)]
    refine while_scan (by omega) _ (fun k e h => ?_) (by simp [F33_L0])
    have hk := lt_of_get h
    have hd : decide ((k : Int) < (l.length : Int)) = true := by rw [decide_eq_true_eq]; omega
    cases c : (a == e) <;> (simp only [F33_L0, idx_some h, hd, c, going, Option.bind_some, cond_true, cond_false]; simp)
  have e : l.any (fun e => a == e) = decide (a ∈ l) := by
    rw [Bool.eq_iff_iff, List.any_eq_true, decide_eq_true_eq]
    constructor
    · rintro ⟨x, hx, e⟩; rw [beq_iff_eq] at e; rw [e]; exact hx
    · intro h; exact ⟨a, h, by simp⟩
  unfold F33
  rw [h, e]
  cases c : decide (a ∈ l) <;> simp [found, Ctl.on]

/-! How many bits. -/
def c6 (w : BitVec 32) : Nat := (List.range 6).countP fun i => w.getLsbD i
theorem f38_small : ∀ v, v < 64 → F38 (BitVec.ofNat 32 v) = some ((c6 (BitVec.ofNat 32 v) : Nat) : Int) := by decide +kernel
theorem f38_val {w : BitVec 32} (h : ∀ b, w.getLsbD b = true → b < 6) : F38 w = some (c6 w : Int) := by
  have hs : w.toNat < 64 := by
    refine Classical.byContradiction fun q => ?_
    obtain ⟨b, hb, h2⟩ := Nat.exists_ge_and_testBit_of_ge_two_pow (n := 6) (x := w.toNat) (by omega)
    have := h b (by rw [BitVec.getLsbD]; exact h2)
    omega
  have hw : w = BitVec.ofNat 32 w.toNat := by simp
  have := f38_small w.toNat hs
  rw [← hw] at this; exact this
/-- A word and a list of the same numbers. -/
structure Same (n : Nat) (w : BitVec 32) (l : List Int) : Prop where
  nd : l.Nodup
  low : ∀ b ∈ l, ∃ c : Nat, c < n ∧ b = (c : Int)
  bit : ∀ b, w.getLsbD b = true ↔ (b : Int) ∈ l
theorem Same.len {n : Nat} (hn : n ≤ 6) {w : BitVec 32} {l : List Int} (h : Same n w l) : F38 w = some (l.length : Int) := by
  rw [f38_val (fun b hb => by obtain ⟨c, hc, e⟩ := h.low _ ((h.bit b).1 hb); omega)]
  have e : c6 w = l.length := by
    unfold c6
    rw [List.countP_eq_length_filter]
    have hA : ((List.range 6).filter fun i => w.getLsbD i).length = (((List.range 6).filter fun i => w.getLsbD i).map (fun i : Nat => (i : Int))).length := by simp
    rw [hA]
    refine Nat.le_antisymm (nodup_le ?_ ?_) (nodup_le h.nd ?_)
    · exact List.Pairwise.map _ (fun a b e q => e (by exact_mod_cast q)) ((List.filter_sublist).nodup List.nodup_range)
    · intro x hx
      obtain ⟨b, hb, rfl⟩ := List.mem_map.1 hx
      exact (h.bit b).1 (List.mem_filter.1 hb).2
    · intro x hx
      obtain ⟨c, hc, rfl⟩ := h.low x hx
      exact List.mem_map.2 ⟨c, List.mem_filter.2 ⟨List.mem_range.2 (by omega), (h.bit c).2 hx⟩, rfl⟩
  rw [e]
theorem Same.zero {n : Nat} : Same n 0#32 [] := ⟨List.nodup_nil, fun b h => (by cases h), fun b => by simp⟩
theorem Same.le {n : Nat} {w : BitVec 32} {l : List Int} (h : Same n w l) : l.length ≤ n := by
  have : l.length ≤ ((List.range n).map (fun i : Nat => (i : Int))).length := nodup_le h.nd fun x hx => by
    obtain ⟨c, hc, rfl⟩ := h.low x hx
    exact List.mem_map.2 ⟨c, List.mem_range.2 hc, rfl⟩
  simpa using this
theorem Same.old {n b : Nat} (hb : b < 32) {w : BitVec 32} {l : List Int} (h : Same n w l) (hm : (b : Int) ∈ l) : Same n (w ||| (1#32 <<< b)) l := by
  have : w ||| (1#32 <<< b) = w := by
    apply BitVec.eq_of_getLsbD_eq
    intro i hi
    rw [BitVec.getLsbD_or, bit_one hb]
    by_cases e : i = b
    · subst e; simp [(h.bit i).2 hm]
    · simp [e]
  rw [this]; exact h
theorem Same.new {n b : Nat} (hb : b < n) (hn : n ≤ 6) {w : BitVec 32} {l : List Int} (h : Same n w l) (hm : (b : Int) ∉ l) : Same n (w ||| (1#32 <<< b)) (l ++ [(b : Int)]) := by
  refine ⟨?_, ?_, ?_⟩
  · rw [List.nodup_append]
    exact ⟨h.nd, by simp, fun a ha c hc => by simp at hc; subst hc; exact fun e => hm (e ▸ ha)⟩
  · intro x hx
    rcases List.mem_append.1 hx with hx | hx
    · exact h.low x hx
    · simp at hx; exact ⟨b, hb, hx⟩
  · intro i
    rw [BitVec.getLsbD_or, bit_one (by omega), Bool.or_eq_true, h.bit i, List.mem_append, List.mem_singleton, decide_eq_true_eq]
    exact or_congr Iff.rfl (by omega)

theorem same_ints (l : List Int) (hl : l.length ≤ 1000) : F8 l l = some true := by
  have h : whileM (F8_L0 l l) 0 = some (.brk ()) := by
    refine while_upto (fun k => (k : Int)) l.length (fun k hk => ?_) (by simp [F8_L0]) (by simp)
    have hg : l[k]? = some l[k] := List.getElem?_eq_getElem hk
    have hd : decide ((k : Int) < (l.length : Int)) = true := by rw [decide_eq_true_eq]; omega
    simp only [F8_L0, hd, cond_true, idx_some hg, Option.bind_some, bne_self_eq_false, cond_false, w64_succ hk (by omega)]
  unfold F8
  rw [h]; simp [Ctl.on]
theorem same_codes (l : List Int) (hl : l.length ≤ 1000) : F7 l l = some true := same_ints l hl
theorem take_succ' {α : Type} {L : List α} {k : Nat} (hk : k < L.length) : L.take (k + 1) = L.take k ++ [L[k]] := by
  rw [List.take_add_one, List.getElem?_eq_getElem hk]; rfl
theorem begin1 {n : Nat} (hn : n ≤ 6) : F10 (n : Int) = some (List.replicate n (0, 0, -1, 0), []) := by
  have hm := mkl_rep hn (show 32 ≤ 128 by decide) ((0, 0, 0, 0) : One)
  have key : whileM (F10_L0 (List.replicate n ((0, 0, 0, 0) : One))) (List.replicate n (0, 0, 0, 0), 0) = some (.brk (List.replicate n (0, 0, -1, 0))) := by
    have : n = 0 ∨ n = 1 ∨ n = 2 ∨ n = 3 ∨ n = 4 ∨ n = 5 ∨ n = 6 := by omega
    have h := while_upto (body := F10_L0 (List.replicate n ((0, 0, 0, 0) : One))) (fun k => (List.replicate k (0, 0, -1, 0) ++ List.replicate (n - k) (0, 0, 0, 0), (k : Int))) n (c := .brk (List.replicate n (0, 0, -1, 0))) (fun k hk => ?_) (by simp [F10_L0]) (by simp)
    · simpa using h
    · have hd : decide ((k : Int) < ((List.replicate n ((0, 0, 0, 0) : One)).length : Int)) = true := by rw [decide_eq_true_eq]; simp; omega
      have hs : n - k = (n - (k + 1)) + 1 := by omega
      have hi : idx (List.replicate k ((0, 0, -1, 0) : One) ++ List.replicate (n - k) (0, 0, 0, 0)) (k : Int) = some (0, 0, 0, 0) := idx_some (by rw [List.getElem?_append_right (by simp), List.length_replicate, Nat.sub_self, List.getElem?_replicate, if_pos (by omega)])
      simp only [F10_L0, hd, cond_true, hi, Option.bind_some, Int.toNat_natCast, w64_succ hk (by omega)]
      rw [hs, List.replicate_succ, List.set_append_right _ _ (by simp)]
      simp [List.replicate_succ']
  unfold F10
  rw [hm]
  simp only [Option.bind_some, key, Ctl.on]
theorem begin2 {n : Nat} (hn : n ≤ 6) : F15 (n : Int) = some (List.replicate n (0, 0, -1, [], [], 0, [], []), []) := by
  have h := while_upto (body := F15_L0 (n : Int)) (fun k => (List.replicate k ((0, 0, -1, [], [], 0, [], []) : Vr), (k : Int))) n (c := .brk (List.replicate n (0, 0, -1, [], [], 0, [], []))) (fun k hk => ?_) (by simp [F15_L0]) (by simp)
  · unfold F15
    have h' : whileM (F15_L0 (n : Int)) ([], 0) = some (.brk (List.replicate n (0, 0, -1, [], [], 0, [], []))) := h
    rw [h']; simp [Ctl.on]
  · have hd : decide ((k : Int) < (n : Int)) = true := by rw [decide_eq_true_eq]; omega
    simp only [F15_L0, hd, cond_true, app1 128 (by decide) (List.replicate k ((0, 0, -1, [], [], 0, [], []) : Vr)) (0, 0, -1, [], [], 0, [], []) (by simp; omega), Option.bind_some, w64_succ hk (by omega), ← List.replicate_succ']

theorem last_val (l : List (Int × Int)) (hl : l.length ≤ 1000) : F27 l = some (lastOf l) := by
  unfold F27
  by_cases c : l.length = 0
  · have : l = [] := List.length_eq_zero_iff.1 c
    subst this; simp [lastOf]
  · have hc : ((l.length : Int) == 0) = false := by rw [beq_eq_false_iff_ne]; omega
    have h0 : 0 < l.length := by omega
    obtain ⟨e, q, r⟩ := last_get h0
    have hw : w64 ((l.length : Int) - 1) = ((l.length - 1 : Nat) : Int) := by rw [w64i (x := (l.length : Int) - 1) (by omega) (by omega)]; have : 1 ≤ l.length := (by omega); push_cast [this]; rfl
    simp only [hc, cond_false, hw, idx_some q, Option.bind_some, r]
theorem last2_val (l : List (Int × Int)) (hl : l.length ≤ 1000) : F37 l = some (lastOf l, (l.length : Int)) := by
  unfold F37
  by_cases c : l.length = 0
  · have : l = [] := List.length_eq_zero_iff.1 c
    subst this; simp [lastOf]
  · have hc : ((l.length : Int) == 0) = false := by rw [beq_eq_false_iff_ne]; omega
    have h0 : 0 < l.length := by omega
    obtain ⟨e, q, r⟩ := last_get h0
    have hw : w64 ((l.length : Int) - 1) = ((l.length - 1 : Nat) : Int) := by rw [w64i (x := (l.length : Int) - 1) (by omega) (by omega)]; have : 1 ≤ l.length := (by omega); push_cast [this]; rfl
    simp only [hc, cond_false, hw, idx_some q, Option.bind_some, r]
def goodB (a b : List (Int × Int)) : Bool := decide (lastOf a > lastOf b) || (lastOf a == lastOf b) && decide ((a.length : Int) ≥ (b.length : Int))
theorem goodB_iff {a b : List (Int × Int)} : goodB a b = true ↔ Good a b := by
  unfold goodB Good
  simp only [Bool.or_eq_true, Bool.and_eq_true, decide_eq_true_eq, beq_iff_eq]
  omega
theorem good_val (a b : List (Int × Int)) (ha : a.length ≤ 1000) (hb : b.length ≤ 1000) : F31 a b = some (goodB a b) := by
  unfold F31
  simp only [last2_val a ha, last2_val b hb, Option.bind_some]; rfl
theorem bad_val (a b : List (Int × Int)) : (cond (decide (lastOf a < lastOf b)) (some true) (Option.bind (cond (lastOf a == lastOf b) (some (decide ((a.length : Int) < (b.length : Int)))) (some false)) fun (b111 : Bool) => some b111)) = some (!goodB a b) := by
  unfold goodB
  by_cases c : lastOf a < lastOf b
  · have c1 : ¬ lastOf a > lastOf b := by omega
    have c2 : ¬ lastOf a = lastOf b := by omega
    simp [c, c1, c2]
  · by_cases c2 : lastOf a = lastOf b
    · have e1 : decide ((a.length : Int) < (b.length : Int)) = !decide ((a.length : Int) ≥ (b.length : Int)) := by
        by_cases z : a.length < b.length
        · have z2 : ¬ b.length ≤ a.length := by omega
          simp [z, z2]
        · have z2 : b.length ≤ a.length := by omega
          simp [z, z2]
      rw [e1]
      simp [c2]
    · have c1 : lastOf b < lastOf a := by omega
      have c3 : (lastOf a == lastOf b) = false := by simpa using c2
      simp [c, c1, c3]
theorem begins_val (a b : List (Int × Int)) (ha : a.length ≤ 1000) : F17 a b = some (@decide (b <+: a) (Classical.propDecidable _)) := by
  unfold F17
  by_cases c : a.length < b.length
  · have : ¬ b <+: a := fun h => by have := pre_len h; omega
    have h0 : @decide (b <+: a) (Classical.propDecidable _) = false := by
      cases q : @decide (b <+: a) (Classical.propDecidable _) with
      | false => rfl
      | true => exact absurd ((dec_iff _).1 q) this
    rw [h0]; simp [c]
  · have hc : decide ((b.length : Int) > (a.length : Int)) = false := by rw [decide_eq_false_iff_not]; omega
    have key := while_scanN (body := F17_L0 a b) (fun k => (k : Int)) b.length (b := ()) (fun k => if a[k]? = b[k]? then none else some false) (fun k hk => ?_) (by simp [F17_L0])
    · have key' : whileM (F17_L0 a b) 0 = _ := key
      rw [hc, cond_false, key']
      cases q : scan (fun k (_ : Unit) => if a[k]? = b[k]? then none else some false) (List.replicate b.length ()) 0 with
      | none =>
        have hp : b <+: a := by
          have := scanN_none.1 q
          refine List.prefix_iff_eq_take.2 (List.ext_getElem? fun i => ?_)
          by_cases hi : i < b.length
          · rw [List.getElem?_take_of_lt hi]
            have := this i hi
            split at this
            · rename_i e; exact e.symm
            · cases this
          · rw [List.getElem?_eq_none (by omega), List.getElem?_eq_none (by rw [List.length_take]; omega)]
        rw [(dec_iff _).2 hp]; rfl
      | some r =>
        obtain ⟨k, hk, hv⟩ := scanN_val q
        have hp : ¬ b <+: a := fun hp => by
          rw [if_pos] at hv
          · cases hv
          · exact pre_get hp (List.getElem?_eq_getElem hk) |>.trans (List.getElem?_eq_getElem hk).symm
        have hr : r = false := by
          split at hv
          · cases hv
          · exact (Option.some.inj hv).symm
        have h0 : @decide (b <+: a) (Classical.propDecidable _) = false := by
          cases q : @decide (b <+: a) (Classical.propDecidable _) with
          | false => rfl
          | true => exact absurd ((dec_iff _).1 q) hp
        rw [h0, hr]; rfl
    · have hd : decide ((k : Int) < (b.length : Int)) = true := by rw [decide_eq_true_eq]; omega
      have ga : a[k]? = some a[k] := List.getElem?_eq_getElem (by omega)
      have gb : b[k]? = some b[k] := List.getElem?_eq_getElem hk
      simp only [F17_L0, hd, cond_true, idx_some ga, idx_some gb, Option.bind_some, ga, gb, Option.some.injEq, Bool.and_true]
      by_cases e : a[k] = b[k]
      · rw [if_pos e]
        simp [e, going, w64_succ hk (by omega)]
      · rw [if_neg e]
        have : (a[k].1 == b[k].1 && a[k].2 == b[k].2) = false := by
          rw [Bool.and_eq_false_iff]
          simp only [beq_eq_false_iff_ne]
          exact Classical.byContradiction fun z => e (Prod.ext (by simp at z; omega) (by simp at z; omega))
        simp [this, going]
theorem same_entries (l : List (Int × Int)) (hl : l.length ≤ 1000) : F9 l l = some true := by
  unfold F9
  rw [begins_val l l hl, (dec_iff _).2 List.prefix_rfl]; simp
theorem mul64_val {n : Nat} (hn : n ≤ 6) : F39 (u64 1) (u64 (n : Int)) = some (0, (n : Int)) := by
  have : n = 0 ∨ n = 1 ∨ n = 2 ∨ n = 3 ∨ n = 4 ∨ n = 5 ∨ n = 6 := by omega
  unfold F39 F41
  rcases this with rfl | rfl | rfl | rfl | rfl | rfl | rfl <;> decide +kernel
theorem repeat_loop {n : Nat} (hn : n ≤ 6) (h1 : 1 ≤ n) (x : Int) : whileM F35_L0 (x :: List.replicate (n - 1) 0, 1) = some (.brk (List.replicate n x)) := by
  have s1 : w64 2 = 2 := by decide +kernel
  have s2 : w64 3 = 3 := by decide +kernel
  have s3 : w64 4 = 4 := by decide +kernel
  have s4 : w64 5 = 5 := by decide +kernel
  have s5 : w64 6 = 6 := by decide +kernel
  have : n = 1 ∨ n = 2 ∨ n = 3 ∨ n = 4 ∨ n = 5 ∨ n = 6 := by omega
  rcases this with rfl | rfl | rfl | rfl | rfl | rfl
  · exact whileM_brk (by simp [F35_L0])
  · rw [whileM_nxt (s' := ([x, x], 2)) (by simp [F35_L0, slI, cpy, List.replicate, s1] )]
    exact whileM_brk (by simp [F35_L0, List.replicate])
  · rw [whileM_nxt (s' := ([x, x, 0], 2)) (by simp [F35_L0, slI, cpy, List.replicate, s1] ), whileM_nxt (s' := ([x, x, x], 3)) (by simp [F35_L0, slI, cpy, List.replicate, s2] )]
    exact whileM_brk (by simp [F35_L0, List.replicate])
  · rw [whileM_nxt (s' := ([x, x, 0, 0], 2)) (by simp [F35_L0, slI, cpy, List.replicate, s1] ), whileM_nxt (s' := ([x, x, x, x], 4)) (by simp [F35_L0, slI, cpy, List.replicate, s3] )]
    exact whileM_brk (by simp [F35_L0, List.replicate])
  · rw [whileM_nxt (s' := ([x, x, 0, 0, 0], 2)) (by simp [F35_L0, slI, cpy, List.replicate, s1] ), whileM_nxt (s' := ([x, x, x, x, 0], 4)) (by simp [F35_L0, slI, cpy, List.replicate, s3] ), whileM_nxt (s' := ([x, x, x, x, x], 5)) (by simp [F35_L0, slI, cpy, List.replicate, s4] )]
    exact whileM_brk (by simp [F35_L0, List.replicate])
  · rw [whileM_nxt (s' := ([x, x, 0, 0, 0, 0], 2)) (by simp [F35_L0, slI, cpy, List.replicate, s1] ), whileM_nxt (s' := ([x, x, x, x, 0, 0], 4)) (by simp [F35_L0, slI, cpy, List.replicate, s3] ), whileM_nxt (s' := ([x, x, x, x, x, x], 6)) (by simp [F35_L0, slI, cpy, List.replicate, s5] )]
    exact whileM_brk (by simp [F35_L0, List.replicate])
theorem repeat_val {n : Nat} (hn : n ≤ 6) (h1 : 1 ≤ n) (x : Int) : F35 [x] (n : Int) = some (List.replicate n x) := by
  have hl := repeat_loop hn h1 x
  have hm := mul64_val hn
  have m8 := mkl_rep hn (show 8 ≤ 128 by decide) (0 : Int)
  have hw : w64 (n : Int) = (n : Int) := w64i (by omega) (by omega)
  have c0 : decide ((n : Int) < 0) = false := by rw [decide_eq_false_iff_not]; omega
  have c1 : (decide ((0 : Int) > 0) || decide ((n : Int) > 9223372036854775807)) = false := by simp; omega
  have hc : cpy (List.replicate n (0 : Int)) 0 [x] = x :: List.replicate (n - 1) 0 := by
    obtain ⟨m, rfl⟩ : ∃ m, n = m + 1 := ⟨n - 1, by omega⟩
    simp [cpy, List.replicate_succ]
  have hk : ((min [x].length ((List.replicate n (0 : Int)).length - 0) : Nat) : Int) = 1 := by simp; omega
  have h11 : (([x].length : Nat) : Int) = 1 := rfl
  unfold F35
  simp only [c0, cond_false, h11, hm, Option.bind_some, c1, hw, m8, show (0 : Int).toNat = 0 from rfl, hc, hk, hl, Ctl.on]
end Go.Proofs.Ytacggcanjanmkaa

namespace Go.Proofs.Ytacggcanjanmkaa
open Go Go.Bk
set_option linter.unusedVariables false
set_option linter.unusedSimpArgs false
set_option linter.unusedSectionVars false

def lo (p : Pr) : Lo := (p.lg, p.su, p.hs, p.nx)
def tup (p : Pr) : Vr := (p.tm, p.rl, p.vt, p.bs, p.lg, p.su, p.hs, p.nx)
theorem idx_self {α : Type} {l : List α} {i : Nat} {v : α} (h : i < l.length) : idx (l.set i v) (i : Int) = some v := idx_some (List.getElem?_set_self h)
theorem idx_other {α : Type} {l : List α} {i j : Nat} {v : α} (h : i ≠ j) : idx (l.set i v) (j : Int) = idx l (j : Int) := by rw [idx_nat, idx_nat, List.getElem?_set_ne h]
theorem set_same {α : Type} {l : List α} {i : Nat} {x : α} (h : idx l (i : Int) = some x) : l.set i x = l := by
  rw [idx_nat] at h
  apply List.ext_getElem?
  intro j
  rw [List.getElem?_set]
  by_cases e : i = j
  · subst e; rw [if_pos rfl, if_pos (get_lt h), h]
  · rw [if_neg e]
theorem upd_self {f : Nat → Pr} {i : Nat} : upd f i (f i) = f := by
  funext j; by_cases e : j = i
  · subst e; rw [upd_eq]
  · rw [upd_ne e]
theorem upd_twice {f : Nat → Pr} {i : Nat} {a b : Pr} : upd (upd f i a) i b = upd f i b := by
  funext j; by_cases e : j = i
  · subst e; rw [upd_eq, upd_eq]
  · rw [upd_ne e, upd_ne e, upd_ne e]
theorem upd_swap {f : Nat → Pr} {i k : Nat} {a b : Pr} (h : i ≠ k) : upd (upd f i a) k b = upd (upd f k b) i a := by
  funext j
  by_cases e : j = i
  · subst e; rw [upd_ne h, upd_eq, upd_eq]
  · by_cases e2 : j = k
    · subst e2; rw [upd_eq, upd_ne e, upd_eq]
    · rw [upd_ne e2, upd_ne e, upd_ne e, upd_ne e2]
structure Rel (n k : Nat) (f : Nat → Pr) (G : List One) (L : List Lo) (V : List Vr) : Prop where
  lg : G.length = n
  ll : L.length = n
  lv : V.length = n
  g : ∀ i : Nat, i < n → ∃ w, idx G (i : Int) = some ((f i).tm, (f i).rl, (f i).vt, w) ∧ Same n w (f i).bs
  l : ∀ i : Nat, i < n → idx L (i : Int) = some (lo (f i))
  v : ∀ i : Nat, i < n → idx V (i : Int) = some (tup (f i))
  t1 : ∀ i, i < n → (f i).tm ≤ (k : Int)
  e : ∀ i, i < n → (f i).lg.length ≤ 30
section
variable {n k : Nat} {f : Nat → Pr} {G : List One} {L : List Lo} {V : List Vr} {g : Gh}
theorem Rel.up (h : Rel n k f G L V) : Rel n (k + 1) f G L V := { h with t1 := fun i hi => by have := h.t1 i hi; push_cast; omega }
theorem Rel.set3 (h : Rel n k f G L V) {i : Nat} (hi : i < n) {y : Pr} {w : BitVec 32} (hs : Same n w y.bs) (a : y.tm ≤ (k : Int)) (b : y.lg.length ≤ 30) : Rel n k (upd f i y) (G.set i (y.tm, y.rl, y.vt, w)) (L.set i (lo y)) (V.set i (tup y)) := by
  refine ⟨by rw [List.length_set]; exact h.lg, by rw [List.length_set]; exact h.ll, by rw [List.length_set]; exact h.lv, fun j hj => ?_, fun j hj => ?_, fun j hj => ?_, fun j hj => ?_, fun j hj => ?_⟩
  · by_cases q : j = i
    · subst q; rw [upd_eq, idx_self (by rw [h.lg]; exact hj)]; exact ⟨w, rfl, hs⟩
    · rw [upd_ne q, idx_other (fun e => q e.symm)]; exact h.g j hj
  · by_cases q : j = i
    · subst q; rw [upd_eq, idx_self (by rw [h.ll]; exact hj)]
    · rw [upd_ne q, idx_other (fun e => q e.symm)]; exact h.l j hj
  · by_cases q : j = i
    · subst q; rw [upd_eq, idx_self (by rw [h.lv]; exact hj)]
    · rw [upd_ne q, idx_other (fun e => q e.symm)]; exact h.v j hj
  · by_cases q : j = i
    · subst q; rw [upd_eq]; exact a
    · rw [upd_ne q]; exact h.t1 j hj
  · by_cases q : j = i
    · subst q; rw [upd_eq]; exact b
    · rw [upd_ne q]; exact h.e j hj
theorem Rel.setGV (h : Rel n k f G L V) {i : Nat} (hi : i < n) {y : Pr} {w : BitVec 32} (hs : Same n w y.bs) (a : y.tm ≤ (k : Int)) (b : lo y = lo (f i)) : Rel n k (upd f i y) (G.set i (y.tm, y.rl, y.vt, w)) L (V.set i (tup y)) := by
  have e : y.lg = (f i).lg := congrArg (·.1) b
  have := h.set3 hi hs a (by rw [e]; exact h.e i hi)
  rwa [set_same (l := L) (by rw [b]; exact h.l i hi)] at this
theorem Rel.setLV (h : Rel n k f G L V) {i : Nat} (hi : i < n) {y : Pr} (a : y.tm = (f i).tm) (b : y.rl = (f i).rl) (c : y.vt = (f i).vt) (d : y.bs = (f i).bs) (e : y.lg.length ≤ 30) : Rel n k (upd f i y) G (L.set i (lo y)) (V.set i (tup y)) := by
  obtain ⟨w, h1, h2⟩ := h.g i hi
  have := h.set3 hi (y := y) (w := w) (by rw [d]; exact h2) (by rw [a]; exact h.t1 i hi) e
  rwa [set_same (l := G) (by rw [a, b, c]; exact h1)] at this
/-- A greater term. -/
def know (p : Pr) (t : Int) : Pr := if p.tm < t then ⟨t, 0, -1, [], p.lg, p.su, p.hs, p.nx⟩ else p
theorem know_lo (p : Pr) (t : Int) : lo (know p t) = lo p := by unfold know; split <;> rfl
theorem know_tm (p : Pr) (t : Int) : (know p t).tm = if p.tm < t then t else p.tm := by unfold know; split <;> rfl
theorem know_both (h : Rel n k f G L V) (I : Inv n f g) {i : Nat} (hi : i < n) {t : Int} (h1 : t ≤ (k : Int)) :
    ∃ G' V', F36 G (i : Int) t = some G' ∧ F26 V (i : Int) t = some V' ∧ Rel n k (upd f i (know (f i) t)) G' L V' ∧ Inv n (upd f i (know (f i) t)) g := by
  obtain ⟨w, ig, hw⟩ := h.g i hi
  have iv := h.v i hi
  have hiv : i < V.length := by rw [h.lv]; exact hi
  by_cases c : (f i).tm < t
  · have e : know (f i) t = ⟨t, 0, -1, [], (f i).lg, (f i).su, (f i).hs, (f i).nx⟩ := if_pos c
    rw [e]
    refine ⟨G.set i (t, 0, -1, 0#32), V.set i (t, 0, -1, [], (f i).lg, (f i).su, (f i).hs, (f i).nx), by simp [F36, ig, c], ?_, h.setGV (w := 0#32) hi Same.zero h1 rfl, I.lower (by show (f i).tm ≤ t; omega) (fun q => by have q' : t = (f i).tm := q; omega) rfl rfl (.inl rfl)⟩
    simp [F26, iv, tup, c, idx_self hiv, List.set_set]
  · have e : know (f i) t = f i := if_neg c
    rw [e, upd_self]
    exact ⟨G, V, by simp [F36, ig, c], by simp [F26, iv, tup, c], h, I⟩
/-- A vote for one that stands. -/
def got (n : Nat) (p : Pr) (b : Int) : Pr :=
  if n < 2 * (if b ∈ p.bs then p.bs else p.bs ++ [b]).length then ⟨p.tm, 2, p.vt, if b ∈ p.bs then p.bs else p.bs ++ [b], p.lg, p.su, List.replicate n 0, List.replicate n (p.lg.length : Int)⟩
  else ⟨p.tm, p.rl, p.vt, if b ∈ p.bs then p.bs else p.bs ++ [b], p.lg, p.su, p.hs, p.nx⟩
theorem lead_val (h : Rel n k f G L V) (hn : n ≤ 6) {i : Nat} (hi : i < n) : F29 L (i : Int) = some (L.set i ((f i).lg, (f i).su, List.replicate n 0, List.replicate n ((f i).lg.length : Int))) := by
  have il := h.l i hi
  have hil : i < L.length := by rw [h.ll]; exact hi
  have m8 := mkl_rep hn (show 8 ≤ 128 by decide) (0 : Int)
  have rp := repeat_val hn (by have := h.ll; omega) ((f i).lg.length : Int)
  simp only [lo] at il
  simp [F29, h.ll, m8, il, idx_self hil, rp, List.set_set]
theorem nx_loop {i : Nat} (hi : i < n) (hn : n ≤ 6) (hv : V.length = n) (a b c : Int) (bs : List Int) (lg : List (Int × Int)) (s : Int) (hs : List Int) :
    whileM (F25_L0 (i : Int)) (V.set i (a, b, c, bs, lg, s, hs, List.replicate n 0), 0) = some (.brk (V.set i (a, b, c, bs, lg, s, hs, List.replicate n (lg.length : Int)))) := by
  have hiv : i < V.length := by omega
  have key := while_upto (body := F25_L0 (i : Int)) (fun j => (V.set i (a, b, c, bs, lg, s, hs, List.replicate j (lg.length : Int) ++ List.replicate (n - j) 0), (j : Int))) n (c := .brk (V.set i (a, b, c, bs, lg, s, hs, List.replicate n (lg.length : Int)))) (fun j hj => ?_) (by
      have hd : decide ((n : Int) < ((V.set i (a, b, c, bs, lg, s, hs, List.replicate n (lg.length : Int) ++ List.replicate (n - n) 0)).length : Int)) = false := by rw [decide_eq_false_iff_not, List.length_set]; omega
      simp only [F25_L0, hd, cond_false]; simp) (by simp)
  · simpa using key
  · have hd : decide ((j : Int) < ((V.set i (a, b, c, bs, lg, s, hs, List.replicate j (lg.length : Int) ++ List.replicate (n - j) 0)).length : Int)) = true := by rw [decide_eq_true_eq, List.length_set]; omega
    have hs' : n - j = (n - (j + 1)) + 1 := by omega
    have hx : idx (List.replicate j (lg.length : Int) ++ List.replicate (n - j) 0) (j : Int) = some 0 := idx_some (by rw [List.getElem?_append_right (by simp), List.length_replicate, Nat.sub_self, List.getElem?_replicate, if_pos (by omega)])
    simp only [F25_L0, hd, cond_true, idx_self hiv, Option.bind_some, hx, List.set_set, Int.toNat_natCast, w64_succ hj (by omega)]
    rw [hs', List.replicate_succ, List.set_append_right _ _ (by simp)]
    simp [List.replicate_succ']
theorem got_both (h : Rel n k f G L V) (hn : n ≤ 6) {i b : Nat} (hi : i < n) (hb : b < n) (hr : (f i).rl = 1) {led : List (Int × Int)} (hl : led.length ≤ 60) :
    ∃ G' V' L' led', F34 (G, led) (i : Int) (b : Int) = some (G', led') ∧ F25 (V, led) (i : Int) (b : Int) = some (V', led') ∧ led'.length ≤ led.length + 1 ∧
      cond ((got n (f i) (b : Int)).rl == 2) (F29 L (i : Int)) (some L) = some L' ∧ Rel n k (upd f i (got n (f i) (b : Int))) G' L' V' := by
  have hig : i < G.length := by rw [h.lg]; exact hi
  have hiv : i < V.length := by rw [h.lv]; exact hi
  obtain ⟨w, ig, hs'⟩ := h.g i hi
  have iv := h.v i hi
  have il := h.l i hi
  have hld := lead_val h hn hi
  have ht1 := h.t1 i hi
  have he := h.e i hi
  have set3 : ∀ {y : Pr} {w : BitVec 32}, Same n w y.bs → y.tm ≤ (k : Int) → y.lg.length ≤ 30 → _ := fun {y w} => h.set3 hi (y := y) (w := w)
  have setGV : ∀ {y : Pr} {w : BitVec 32}, Same n w y.bs → y.tm ≤ (k : Int) → lo y = lo (f i) → _ := fun {y w} => h.setGV hi (y := y) (w := w)
  have hbn : b < 32 := by omega
  generalize hp : f i = p at *
  rcases p with ⟨t, ro, vo, l, lg, su, hs, nx⟩
  simp only at hr ig hs' hld ht1 he
  subst hr
  simp only [tup] at iv
  have hle := hs'.le
  have hhas := has_val l (by omega) (b : Int)
  have m8 := mkl_rep hn (show 8 ≤ 128 by decide) (0 : Int)
  have ap := app1 16 (by decide) led (t, (i : Int)) hl
  generalize hL : (if (b : Int) ∈ l then l else l ++ [(b : Int)]) = l'
  have hsame : Same n (w ||| (1#32 <<< b)) l' := by
    by_cases hm : (b : Int) ∈ l
    · rw [if_pos hm] at hL; subst hL; exact hs'.old hbn hm
    · rw [if_neg hm] at hL; subst hL; exact hs'.new hb hn hm
  have hl6 := hsame.le
  have hpop := hsame.len hn
  have hw1 : w64 (2 * (l'.length : Int)) = 2 * (l'.length : Int) := w64i (by omega) (by omega)
  have hw2 : w64 ((l'.length : Int) * 2) = (l'.length : Int) * 2 := w64i (by omega) (by omega)
  have first : ∀ (K : List Vr → Option (List Vr × List (Int × Int))), (Option.bind (α := List Vr) (cond (!(decide ((b : Int) ∈ l))) (Option.bind (appl 8 l ([(b : Int)] : List Int)) fun (y19 : List Int) => some (V.set i (t, 1, vo, y19, lg, su, hs, nx))) (some V)) K) = K (V.set i (t, 1, vo, l', lg, su, hs, nx)) := fun K => by
    by_cases hm : (b : Int) ∈ l
    · rw [if_pos hm] at hL; subst hL
      rw [set_same iv]; simp [hm]
    · rw [if_neg hm] at hL; subst hL
      simp [hm, app1 8 (by decide) l (b : Int) (by omega)]
  by_cases c : (n : Int) < 2 * (l'.length : Int)
  · have c1 : n < 2 * l'.length := by omega
    have c2 : (n : Int) < (l'.length : Int) * 2 := by omega
    have hg : got n ⟨t, 1, vo, l, lg, su, hs, nx⟩ (b : Int) = ⟨t, 2, vo, l', lg, su, List.replicate n 0, List.replicate n (lg.length : Int)⟩ := by unfold got; simp only [hL]; rw [if_pos c1]
    rw [hg]
    have hloop := nx_loop (V := V) hi hn h.lv t 2 vo l' lg su (List.replicate n 0)
    refine ⟨G.set i (t, 2, vo, w ||| (1#32 <<< b)), V.set i (t, 2, vo, l', lg, su, List.replicate n 0, List.replicate n (lg.length : Int)), L.set i (lg, su, List.replicate n 0, List.replicate n (lg.length : Int)), led ++ [(t, (i : Int))], ?_, ?_, by simp, by rw [hld]; rfl, set3 hsame ht1 he⟩
    · simp [F34, ig, shc_nat, idx_self hig, hpop, hw1, h.lg, c, ap, List.set_set]
    · unfold F25
      simp only [iv, Option.bind_some, hhas, Int.toNat_natCast]
      rw [first]
      simp [idx_self hiv, hw2, h.lv, c2, ap, List.set_set, m8, hloop, Ctl.on]
  · have c1 : ¬ n < 2 * l'.length := by omega
    have c2 : ¬ (n : Int) < (l'.length : Int) * 2 := by omega
    have hg : got n ⟨t, 1, vo, l, lg, su, hs, nx⟩ (b : Int) = ⟨t, 1, vo, l', lg, su, hs, nx⟩ := by unfold got; simp only [hL]; rw [if_neg c1]
    rw [hg]
    refine ⟨G.set i (t, 1, vo, w ||| (1#32 <<< b)), V.set i (t, 1, vo, l', lg, su, hs, nx), L, led, ?_, ?_, by omega, rfl, setGV hsame ht1 rfl⟩
    · simp [F34, ig, shc_nat, idx_self hig, hpop, hw1, h.lg, c]
    · unfold F25
      simp only [iv, Option.bind_some, hhas, Int.toNat_natCast]
      rw [first]
      simp [idx_self hiv, hw2, h.lv, c2]
theorem got_inv (I : Inv n f g) {i b : Nat} (hi : i < n) (hb : b < n) (hr : (f i).rl = 1) (hv : g.vd b (f i).tm i) : ∃ g', Inv n (upd f i (got n (f i) (b : Int))) g' := by
  have hB : Bys n g i { f i with bs := if (b : Int) ∈ (f i).bs then (f i).bs else (f i).bs ++ [(b : Int)] } := by
    obtain ⟨h1, h2⟩ := I.b1 i hr
    by_cases hm : (b : Int) ∈ (f i).bs
    · rw [if_pos hm]; exact ⟨h1, h2⟩
    · rw [if_neg hm]
      refine ⟨?_, fun x hx => ?_⟩
      · show ((f i).bs ++ [(b : Int)]).Nodup
        rw [List.nodup_append]
        exact ⟨h1, by simp, fun a ha c hc => by simp at hc; subst hc; exact fun e => hm (e ▸ ha)⟩
      · rcases List.mem_append.1 hx with hx | hx
        · exact h2 x hx
        · simp at hx; exact ⟨b, hb, hx, hv⟩
  have I1 := I.minor (i := i) (y := { f i with bs := if (b : Int) ∈ (f i).bs then (f i).bs else (f i).bs ++ [(b : Int)] }) rfl rfl rfl rfl (fun _ => hB) (fun h => by have h' : (f i).rl = 2 := h; omega) (I.u1 i)
  unfold got
  by_cases c : n < 2 * (if (b : Int) ∈ (f i).bs then (f i).bs else (f i).bs ++ [(b : Int)]).length
  · rw [if_pos c]
    obtain ⟨g', I2⟩ := I1.elect (c := i) (by rw [upd_eq]; exact hr) (by rw [upd_eq]; exact c) rfl
    rw [upd_twice, upd_eq] at I2
    exact ⟨g', I2⟩
  · rw [if_neg c]; exact ⟨g, I1⟩
theorem got_rl {p : Pr} {b : Int} (h : p.rl = 1) : (got n p b).rl = 1 ∨ (got n p b).rl = 2 := by
  unfold got
  by_cases c : n < 2 * (if b ∈ p.bs then p.bs else p.bs ++ [b]).length
  · rw [if_pos c]; exact .inr rfl
  · rw [if_neg c]; exact .inl h
end
end Go.Proofs.Ytacggcanjanmkaa

namespace Go.Proofs.Ytacggcanjanmkaa
open Go Go.Bk
set_option linter.unusedVariables false
set_option linter.unusedSimpArgs false
set_option linter.unusedSectionVars false
theorem bind_id {α : Type} (x : Option α) : (Option.bind x fun r => some r) = x := by cases x <;> rfl
section
variable {n k : Nat} {f : Nat → Pr} {G : List One} {L : List Lo} {V : List Vr} {g : Gh} {led : List (Int × Int)} {x : Mv}
def Both (n k : Nat) (G : List One) (L : List Lo) (V : List Vr) (led : List (Int × Int)) (x : Mv) : Prop :=
  ∃ (e : Int) (G' : List One) (L' : List Lo) (V' : List Vr) (led' : List (Int × Int)) (f' : Nat → Pr) (g' : Gh), F11 ((G, led), L) x = some (e, ((G', led'), L')) ∧ F16 (V, led) x true = some (e, (V', led')) ∧ Rel n (k + 1) f' G' L' V' ∧ Inv n f' g' ∧ led'.length ≤ k + 1
variable (h : Rel n k f G L V) (I : Inv n f g) (hn : n ≤ 6) (hk : k < 60) (hl : led.length ≤ k)
theorem f18 {m i : Nat} (h : i < m) : F18 (i : Int) m = some false := by
  have f1 : ¬ m ≤ i := by omega
  have f2 : ¬ (i : Int) < 0 := by omega
  unfold F18; simp [f1, f2]
theorem f24a {n i : Nat} (hi : i < n) (q a b : Int) : F24 (n : Int) (q, (i : Int), a, b) false = some true := by
  have f1 : ¬ n ≤ i := by omega
  have f2 : ¬ (i : Int) < 0 := by omega
  unfold F24; simp [f1, f2]
theorem f24b {n i j : Nat} (hi : i < n) (hj : j < n) (hij : j ≠ i) (q b : Int) : F24 (n : Int) (q, (i : Int), (j : Int), b) true = some true := by
  have f1 : ¬ n ≤ i := by omega
  have f2 : ¬ (i : Int) < 0 := by omega
  have f3 : ((j : Int) != (i : Int)) = true := by simp; omega
  unfold F24; simp [f1, f2, f3, hj]
include h I hn hk hl
theorem stands {i : Nat} {a b : Int} (hx : x = (1, (i : Int), a, b)) (hi : i < n) : Both n k G L V led x := by
  subst hx
  have hig : i < G.length := by rw [h.lg]; exact hi
  have hiv : i < V.length := by rw [h.lv]; exact hi
  obtain ⟨w, ig, hw⟩ := h.g i hi
  have iv := h.v i hi
  have e18 := f18 hi
  have e24 := f24a hi 1 a b
  simp only [tup] at iv
  by_cases c : (f i).rl = 2
  · exact ⟨7, G, L, V, led, f, g, by simp [F11, F19, F28, e18, h.ll, ig, c], by simp [F16, e24, h.lv, iv, c], h.up, I, by omega⟩
  · have c3 : ((f i).rl == 2) = false := by simpa using c
    have ht := h.t1 i hi
    have h0 := I.t0 i
    have hw : w64 ((f i).tm + 1) = (f i).tm + 1 := w64i (by omega) (by omega)
    have R := h.up.setGV hi (y := ⟨(f i).tm + 1, 1, (i : Int), [], (f i).lg, (f i).su, (f i).hs, (f i).nx⟩) (w := 0#32) Same.zero (by show (f i).tm + 1 ≤ ((k + 1 : Nat) : Int); push_cast; omega) rfl
    obtain ⟨g1, I1, v1⟩ := I.stand hi (y := ⟨(f i).tm + 1, 1, (i : Int), [], (f i).lg, (f i).su, (f i).hs, (f i).nx⟩) rfl rfl rfl rfl rfl rfl
    obtain ⟨G', V', L', led', q1, q2, q3, q4, q5⟩ := got_both R hn hi hi (by rw [upd_eq]) (led := led) (by omega)
    obtain ⟨g2, I2⟩ := got_inv I1 hi hi (by rw [upd_eq]) (by rw [upd_eq]; exact v1)
    refine ⟨0, G', L', V', led', _, g2, ?_, ?_, q5, I2, by omega⟩
    · obtain ⟨w', r1, _⟩ := q5.g i hi
      rw [upd_eq] at r1
      generalize hrl : (got n (upd f i ⟨(f i).tm + 1, 1, (i : Int), [], (f i).lg, (f i).su, (f i).hs, (f i).nx⟩ i) (i : Int)).rl = rr at q4 r1
      simp only [tup] at q1
      simp [F11, F19, F28, F13, e18, h.ll, ig, c3, hw, q1, r1, bind_id, q4]
    · simp only [tup] at q2
      simp [F16, e24, h.lv, iv, c3, hw, idx_self hiv, List.set_set, q2]
theorem crashes {i : Nat} {a b : Int} (hx : x = (6, (i : Int), a, b)) (hi : i < n) : Both n k G L V led x := by
  subst hx
  have hig : i < G.length := by rw [h.lg]; exact hi
  have hiv : i < V.length := by rw [h.lv]; exact hi
  obtain ⟨w, ig, hw⟩ := h.g i hi
  have iv := h.v i hi
  have il := h.l i hi
  have e18 := f18 hi
  have e24 := f24a hi 6 a b
  simp only [tup] at iv
  simp only [lo] at il
  have ht := h.t1 i hi
  have R := h.up.set3 hi (y := ⟨(f i).tm, 0, (f i).vt, [], (f i).lg, 0, (f i).hs, (f i).nx⟩) (w := 0#32) Same.zero (by show (f i).tm ≤ ((k + 1 : Nat) : Int); push_cast; omega) (h.e i hi)
  have I1 := I.lower (i := i) (y := ⟨(f i).tm, 0, (f i).vt, [], (f i).lg, 0, (f i).hs, (f i).nx⟩) (Int.le_refl _) (fun _ => rfl) rfl rfl (.inr rfl)
  refine ⟨0, _, _, _, led, _, g, ?_, ?_, R, I1, by omega⟩
  · simp [F11, F23, e18, h.ll, ig, il, lo, idx_self hig, List.set_set]
  · simp [F16, e24, h.lv, iv, tup, idx_self hiv, List.set_set]
theorem votes {i j : Nat} {b : Int} (hx : x = (2, (i : Int), (j : Int), b)) (hi : i < n) (hj : j < n) (hij : j ≠ i) : Both n k G L V led x := by
  subst hx
  obtain ⟨wi, ig, hwi⟩ := h.g i hi
  obtain ⟨wj, jg, hwj⟩ := h.g j hj
  have iv := h.v i hi
  have jv := h.v j hj
  have il := h.l i hi
  have jl := h.l j hj
  have e18 := f18 hi
  have e18j := f18 hj
  have e24 := f24b hi hj hij 2 b
  have hne : ((i : Int) == (j : Int)) = false := by simp; omega
  have hne2 : ¬ (i : Int) = (j : Int) := by omega
  have hgd := good_val (f j).lg (f i).lg (by have := h.e j hj; omega) (by have := h.e i hi; omega)
  have hlj := last_val (f j).lg (by have := h.e j hj; omega)
  have hli := last_val (f i).lg (by have := h.e i hi; omega)
  have hbad := bad_val (f j).lg (f i).lg
  simp only [tup] at iv jv
  simp only [lo] at il jl
  by_cases c : (f j).rl = 1
  · have c1 : ((f j).rl != 1) = false := by simp [c]
    have c0 : ((f j).rl == 2) = false := by simp [c]
    have htj := h.t1 j hj
    obtain ⟨G1, V1, q1, q2, R1, I1⟩ := know_both h.up I hi (t := (f j).tm) (by push_cast; omega)
    obtain ⟨wi1, ig1, hwi1⟩ := R1.g i hi
    obtain ⟨wj1, jg1, hwj1⟩ := R1.g j hj
    have iv1 := R1.v i hi
    have jv1 := R1.v j hj
    rw [upd_eq] at ig1 iv1 hwi1
    rw [upd_ne hij] at jg1 jv1 hwj1
    have hlg1 : (know (f i) (f j).tm).lg = (f i).lg := congrArg (·.1) (know_lo (f i) (f j).tm)
    have htm1 := know_tm (f i) (f j).tm
    have ht1i := R1.t1 i hi
    rw [upd_eq] at ht1i
    generalize hp1 : know (f i) (f j).tm = p1 at *
    simp only [tup] at iv1 jv1
    by_cases c3 : (f j).tm < p1.tm
    · obtain ⟨G2, V2, q3, q4, R2, I2⟩ := know_both R1 I1 hj (t := p1.tm) ht1i
      obtain ⟨wj2, jg2, _⟩ := R2.g j hj
      have hrl : (know (f j) p1.tm).rl = 0 := by unfold know; rw [if_pos c3]
      rw [upd_eq, upd_ne hij, hrl] at jg2
      refine ⟨8, G2, L, V2, led, _, g, ?_, ?_, R2, I2, by omega⟩
      · simp [F11, F20, F30, F13, e18, e18j, h.ll, hne, hne2, jg, il, jl, hgd, c, q1, ig1, jg1, c3, q3, jg2]
      · simp [F16, e24, h.lv, iv, jv, c, q2, iv1, jv1, c3, q4]
    · have c3' : decide (p1.tm > (f j).tm) = false := by simpa using c3
      have hteq : p1.tm = (f j).tm := by
        rw [htm1] at c3 ⊢; split at c3 <;> split <;> omega
      cases hG : (((decide (p1.vt ≥ 0)) && (p1.vt != (j : Int))) || (!goodB (f j).lg (f i).lg)) with
      | true =>
        refine ⟨7, G1, L, V1, led, _, g, ?_, ?_, R1, I1, by omega⟩
        · simp only [F11, F20, F30, F13, e18, e18j, h.ll, hne, jg, il, jl, hgd, c0, c1, q1, ig1, jg1, c3', hG, Option.bind_some, cond_true, cond_false, Bool.or_false, Bool.false_or, Bool.not_false, show (decide ((2 : Int) < 1)) = false from rfl, show (decide ((2 : Int) > 6)) = false from rfl, show ((2 : Int) == 1) = false from rfl, show ((2 : Int) == 2) = true from rfl, show ((2 : Int) == 3) = false from rfl]
        · cases hv : ((decide (p1.vt ≥ 0)) && (p1.vt != (j : Int))) with
          | true =>
            have e1 : (cond (decide (p1.vt ≥ 0)) (some (p1.vt != (j : Int))) (some false)) = some true := by
              simp only [Bool.and_eq_true] at hv
              rw [hv.1, hv.2]; rfl
            simp only [F16, e24, h.lv, iv, jv, c1, q2, iv1, jv1, c3', e1, Option.bind_some, cond_true, cond_false, Bool.or_false, Bool.false_or, Bool.not_true, Bool.and_false, Bool.false_and, show (decide ((2 : Int) < 1)) = false from rfl, show (decide ((2 : Int) > 6)) = false from rfl, show ((2 : Int) == 1) = false from rfl, show ((2 : Int) == 2) = true from rfl, show ((2 : Int) == 3) = false from rfl]
          | false =>
            rw [hv] at hG
            have hG' : (!goodB (f j).lg (f i).lg) = true := by simpa using hG
            rw [hG'] at hbad
            have e1 : (cond (decide (p1.vt ≥ 0)) (some (p1.vt != (j : Int))) (some false)) = some false := by
              cases z : decide (p1.vt ≥ 0) with
              | false => rfl
              | true => rw [z] at hv; simp at hv; simp [hv]
            simp only [F16, e24, h.lv, iv, jv, c1, q2, iv1, jv1, c3', e1, hlg1, hlj, hli, hbad, Option.bind_some, cond_true, cond_false, Bool.or_false, Bool.false_or, Bool.not_true, Bool.and_false, Bool.false_and, show (decide ((2 : Int) < 1)) = false from rfl, show (decide ((2 : Int) > 6)) = false from rfl, show ((2 : Int) == 1) = false from rfl, show ((2 : Int) == 2) = true from rfl, show ((2 : Int) == 3) = false from rfl]
      | false =>
        have hG2 := hG
        rw [Bool.or_eq_false_iff] at hG2
        obtain ⟨hv, hg⟩ := hG2
        have hgood : Good (f j).lg p1.lg := by rw [hlg1]; exact goodB_iff.1 (by simpa using hg)
        have hvt : p1.vt < 0 ∨ p1.vt = (j : Int) := by
          simp only [Bool.and_eq_false_iff, decide_eq_false_iff_not, bne_eq_false_iff_eq] at hv
          omega
        obtain ⟨g2, I2, v2, _⟩ := I1.vote (i := i) (c := j) hi (y := { p1 with vt := (j : Int) }) (by rw [upd_ne hij]; exact c) (by rw [upd_eq, upd_ne hij]; exact hteq) (by rw [upd_eq]; exact hvt) (by rw [upd_eq, upd_ne hij]; exact hgood) (by rw [upd_eq])
        have R2 := R1.setGV hi (y := { p1 with vt := (j : Int) }) (w := wi1) hwi1 ht1i (by rw [upd_eq]; rfl)
        rw [upd_twice] at I2 R2
        rw [upd_ne hij] at v2
        obtain ⟨G', V', L', led', q5, q6, q7, q8, R3⟩ := got_both R2 hn hj hi (by rw [upd_ne hij]; exact c) (led := led) (by omega)
        obtain ⟨g3, I3⟩ := got_inv I2 hj hi (by rw [upd_ne hij]; exact c) (by rw [upd_ne hij]; exact v2)
        refine ⟨0, G', L', V', led', _, g3, ?_, ?_, R3, I3, by omega⟩
        · obtain ⟨w', r1, _⟩ := R3.g j hj
          rw [upd_eq] at r1
          generalize hrl : (got n (upd f i { p1 with vt := (j : Int) } j) (i : Int)).rl = rr at q8 r1
          simp only [F11, F20, F30, F13, e18, e18j, h.ll, hne, jg, il, jl, hgd, c0, c1, q1, ig1, jg1, c3', hG, Option.bind_some, cond_true, cond_false, Bool.or_false, Bool.false_or, Bool.not_false, Int.toNat_natCast, q5, r1, bind_id, q8, show (decide ((2 : Int) < 1)) = false from rfl, show (decide ((2 : Int) > 6)) = false from rfl, show ((2 : Int) == 1) = false from rfl, show ((2 : Int) == 2) = true from rfl, show ((2 : Int) == 3) = false from rfl]
        · have hG' : (!goodB (f j).lg (f i).lg) = false := hg
          rw [hG'] at hbad
          have e1 : (cond (decide (p1.vt ≥ 0)) (some (p1.vt != (j : Int))) (some false)) = some false := by
            cases z : decide (p1.vt ≥ 0) with
            | false => rfl
            | true => rw [z] at hv; simp at hv; simp [hv]
          simp only [tup, hlg1] at q6
          simp only [F16, e24, h.lv, iv, jv, c1, q2, iv1, jv1, c3', e1, hlg1, hlj, hli, hbad, Option.bind_some, cond_true, cond_false, Bool.or_false, Bool.false_or, Bool.not_true, Bool.and_false, Bool.false_and, Int.toNat_natCast, q6, show (decide ((2 : Int) < 1)) = false from rfl, show (decide ((2 : Int) > 6)) = false from rfl, show ((2 : Int) == 1) = false from rfl, show ((2 : Int) == 2) = true from rfl, show ((2 : Int) == 3) = false from rfl]
  · have c1 : ((f j).rl != 1) = true := by simpa using c
    refine ⟨5, G, L, V, led, f, g, ?_, ?_, h.up, I, by omega⟩
    · by_cases c2 : (f j).rl = 2
      · simp [F11, F20, F30, F13, e18, e18j, h.ll, hne, hne2, jg, il, jl, hgd, c2]
      · have c3 : ((f j).rl == 2) = false := by simpa using c2
        simp [F11, F20, F30, F13, e18, e18j, h.ll, hne, hne2, jg, il, jl, hgd, c, c2, c1, c3]
    · simp only [F16, e24, h.lv, iv, jv, c1, Option.bind_some, cond_true, cond_false, Bool.or_false, Bool.false_or, Bool.not_true, Bool.false_and, show (decide ((2 : Int) < 1)) = false from rfl, show (decide ((2 : Int) > 6)) = false from rfl, show ((2 : Int) == 1) = false from rfl, show ((2 : Int) == 2) = true from rfl, show ((2 : Int) == 3) = false from rfl]
end
end Go.Proofs.Ytacggcanjanmkaa

namespace Go.Proofs.Ytacggcanjanmkaa
open Go Go.Bk
set_option linter.unusedVariables false
set_option linter.unusedSimpArgs false
set_option linter.unusedSectionVars false
theorem app2 {α : Type} (b : Nat) (hb : b ≤ 128) (l m : List α) (h : l.length ≤ 60) (h2 : m.length ≤ 60) : appl b l m = some (l ++ m) := by
  unfold appl; rw [if_pos]
  have : (l.length + m.length) * b ≤ 120 * 128 := Nat.mul_le_mul (by omega) hb
  omega
def badP (a b : List (Int × Int)) (K : Nat) : Bool := decide (b.length < K) || (decide (0 < K) && !decide (a[K - 1]? = b[K - 1]?))
theorem eq2 {x y : Int × Int} : ((x.1 == y.1) && ((x.2 == y.2) && true)) = decide (x = y) := by
  rw [Bool.eq_iff_iff]
  simp only [Bool.and_eq_true, beq_iff_eq, decide_eq_true_eq, and_true]
  exact ⟨fun h => Prod.ext h.1 h.2, fun h => by subst h; exact ⟨rfl, rfl⟩⟩
theorem badP_val {a b : List (Int × Int)} {K : Nat} (h : K ≤ a.length) (hl : a.length ≤ 1000) :
    (cond (decide ((K : Int) > (b.length : Int))) (some true) (Option.bind (cond (decide ((K : Int) > 0)) (Option.bind (idx a (w64 ((K : Int) - 1))) fun x24 => Option.bind (idx b (w64 ((K : Int) - 1))) fun x26 => some (!((x24.1 == x26.1) && ((x24.2 == x26.2) && true)))) (some false)) fun b22 => some b22)) = some (badP a b K) ∧
    (cond (decide ((K : Int) > (b.length : Int))) (some true) (Option.bind (cond (decide ((K : Int) > 0)) (Option.bind (idx b (w64 ((K : Int) - 1))) fun x24 => Option.bind (idx a (w64 ((K : Int) - 1))) fun x26 => some (!((x24.1 == x26.1) && ((x24.2 == x26.2) && true)))) (some false)) fun b22 => some b22)) = some (badP a b K) := by
  unfold badP
  by_cases c : b.length < K
  · have c1 : decide ((K : Int) > (b.length : Int)) = true := by rw [decide_eq_true_eq]; omega
    simp [c1, c]
  · have c1 : decide ((K : Int) > (b.length : Int)) = false := by rw [decide_eq_false_iff_not]; omega
    by_cases z : K = 0
    · subst z
      have c2 : ¬ (b.length : Int) < 0 := by omega
      simp [c2, c]
    · have z1 : decide ((K : Int) > 0) = true := by rw [decide_eq_true_eq]; omega
      have z2 : decide (0 < K) = true := by rw [decide_eq_true_eq]; omega
      have hw : w64 ((K : Int) - 1) = ((K - 1 : Nat) : Int) := by rw [w64i (x := (K : Int) - 1) (by omega) (by omega)]; omega
      have ga : a[K - 1]? = some a[K - 1] := List.getElem?_eq_getElem (by omega)
      have gb : b[K - 1]? = some b[K - 1] := List.getElem?_eq_getElem (by omega)
      rw [hw]
      simp only [c1, z1, z2, cond_true, cond_false, idx_some ga, idx_some gb, Option.bind_some, eq2, ga, gb, Option.some.injEq, c, decide_false, Bool.false_or, Bool.true_and]
      refine ⟨trivial, ?_⟩
      by_cases e : a[K - 1] = b[K - 1]
      · rw [e]
      · have e2 : ¬ b[K - 1] = a[K - 1] := fun q => e q.symm
        simp [e, e2]
theorem match_loop {p q : Lo} (hp : p.1.length ≤ 1000) (hq : q.1.length ≤ 1000) : ∀ (m K : Nat), K + m = p.1.length → K ≤ q.1.length →
    ∃ K' : Nat, K ≤ K' ∧ K' ≤ p.1.length ∧ K' ≤ q.1.length ∧ whileM (F21_L0 p q) (K : Int) = some (.brk (K' : Int)) ∧ (∀ m, K ≤ m → m < K' → p.1[m]? = q.1[m]?) ∧ (K' < p.1.length → K' < q.1.length → p.1[K']? ≠ q.1[K']?) := by
  intro m
  induction m with
  | zero =>
    intro K hK hq'
    have c1 : decide ((K : Int) < (p.1.length : Int)) = false := by rw [decide_eq_false_iff_not]; omega
    exact ⟨K, Nat.le_refl _, by omega, hq', whileM_brk (by simp only [F21_L0, c1, Bool.false_and, cond_false, Option.bind_some]), fun m h1 h2 => by omega, fun h => by omega⟩
  | succ m ih =>
    intro K hK hq'
    have c1 : decide ((K : Int) < (p.1.length : Int)) = true := by rw [decide_eq_true_eq]; omega
    by_cases c2 : K < q.1.length
    · have c3 : decide ((K : Int) < (q.1.length : Int)) = true := by rw [decide_eq_true_eq]; omega
      have ga : p.1[K]? = some p.1[K] := List.getElem?_eq_getElem (by omega)
      have gb : q.1[K]? = some q.1[K] := List.getElem?_eq_getElem c2
      by_cases e : p.1[K] = q.1[K]
      · have hb : F21_L0 p q (K : Int) = some (.nxt ((K + 1 : Nat) : Int)) := by
          have e' : decide (p.1[K] = q.1[K]) = true := decide_eq_true e
          simp only [F21_L0, c1, c3, Bool.and_self, cond_true, idx_some ga, idx_some gb, Option.bind_some, eq2, e', w64_succ c2 (by omega)]
        obtain ⟨K', h1, h2, h3, h4, h5, h6⟩ := ih (K + 1) (by omega) (by omega)
        refine ⟨K', by omega, h2, h3, by rw [whileM_nxt hb]; exact h4, fun m h7 h8 => ?_, h6⟩
        by_cases z : m = K
        · subst z; rw [ga, gb, e]
        · exact h5 m (by omega) h8
      · refine ⟨K, Nat.le_refl _, by omega, by omega, whileM_brk ?_, fun m h1 h2 => by omega, fun _ _ q => e (by rw [ga, gb] at q; exact Option.some.inj q)⟩
        have e' : decide (p.1[K] = q.1[K]) = false := decide_eq_false e
        simp only [F21_L0, c1, c3, Bool.and_self, cond_true, cond_false, idx_some ga, idx_some gb, Option.bind_some, eq2, e']
    · have c3 : decide ((K : Int) < (q.1.length : Int)) = false := by rw [decide_eq_false_iff_not]; omega
      exact ⟨K, Nat.le_refl _, by omega, hq', whileM_brk (by simp only [F21_L0, c1, c3, Bool.and_false, cond_false, Option.bind_some]), fun m h1 h2 => by omega, fun _ h => by omega⟩
theorem set_get {α : Type} {l : List α} {j z : Nat} {v w : α} (h : (l.set j w)[z]? = some v) : (z = j ∧ v = w) ∨ l[z]? = some v := by
  by_cases e : j = z
  · subst e
    have hl := get_lt h
    rw [List.length_set] at hl
    rw [List.getElem?_set_self hl] at h
    exact .inl ⟨rfl, (Option.some.inj h).symm⟩
  · rw [List.getElem?_set_ne e] at h; exact .inr h
theorem take_of_get {α : Type} {a b : List α} {K : Nat} (h : ∀ m, m < K → a[m]? = b[m]?) : a.take K = b.take K := by
  apply List.ext_getElem?
  intro m
  rw [List.getElem?_take, List.getElem?_take]
  split
  · exact h m ‹_›
  · rfl
section
variable {n k : Nat} {f : Nat → Pr} {G : List One} {L : List Lo} {V : List Vr} {g : Gh} {led : List (Int × Int)} {x : Mv}
variable (h : Rel n k f G L V) (I : Inv n f g) (hn : n ≤ 6) (hk : k < 60) (hl : led.length ≤ k)
include h I hn hk hl
theorem adds {i : Nat} {a v : Int} (hx : x = (4, (i : Int), a, v)) (hi : i < n) : Both n k G L V led x := by
  subst hx
  have hiv : i < V.length := by rw [h.lv]; exact hi
  obtain ⟨w, ig, hw⟩ := h.g i hi
  have iv := h.v i hi
  have il := h.l i hi
  have he := h.e i hi
  have e18 := f18 hi
  have e24 := f24a hi 4 a v
  simp only [tup] at iv
  simp only [lo] at il
  by_cases c : (f i).rl = 2
  · have c1 : ((f i).rl != 2) = false := by simp [c]
    by_cases c2 : (f i).lg.length ≥ 30
    · have c3 : decide (((f i).lg.length : Int) ≥ 30) = true := by rw [decide_eq_true_eq]; omega
      refine ⟨1, G, L, V, led, f, g, ?_, ?_, h.up, I, by omega⟩
      · simp only [F11, F13, e18, h.ll, ig, il, c1, c3, Option.bind_some, cond_true, cond_false, Bool.or_false, Bool.false_or, show (decide ((4 : Int) < 1)) = false from rfl, show (decide ((4 : Int) > 6)) = false from rfl, show ((4 : Int) == 1) = false from rfl, show ((4 : Int) == 2) = false from rfl, show ((4 : Int) == 3) = false from rfl, show ((4 : Int) == 5) = false from rfl, show ((4 : Int) == 6) = false from rfl]
      · simp only [F16, e24, h.lv, iv, c1, c3, Option.bind_some, cond_true, cond_false, Bool.or_false, Bool.false_or, Bool.not_true, Bool.false_and, show (decide ((4 : Int) < 1)) = false from rfl, show (decide ((4 : Int) > 6)) = false from rfl, show ((4 : Int) == 1) = false from rfl, show ((4 : Int) == 2) = false from rfl, show ((4 : Int) == 3) = false from rfl, show ((4 : Int) == 4) = true from rfl]
    · have c3 : decide (((f i).lg.length : Int) ≥ 30) = false := by rw [decide_eq_false_iff_not]; omega
      have R := h.up.setLV hi (y := { f i with lg := (f i).lg ++ [((f i).tm, v)] }) rfl rfl rfl rfl (by show ((f i).lg ++ [((f i).tm, v)]).length ≤ 30; simp; omega)
      obtain ⟨g', I1⟩ := I.add (i := i) (v := v) c rfl
      have ap := app1 16 (by decide) (f i).lg ((f i).tm, v) (by omega)
      have ap2 := app2 16 (by decide) ([] : List (Int × Int)) (f i).lg (by simp) (by omega)
      refine ⟨0, _, _, _, led, _, g', ?_, ?_, R, I1, by omega⟩
      · simp only [F11, F12, F13, e18, h.ll, ig, il, c1, c3, ap, lo, Int.toNat_natCast, Option.bind_some, cond_true, cond_false, Bool.or_false, Bool.false_or, show (decide ((4 : Int) < 1)) = false from rfl, show (decide ((4 : Int) > 6)) = false from rfl, show ((4 : Int) == 1) = false from rfl, show ((4 : Int) == 2) = false from rfl, show ((4 : Int) == 3) = false from rfl, show ((4 : Int) == 5) = false from rfl, show ((4 : Int) == 6) = false from rfl]
      · simp only [F16, e24, h.lv, iv, c1, c3, ap, ap2, List.nil_append, tup, Int.toNat_natCast, Option.bind_some, cond_true, cond_false, Bool.or_false, Bool.false_or, Bool.not_true, Bool.false_and, show (decide ((4 : Int) < 1)) = false from rfl, show (decide ((4 : Int) > 6)) = false from rfl, show ((4 : Int) == 1) = false from rfl, show ((4 : Int) == 2) = false from rfl, show ((4 : Int) == 3) = false from rfl, show ((4 : Int) == 4) = true from rfl]
  · have c1 : ((f i).rl != 2) = true := by simpa using c
    refine ⟨5, G, L, V, led, f, g, ?_, ?_, h.up, I, by omega⟩
    · simp only [F11, F13, e18, h.ll, ig, il, c1, Option.bind_some, cond_true, cond_false, Bool.or_false, Bool.false_or, show (decide ((4 : Int) < 1)) = false from rfl, show (decide ((4 : Int) > 6)) = false from rfl, show ((4 : Int) == 1) = false from rfl, show ((4 : Int) == 2) = false from rfl, show ((4 : Int) == 3) = false from rfl, show ((4 : Int) == 5) = false from rfl, show ((4 : Int) == 6) = false from rfl]
    · simp only [F16, e24, h.lv, iv, c1, Option.bind_some, cond_true, cond_false, Bool.or_false, Bool.false_or, Bool.not_true, Bool.false_and, show (decide ((4 : Int) < 1)) = false from rfl, show (decide ((4 : Int) > 6)) = false from rfl, show ((4 : Int) == 1) = false from rfl, show ((4 : Int) == 2) = false from rfl, show ((4 : Int) == 3) = false from rfl, show ((4 : Int) == 4) = true from rfl]
theorem sends {i j : Nat} {b : Int} (hx : x = (3, (i : Int), (j : Int), b)) (hi : i < n) (hj : j < n) (hij : j ≠ i) : Both n k G L V led x := by
  subst hx
  obtain ⟨wi, ig, hwi⟩ := h.g i hi
  obtain ⟨wj, jg, hwj⟩ := h.g j hj
  have iv := h.v i hi
  have jv := h.v j hj
  have il := h.l i hi
  have jl := h.l j hj
  have e18 := f18 hi
  have e18j := f18 hj
  have e24 := f24b hi hj hij 3 b
  have hne : ((i : Int) == (j : Int)) = false := by simp; omega
  have hne2 : ¬ (i : Int) = (j : Int) := by omega
  have hei := h.e i hi
  have hej := h.e j hj
  simp only [tup] at iv jv
  simp only [lo] at il jl
  have k1 : (decide ((3 : Int) < 1)) = false := rfl
  have k2 : (decide ((3 : Int) > 6)) = false := rfl
  have k3 : ((3 : Int) == 1) = false := rfl
  have k4 : ((3 : Int) == 2) = false := rfl
  have k5 : ((3 : Int) == 3) = true := rfl
  have k6 : ((0 : Int) != 0) = false := rfl
  by_cases c : (f i).rl = 2
  · have c1 : ((f i).rl != 2) = false := by simp [c]
    by_cases c3 : (f i).tm < (f j).tm
    · obtain ⟨G1, V1, q1, q2, R1, I1⟩ := know_both h.up I hi (t := (f j).tm) (by have := h.t1 j hj; push_cast; omega)
      have c4 : decide ((f j).tm > (f i).tm) = true := by simpa using c3
      refine ⟨8, G1, L, V1, led, _, g, ?_, ?_, R1, I1, by omega⟩
      · simp only [F11, F21, F32, e18, e18j, h.ll, hne, ig, jg, c1, c4, q1, k1, k2, k3, k4, k5, show ((8 : Int) != 0) = true from rfl, Option.bind_some, cond_true, cond_false, Bool.or_false, Bool.false_or, Bool.or_true]
      · simp only [F16, e24, h.lv, iv, jv, c1, c4, q2, k1, k2, k3, k4, k5, Option.bind_some, cond_true, cond_false, Bool.or_false, Bool.false_or, Bool.or_true, Bool.not_true, Bool.false_and]
    · have c4 : decide ((f j).tm > (f i).tm) = false := by simpa using c3
      obtain ⟨G1, V1, q1, q2, R1, I1⟩ := know_both h.up I hj (t := (f i).tm) (by have := h.t1 i hi; push_cast; omega)
      obtain ⟨wj1, jg1, hwj1⟩ := R1.g j hj
      have jv1 := R1.v j hj
      rw [upd_eq] at jg1 jv1 hwj1
      have hlo := know_lo (f j) (f i).tm
      have htm : (know (f j) (f i).tm).tm = (f i).tm := by rw [know_tm]; split <;> omega
      have htk := R1.t1 j hj
      rw [upd_eq] at htk
      generalize hp1 : know (f j) (f i).tm = p1 at *
      -- the other one follows
      have R2 := R1.setGV hj (y := { p1 with rl := 0 }) (w := wj1) hwj1 htk (by rw [upd_eq]; rfl)
      have I2 := I1.lower (i := j) (y := { p1 with rl := 0 }) (by rw [upd_eq]; exact Int.le_refl _) (fun _ => by rw [upd_eq]) (by rw [upd_eq]) rfl (.inl (by rw [upd_eq]))
      rw [upd_twice] at R2 I2
      generalize hpj : ({ p1 with rl := 0 } : Pr) = pj at *
      have pjr : pj.rl = 0 := by rw [← hpj]
      have pjt : pj.tm = (f i).tm := by rw [← hpj]; exact htm
      have plo : lo pj = lo (f j) := by rw [← hpj]; exact hlo
      have plg : pj.lg = (f j).lg := congrArg (·.1) plo
      have psu : pj.su = (f j).su := congrArg (·.2.1) plo
      have phs : pj.hs = (f j).hs := congrArg (·.2.2.1) plo
      have pnx : pj.nx = (f j).nx := congrArg (·.2.2.2) plo
      have f1i : upd f j pj i = f i := upd_ne (fun e => hij e.symm)
      have f1j : upd f j pj j = pj := upd_eq
      have hl1 := I2.l1 i (by rw [f1i]; exact c)
      have hh1 := I2.h1 i (by rw [f1i]; exact c)
      have hu1 := I2.u1 i
      have hw1 := I2.w1 i
      have hw2 := I2.w1 j
      have hu2 := I2.u1 j
      rw [f1i] at hl1 hh1 hu1 hw1
      rw [f1j] at hw2 hu2
      have hV2 : (V1.set j (tup pj)).length = n := R2.lv
      have hG2 : G1.set j (p1.tm, 0, p1.vt, wj1) = G1.set j (pj.tm, pj.rl, pj.vt, wj1) := by rw [← hpj]
      obtain ⟨hhl, hnl, hh, hnn⟩ := hh1
      obtain ⟨u1, u2, u3⟩ := hu1
      have jn : j < (f i).nx.length := by rw [hnl]; exact hj
      have jh : j < (f i).hs.length := by rw [hhl]; exact hj
      have hnj : (f i).nx[j]? = some (f i).nx[j] := List.getElem?_eq_getElem jn
      have hhj : (f i).hs[j]? = some (f i).hs[j] := List.getElem?_eq_getElem jh
      obtain ⟨n1, n2⟩ := hnn j _ hnj
      obtain ⟨K, hK⟩ := nat_of n1
      have hnj' : idx (f i).nx (j : Int) = some (K : Int) := by rw [idx_some hnj, hK]
      have hKl : K ≤ (f i).lg.length := by omega
      obtain ⟨bp, br⟩ := badP_val (a := (f i).lg) (b := pj.lg) hKl (by omega)
      have iv2 := R2.v i hi
      have jv2 := R2.v j hj
      have jl2 := R2.l j hj
      rw [f1i] at iv2
      rw [f1j] at jv2 jl2
      simp only [lo] at jl2
      have fv : V1.set j (p1.tm, 0, p1.vt, p1.bs, p1.lg, p1.su, p1.hs, p1.nx) = V1.set j (tup pj) := by rw [← hpj]; rfl
      generalize hVV : V1.set j (tup pj) = VV at *
      generalize hGG : G1.set j (pj.tm, pj.rl, pj.vt, wj1) = GG at *
      simp only [tup] at iv2 jv2 jv1
      have hjVV : j < VV.length := by omega
      have hiVV : i < VV.length := by omega
      have hjL : j < L.length := by rw [h.ll]; exact hj
      have hiL : i < L.length := by rw [h.ll]; exact hi
      have beat : F32 G (i : Int) (j : Int) = some (0, GG) := by
        simp only [F32, ig, jg, c1, c4, q1, jg1, Option.bind_some, cond_false, Int.toNat_natCast]
        rw [hG2]
      cases hB : badP (f i).lg pj.lg K with
      | true =>
        rw [hB] at bp br
        have hK1 : 1 ≤ K := by
          unfold badP at hB
          simp only [Bool.or_eq_true, Bool.and_eq_true, decide_eq_true_eq] at hB
          omega
        have hwk : w64 ((K : Int) - 1) = (K : Int) - 1 := w64i (by omega) (by omega)
        have R3 := R2.setLV hi (y := { f i with nx := (f i).nx.set j ((K : Int) - 1) }) (by rw [f1i]) (by rw [f1i]) (by rw [f1i]) (by rw [f1i]) hei
        have I3 := I2.minor (i := i) (y := { f i with nx := (f i).nx.set j ((K : Int) - 1) }) (by rw [f1i]) (by rw [f1i]) (by rw [f1i]) (by rw [f1i]) (fun q => by have q' : (f i).rl = 1 := q; omega) (fun _ => ⟨hhl, by show ((f i).nx.set j _).length = n; simpa using hnl, hh, fun z v hz => by
            have hz' : ((f i).nx.set j ((K : Int) - 1))[z]? = some v := hz
            show 0 ≤ v ∧ v ≤ ((f i).lg.length : Int)
            rcases set_get hz' with ⟨_, e⟩ | e
            · omega
            · exact hnn z v e⟩) ⟨u1, u2, u3⟩
        rw [plg] at bp
        refine ⟨3, GG, _, _, led, _, _, ?_, ?_, R3, I3, by omega⟩
        · simp only [F11, F21, beat, e18, e18j, h.ll, hne, il, jl, hnj', bp, k1, k2, k3, k4, k5, k6, lo, Int.toNat_natCast, Option.bind_some, cond_true, cond_false, Bool.or_false, Bool.false_or, Bool.or_true]
          rw [hwk]
        · simp only [F16, e24, h.lv, iv, jv, c1, c4, q2, jv1, fv, iv2, jv2, hnj', br, tup, k1, k2, k3, k4, k5, Int.toNat_natCast, Option.bind_some, cond_true, cond_false, Bool.or_false, Bool.false_or, Bool.or_true, Bool.not_true, Bool.false_and]
          rw [hwk]
      | false =>
        rw [hB] at bp br
        unfold badP at hB
        rw [Bool.or_eq_false_iff] at hB
        obtain ⟨hB1, hB2⟩ := hB
        rw [decide_eq_false_iff_not] at hB1
        have hpre : (f i).lg.take K = pj.lg.take K := by
          by_cases z : K = 0
          · subst z; simp
          · have e : (f i).lg[K - 1]? = pj.lg[K - 1]? := by
              have z1 : decide (0 < K) = true := by rw [decide_eq_true_eq]; omega
              rw [z1] at hB2
              simpa using hB2
            have e1 : (f i).lg[K - 1]? = some (f i).lg[K - 1] := List.getElem?_eq_getElem (by omega)
            have := same_upto hw1 hw2 e1 (by rw [← e]; exact e1) rfl
            rwa [show K - 1 + 1 = K by omega] at this
        obtain ⟨K', m1, m2, m3, m4, m5, m6⟩ := match_loop (p := lo (f i)) (q := lo (f j)) (by show (f i).lg.length ≤ 1000; omega) (by show (f j).lg.length ≤ 1000; omega) ((f i).lg.length - K) K (by show K + ((f i).lg.length - K) = (f i).lg.length; omega) (by show K ≤ (f j).lg.length; rw [← plg]; omega)
        have m2' : K' ≤ (f i).lg.length := m2
        have m3' : K' ≤ (f j).lg.length := m3
        have hall : (f i).lg.take K' = (f j).lg.take K' := by
          rw [plg] at hpre
          refine take_of_get fun m hm => ?_
          by_cases z : m < K
          · have := congrArg (fun l => l[m]?) hpre
            simp only [List.getElem?_take_of_lt z] at this
            exact this
          · exact m5 m (by omega) hm
        -- the new log
        obtain ⟨lg', hlg', hcase, hpl, hprog, href⟩ : ∃ lg' : List En, lg' = @ite _ ((f i).lg <+: (f j).lg) (Classical.propDecidable _) (f j).lg (f i).lg ∧ (lg' = (f i).lg ∨ lg' = pj.lg) ∧ (f i).lg <+: lg' ∧
            (Option.bind (α := List Lo) (cond (decide ((K' : Int) < ((f i).lg.length : Int))) (Option.bind (α := List Lo) (Option.bind (slI (f j).lg 0 (K' : Int)) fun yq57_7_1 => Option.bind (slI (f i).lg (K' : Int) ((f i).lg.length : Int)) fun yq57_13_1 => Option.bind (neI (j : Int) (i : Int)) fun _ => Option.bind (appl 16 yq57_7_1 yq57_13_1) fun (yq57_14_5 : List (Int × Int)) => some (L.set j (yq57_14_5, (f j).su, (f j).hs, (f j).nx))) fun y58 => some y58) (some L)) fun y => some y) = some (L.set j (lg', (f j).su, (f j).hs, (f j).nx)) ∧
            (cond (!@decide ((f i).lg <+: (f j).lg) (Classical.propDecidable _)) (some (VV.set j (pj.tm, pj.rl, pj.vt, pj.bs, (f i).lg, pj.su, pj.hs, pj.nx))) (some VV)) = some (VV.set j (pj.tm, pj.rl, pj.vt, pj.bs, lg', pj.su, pj.hs, pj.nx)) := by
          by_cases z : K' < (f i).lg.length
          · have hnp : ¬ (f i).lg <+: (f j).lg := fun hp => by
              have hlen := pre_len hp
              have := m6 z (by show K' < (f j).lg.length; omega)
              have e1 : (f i).lg[K']? = some (f i).lg[K'] := List.getElem?_eq_getElem z
              exact this (e1.trans (pre_get hp e1).symm)
            refine ⟨(f i).lg, (if_neg hnp).symm, .inl rfl, List.prefix_rfl, ?_, ?_⟩
            · have z1 : decide ((K' : Int) < ((f i).lg.length : Int)) = true := by rw [decide_eq_true_eq]; omega
              have s1 : slI (f j).lg 0 (K' : Int) = some ((f j).lg.take K') := by unfold slI; rw [if_pos ⟨by omega, by omega, by omega⟩]; simp
              have s2 : slI (f i).lg (K' : Int) ((f i).lg.length : Int) = some ((f i).lg.drop K') := by unfold slI; rw [if_pos ⟨by omega, by omega, by omega⟩]; simp
              have s3 : neI (j : Int) (i : Int) = some () := by unfold neI; rw [if_neg (by simp; omega)]
              have s4 : appl 16 ((f j).lg.take K') ((f i).lg.drop K') = some (f i).lg := by
                rw [app2 16 (by decide) _ _ (by simp; omega) (by simp; omega), ← hall, List.take_append_drop]
              simp only [z1, cond_true, s1, s2, s3, s4, Option.bind_some]
            · have : @decide ((f i).lg <+: (f j).lg) (Classical.propDecidable _) = false := by
                cases q : @decide ((f i).lg <+: (f j).lg) (Classical.propDecidable _) with
                | false => rfl
                | true => exact absurd ((dec_iff _).1 q) hnp
              rw [this]; rfl
          · have hp : (f i).lg <+: (f j).lg := by
              have e : K' = (f i).lg.length := by omega
              rw [e, List.take_length] at hall
              rw [hall]; exact List.take_prefix _ _
            refine ⟨(f j).lg, (if_pos hp).symm, .inr plg.symm, hp, ?_, ?_⟩
            · have z1 : decide ((K' : Int) < ((f i).lg.length : Int)) = false := by rw [decide_eq_false_iff_not]; omega
              rw [z1, set_same (l := L) jl]; rfl
            · rw [(dec_iff _).2 hp, ← plg, set_same (l := VV) jv2]; rfl
        have hlg30 : lg'.length ≤ 30 := by rcases hcase with e | e <;> rw [e]; exact hei; rw [plg]; exact hej
        generalize hsu : mx (f j).su (f i).su = su'
        have hmn : mn (f i).su ((f i).lg.length : Int) = (f i).su := by unfold mn; rw [if_neg (by omega)]
        have hsu' : su' = (f i).su ∧ pj.su ≤ (f i).su ∨ su' = pj.su ∧ (f i).su ≤ pj.su := by
          rw [psu, ← hsu]; unfold mx; split <;> omega
        obtain ⟨g3, I3, ac3, _⟩ := I2.send (i := i) (j := j) hij (y := { pj with lg := lg', su := su' }) (lg' := lg') (su' := su') (by rw [f1i]; exact c) (by rw [f1j]; exact pjr) (by rw [f1i, f1j]; exact pjt) (by rw [f1i]; exact hpl) (by rw [f1i, f1j]; exact hcase) (by rw [f1i, f1j]; exact hsu') (by rw [f1j])
        rw [upd_twice] at I3
        have f3i : upd f j { pj with lg := lg', su := su' } i = f i := upd_ne (fun e => hij e.symm)
        rw [f1i] at ac3
        have hh3 := I3.h1 i (by rw [f3i]; exact c)
        rw [f3i] at hh3
        have I4 := I3.minor (i := i) (y := { f i with hs := (f i).hs.set j ((f i).lg.length : Int), nx := (f i).nx.set j ((f i).lg.length : Int) }) (by rw [f3i]) (by rw [f3i]) (by rw [f3i]) (by rw [f3i]) (fun q => by have q' : (f i).rl = 1 := q; omega) (fun _ => ⟨by show ((f i).hs.set j _).length = n; simpa using hhl, by show ((f i).nx.set j _).length = n; simpa using hnl, fun z v hz => by
            have hz' : ((f i).hs.set j ((f i).lg.length : Int))[z]? = some v := hz
            show 0 ≤ v ∧ ∀ m : Nat, 0 < m → (m : Int) ≤ v → g3.ac z (f i).tm m
            rcases set_get hz' with ⟨e, e2⟩ | e
            · subst e
              exact ⟨by omega, fun m p1 p2 => ac3 m (by omega)⟩
            · exact hh3.2.2.1 z v e, fun z v hz => by
            have hz' : ((f i).nx.set j ((f i).lg.length : Int))[z]? = some v := hz
            show 0 ≤ v ∧ v ≤ ((f i).lg.length : Int)
            rcases set_get hz' with ⟨_, e⟩ | e
            · omega
            · exact hh3.2.2.2 z v e⟩) (by have := I3.u1 i; rw [f3i] at this; exact this)
        -- both states
        have R3 := R2.setLV hj (y := { pj with lg := lg' }) (by rw [f1j]) (by rw [f1j]) (by rw [f1j]) (by rw [f1j]) hlg30
        rw [upd_twice] at R3
        have R4 := R3.setLV hi (y := { f i with hs := (f i).hs.set j ((f i).lg.length : Int), nx := (f i).nx.set j ((f i).lg.length : Int) }) (by rw [upd_ne (fun e => hij e.symm)]) (by rw [upd_ne (fun e => hij e.symm)]) (by rw [upd_ne (fun e => hij e.symm)]) (by rw [upd_ne (fun e => hij e.symm)]) hei
        have R5 := R4.setLV hj (y := { pj with lg := lg', su := su' }) (by rw [upd_ne hij, upd_eq]) (by rw [upd_ne hij, upd_eq]) (by rw [upd_ne hij, upd_eq]) (by rw [upd_ne hij, upd_eq]) hlg30
        rw [upd_swap (fun e => hij e.symm), upd_twice] at R5
        have hlL : (L.set j (lo { pj with lg := lg' })).length = n := R3.ll
        have oi : ∀ {α : Type} (l : List α) (v : α), idx (l.set j v) (i : Int) = idx l (i : Int) := fun l v => idx_other hij
        have oj : ∀ {α : Type} (l : List α) (v : α), idx (l.set i v) (j : Int) = idx l (j : Int) := fun l v => idx_other (fun e => hij e.symm)
        have sj : ∀ (v : Lo), idx (L.set j v) (j : Int) = some v := fun v => idx_self hjL
        have si : ∀ (u v : Lo), idx ((L.set j u).set i v) (i : Int) = some v := fun u v => idx_self (by rw [List.length_set]; exact hiL)
        have vj : ∀ (v : Vr), idx (VV.set j v) (j : Int) = some v := fun v => idx_self hjVV
        have vi : ∀ (u v : Vr), idx ((VV.set j u).set i v) (i : Int) = some v := fun u v => idx_self (by rw [List.length_set]; exact hiVV)
        rw [plg] at bp
        have bg := begins_val pj.lg (f i).lg (by rw [plg]; omega)
        rw [plg] at bg
        have ap2 := app2 16 (by decide) ([] : List (Int × Int)) (f i).lg (by simp) (by omega)
        have hhj' := idx_some hhj
        refine ⟨0, GG, _, _, led, _, _, ?_, ?_, R5, I4, by omega⟩
        · have m4' : whileM (F21_L0 ((f i).lg, (f i).su, (f i).hs, (f i).nx) ((f j).lg, (f j).su, (f j).hs, (f j).nx)) (K : Int) = some (.brk (K' : Int)) := m4
          have hprog' := hprog
          rw [bind_id] at hprog'
          have gate : ∀ (Z : List Lo → Option (Int × ((List One × List (Int × Int)) × List Lo))), (Option.bind (α := List Lo) (cond (decide ((K' : Int) < ((f i).lg.length : Int))) (Option.bind (α := List Lo) (Option.bind (slI (f j).lg 0 (K' : Int)) fun yq57_7_1 => Option.bind (slI (f i).lg (K' : Int) ((f i).lg.length : Int)) fun yq57_13_1 => Option.bind (neI (j : Int) (i : Int)) fun _ => Option.bind (appl 16 yq57_7_1 yq57_13_1) fun (yq57_14_5 : List (Int × Int)) => some (L.set j (yq57_14_5, (f j).su, (f j).hs, (f j).nx))) fun y58 => some y58) (some L)) Z) = Z (L.set j (lg', (f j).su, (f j).hs, (f j).nx)) := fun Z => by rw [hprog']; rfl
          simp only [F11, F21, beat, e18, e18j, h.ll, hne, il, jl, hnj', bp, m4', Ctl.on, k1, k2, k3, k4, k5, k6, lo, Int.toNat_natCast, Option.bind_some, cond_true, cond_false, Bool.or_false, Bool.false_or, Bool.or_true]
          rw [gate]
          simp only [oi, oj, il, sj, si, hhj', hnj', hmn, hsu, plg, psu, phs, pnx, List.set_set, Option.bind_some]
        · simp only [F16, e24, h.lv, iv, jv, c1, c4, q2, jv1, fv, iv2, jv2, hnj', br, tup, bg, ap2, plg, List.nil_append, k1, k2, k3, k4, k5, Int.toNat_natCast, Option.bind_some, cond_true, cond_false, Bool.or_false, Bool.false_or, Bool.or_true, Bool.not_true, Bool.false_and]
          rw [plg] at br
          simp only [br, href, cond_false, oi, oj, iv2, vj, vi, hhj', hnj', List.set_set, Option.bind_some]
          rcases hsu' with ⟨z1, z2⟩ | ⟨z1, z2⟩
          · by_cases z : (f i).su > pj.su
            · have zd : decide ((f i).su > pj.su) = true := decide_eq_true z
              simp only [zd, cond_true, Option.bind_some, z1]
            · have zd : decide ((f i).su > pj.su) = false := decide_eq_false z
              have e : su' = pj.su := by omega
              simp only [zd, cond_false, Option.bind_some, e]
              exact congrArg (fun t => some ((0 : Int), (t, led))) (set_same (by rw [oj, vj])).symm
          · have zd : decide ((f i).su > pj.su) = false := by rw [decide_eq_false_iff_not]; omega
            simp only [zd, cond_false, Option.bind_some, z1]
            exact congrArg (fun t => some ((0 : Int), (t, led))) (set_same (by rw [oj, vj])).symm
  · have c1 : ((f i).rl != 2) = true := by simpa using c
    refine ⟨5, G, L, V, led, f, g, ?_, ?_, h.up, I, by omega⟩
    · simp only [F11, F21, F32, e18, e18j, h.ll, hne, ig, c1, k1, k2, k3, k4, k5, show ((5 : Int) != 0) = true from rfl, Option.bind_some, cond_true, cond_false, Bool.or_false, Bool.false_or, Bool.or_true]
    · simp only [F16, e24, h.lv, iv, jv, c1, k1, k2, k3, k4, k5, Option.bind_some, cond_true, cond_false, Bool.or_false, Bool.false_or, Bool.or_true, Bool.not_true, Bool.false_and]
end
end Go.Proofs.Ytacggcanjanmkaa

namespace Go.Proofs.Ytacggcanjanmkaa
open Go Go.Bk
set_option linter.unusedVariables false
set_option linter.unusedSimpArgs false
set_option linter.unusedSectionVars false
/-- Of the others, how many have so much. -/
def cntH (i : Nat) (hs : List Int) (k : Int) (j : Nat) : Nat := (List.range j).countP fun x => decide (x ≠ i) && decide (k ≤ hs.getD x 0)
theorem cntH_succ {i : Nat} {hs : List Int} {k : Int} {j : Nat} : cntH i hs k (j + 1) = cntH i hs k j + if (decide (j ≠ i) && decide (k ≤ hs.getD j 0)) = true then 1 else 0 := by
  unfold cntH
  rw [List.range_succ, List.countP_append, List.countP_singleton]
theorem cntH_le {i : Nat} {hs : List Int} {k : Int} {j : Nat} : cntH i hs k j ≤ j := by
  unfold cntH
  have := List.countP_le_length (p := fun x => decide (x ≠ i) && decide (k ≤ hs.getD x 0)) (l := List.range j)
  rwa [List.length_range] at this
theorem one_more {i : Nat} {p : Nat → Bool} : ∀ {l : List Nat}, i ∈ l → 1 + l.countP (fun x => decide (x ≠ i) && p x) ≤ l.countP fun x => decide (x = i) || p x
  | x :: l, h => by
    rw [List.countP_cons, List.countP_cons]
    by_cases e : x = i
    · subst e
      have : l.countP (fun y => decide (y ≠ x) && p y) ≤ l.countP fun y => decide (y = x) || p y := List.countP_mono_left fun y _ hy => by
        simp only [Bool.and_eq_true] at hy; rw [hy.2]; simp
      simp at this ⊢; omega
    · have hm : i ∈ l := by
        rcases List.mem_cons.1 h with h | h
        · exact absurd h.symm e
        · exact h
      have ih := one_more (p := p) hm
      have e1 : decide (x ≠ i) = true := by simpa using e
      have e2 : decide (x = i) = false := by simpa using e
      rw [e1, e2, Bool.true_and, Bool.false_or]; omega
theorem maj_of {n i : Nat} {hs : List Int} {k : Nat} (hi : i < n) (hl : hs.length = n) (h : n < 2 * (1 + cntH i hs (k : Int) n)) : n < 2 * cnt n fun j => j = i ∨ ∃ v, hs[j]? = some v ∧ (k : Int) ≤ v := by
  refine Nat.lt_of_lt_of_le h (Nat.mul_le_mul_left 2 (Nat.le_trans (one_more (List.mem_range.2 hi)) ?_))
  unfold cnt
  refine List.countP_mono_left fun x hx hp => (dec_iff _).2 ?_
  rw [List.mem_range] at hx
  simp only [Bool.or_eq_true, decide_eq_true_eq] at hp
  rcases hp with e | e
  · exact .inl e
  · have g1 : hs[x]? = some hs[x] := List.getElem?_eq_getElem (by omega)
    refine .inr ⟨hs[x], g1, ?_⟩
    rw [List.getD_eq_getElem?_getD, g1] at e; exact e
/-- May so much be sure? -/
def okC (n i : Nat) (p : Pr) (k : Nat) : Bool := decide (n < 2 * (1 + cntH i p.hs (k : Int) n)) && decide ((p.lg[k - 1]?.map (·.1)) = some p.tm)
def best (n i : Nat) (p : Pr) : Nat → Nat → Nat
  | s, 0 => s
  | s, m + 1 => if okC n i p (s + m + 1) then s + m + 1 else best n i p s m
theorem best_succ {n i : Nat} {p : Pr} {s m : Nat} : best n i p s (m + 1) = if okC n i p (s + m + 1) then s + m + 1 else best n i p s m := rfl
theorem best_ge {n i : Nat} {p : Pr} {s : Nat} : ∀ m, s ≤ best n i p s m ∧ best n i p s m ≤ s + m ∧ (best n i p s m ≠ s → okC n i p (best n i p s m) = true)
  | 0 => ⟨Nat.le_refl _, Nat.le_refl _, fun h => absurd rfl h⟩
  | m + 1 => by
    unfold best
    obtain ⟨a, b, c⟩ := best_ge (n := n) (i := i) (p := p) (s := s) m
    split
    · exact ⟨by omega, by omega, fun _ => ‹_›⟩
    · exact ⟨a, by omega, c⟩
section
variable {n k : Nat} {f : Nat → Pr} {G : List One} {L : List Lo} {V : List Vr} {g : Gh} {led : List (Int × Int)} {x : Mv}
theorem many1 {n i : Nat} {p : Pr} (hl : p.hs.length = n) (hn : n ≤ 6) (K : Nat) : whileM (F22_L1 (i : Int) (K : Int) (p.lg, p.su, p.hs, p.nx)) (1, 0) = some (.brk ((1 + cntH i p.hs (K : Int) n : Nat) : Int)) := by
  refine while_upto (fun j => (((1 + cntH i p.hs (K : Int) j : Nat) : Int), (j : Int))) n (fun j hj => ?_) ?_ (by simp)
  · have hd : decide ((j : Int) < (p.hs.length : Int)) = true := by rw [decide_eq_true_eq]; omega
    have hg : p.hs[j]? = some p.hs[j] := List.getElem?_eq_getElem (by omega)
    have hgd : p.hs.getD j 0 = p.hs[j] := by rw [List.getD_eq_getElem?_getD, hg]; rfl
    have hle := cntH_le (i := i) (hs := p.hs) (k := (K : Int)) (j := j)
    have hc := cntH_succ (i := i) (hs := p.hs) (k := (K : Int)) (j := j)
    have e1 : (((j : Int) != (i : Int)) && (decide (p.hs[j] ≥ (K : Int)))) = (decide (j ≠ i) && decide ((K : Int) ≤ p.hs.getD j 0)) := by
      rw [hgd, Bool.eq_iff_iff]; simp; intro _; omega
    simp only [F22_L1, hd, cond_true, idx_some hg, Option.bind_some, e1, w64_succ hj (by omega)]
    cases q : (decide (j ≠ i) && decide ((K : Int) ≤ p.hs.getD j 0)) with
    | true =>
      rw [q] at hc
      simp only [if_true] at hc
      have : w64 (((1 + cntH i p.hs (K : Int) j : Nat) : Int) + 1) = ((1 + cntH i p.hs (K : Int) (j + 1) : Nat) : Int) := by
        rw [w64i (x := ((1 + cntH i p.hs (K : Int) j : Nat) : Int) + 1) (by omega) (by omega), hc]; push_cast; omega
      simp only [cond_true, Option.bind_some, this]
    | false =>
      rw [q] at hc
      simp only [Bool.false_eq_true, if_false] at hc
      rw [hc]; rfl
  · have hd : decide ((n : Int) < (p.hs.length : Int)) = false := by rw [decide_eq_false_iff_not]; omega
    simp only [F22_L1, hd, cond_false]
theorem many2 (h : Rel n k f G L V) (hn : n ≤ 6) {i : Nat} (hi : i < n) (hl : (f i).hs.length = n) (a b : Int) (K : Nat) : whileM (F16_L1 (V, led) (5, (i : Int), a, b) (K : Int)) (1, 0) = some (.brk ((1 + cntH i (f i).hs (K : Int) n : Nat) : Int)) := by
  have iv := h.v i hi
  simp only [tup] at iv
  generalize (f i) = p at *
  refine while_upto (fun j => (((1 + cntH i p.hs (K : Int) j : Nat) : Int), (j : Int))) n (fun j hj => ?_) ?_ (by simp)
  · have hd : decide ((j : Int) < (V.length : Int)) = true := by rw [decide_eq_true_eq, h.lv]; omega
    have hg : p.hs[j]? = some p.hs[j] := List.getElem?_eq_getElem (by omega)
    have hgd : p.hs.getD j 0 = p.hs[j] := by rw [List.getD_eq_getElem?_getD, hg]; rfl
    have hle := cntH_le (i := i) (hs := p.hs) (k := (K : Int)) (j := j)
    have hc := cntH_succ (i := i) (hs := p.hs) (k := (K : Int)) (j := j)
    have e1 : (cond ((j : Int) != (i : Int)) (some (decide (p.hs[j] ≥ (K : Int)))) (some false)) = some (decide (j ≠ i) && decide ((K : Int) ≤ p.hs.getD j 0)) := by
      by_cases z : j = i
      · subst z; simp
      · have z1 : ((j : Int) != (i : Int)) = true := by simp; omega
        rw [z1, hgd]; simp [z]
    simp only [F16_L1, hd, cond_true, iv, idx_some hg, Option.bind_some, e1, w64_succ hj (by omega)]
    cases q : (decide (j ≠ i) && decide ((K : Int) ≤ p.hs.getD j 0)) with
    | true =>
      rw [q] at hc
      simp only [if_true] at hc
      have : w64 (((1 + cntH i p.hs (K : Int) j : Nat) : Int) + 1) = ((1 + cntH i p.hs (K : Int) (j + 1) : Nat) : Int) := by
        rw [w64i (x := ((1 + cntH i p.hs (K : Int) j : Nat) : Int) + 1) (by omega) (by omega), hc]; push_cast; omega
      simp only [cond_true, Option.bind_some, this]
    | false =>
      rw [q] at hc
      simp only [Bool.false_eq_true, if_false] at hc
      rw [hc]; rfl
  · have hd : decide ((n : Int) < (V.length : Int)) = false := by rw [decide_eq_false_iff_not, h.lv]; omega
    simp only [F16_L1, hd, cond_false]
variable (h : Rel n k f G L V) (I : Inv n f g) (hn : n ≤ 6)
include h I hn
theorem ok_prog {i : Nat} (hi : i < n) {K : Nat} (h0 : 1 ≤ K) (hK : K ≤ (f i).lg.length) : (Option.bind (cond (decide (w64 (2 * ((1 + cntH i (f i).hs (K : Int) n : Nat) : Int)) > (n : Int))) (Option.bind (idx (f i).lg (w64 ((K : Int) - 1))) fun x42 => some (x42.1 == (f i).tm)) (some false)) fun (b : Bool) => some b) = some (okC n i (f i) K) ∧
    (Option.bind (cond (decide (w64 (((1 + cntH i (f i).hs (K : Int) n : Nat) : Int) * 2) > (n : Int))) (Option.bind (idx (f i).lg (w64 ((K : Int) - 1))) fun x42 => some (x42.1 == (f i).tm)) (some false)) fun (b : Bool) => some b) = some (okC n i (f i) K) := by
  have he := h.e i hi
  have hle := cntH_le (i := i) (hs := (f i).hs) (k := (K : Int)) (j := n)
  have hw : w64 ((K : Int) - 1) = ((K - 1 : Nat) : Int) := by rw [w64i (x := (K : Int) - 1) (by omega) (by omega)]; omega
  have hg : (f i).lg[K - 1]? = some (f i).lg[K - 1] := List.getElem?_eq_getElem (by omega)
  have e1 : decide (w64 (2 * ((1 + cntH i (f i).hs (K : Int) n : Nat) : Int)) > (n : Int)) = decide (n < 2 * (1 + cntH i (f i).hs (K : Int) n)) := by
    rw [w64i (x := 2 * ((1 + cntH i (f i).hs (K : Int) n : Nat) : Int)) (by omega) (by omega), decide_eq_decide]; omega
  have e2 : decide (w64 (((1 + cntH i (f i).hs (K : Int) n : Nat) : Int) * 2) > (n : Int)) = decide (n < 2 * (1 + cntH i (f i).hs (K : Int) n)) := by
    rw [w64i (x := ((1 + cntH i (f i).hs (K : Int) n : Nat) : Int) * 2) (by omega) (by omega), decide_eq_decide]; omega
  have e3 : ((f i).lg[K - 1].1 == (f i).tm) = decide ((f i).lg[K - 1].1 = (f i).tm) := by rw [Bool.eq_iff_iff]; simp
  unfold okC
  rw [e1, e2, hw, idx_some hg]
  simp only [hg, Option.bind_some, Option.map_some, Option.some.injEq, e3]
  cases decide (n < 2 * (1 + cntH i (f i).hs (K : Int) n)) <;> simp
theorem loop1 {i : Nat} (hi : i < n) (hl : (f i).hs.length = n) : ∀ (m s : Nat), (f i).su = (s : Int) → s + m ≤ (f i).lg.length →
    whileM (F22_L0 ((G, led), L) (i : Int)) ((s + m : Nat) : Int) = some (if best n i (f i) s m = s then .brk () else .ret (0, ((G, led), L.set i ((f i).lg, (best n i (f i) s m : Int), (f i).hs, (f i).nx)))) := by
  obtain ⟨w, ig, _⟩ := h.g i hi
  have il := h.l i hi
  have he := h.e i hi
  intro m
  induction m with
  | zero =>
    intro s hs hle
    unfold best
    rw [if_pos rfl]
    refine whileM_brk ?_
    have hd : decide (((s + 0 : Nat) : Int) > (f i).su) = false := by rw [decide_eq_false_iff_not]; omega
    simp only [F22_L0, il, lo, Option.bind_some, hd, cond_false]
  | succ m ih =>
    intro s hs hle
    have hd : decide (((s + m + 1 : Nat) : Int) > (f i).su) = true := by rw [decide_eq_true_eq]; omega
    have hm := many1 (i := i) (p := f i) hl hn (s + m + 1)
    have hok := (ok_prog h I hn hi (K := s + m + 1) (by omega) (by omega)).1
    have hw : w64 (((s + m + 1 : Nat) : Int) - 1) = ((s + m : Nat) : Int) := by rw [w64i (x := ((s + m + 1 : Nat) : Int) - 1) (by omega) (by omega)]; omega
    have il' := il
    simp only [lo] at il'
    rw [bind_id] at hok
    have body : F22_L0 ((G, led), L) (i : Int) ((s + m + 1 : Nat) : Int) = some (if okC n i (f i) (s + m + 1) then .ret (0, ((G, led), L.set i ((f i).lg, ((s + m + 1 : Nat) : Int), (f i).hs, (f i).nx))) else .nxt ((s + m : Nat) : Int)) := by
      simp only [F22_L0, F12, il', ig, hm, Ctl.on, hd, h.ll, cond_true, Option.bind_some, hok, Int.toNat_natCast]
      rw [hw]
      cases okC n i (f i) (s + m + 1) <;> rfl
    unfold best
    cases q : okC n i (f i) (s + m + 1) with
    | true =>
      rw [q] at body
      simp only [if_true] at body ⊢
      rw [if_neg (by omega)]
      exact whileM_ret body
    | false =>
      rw [q] at body
      simp only [Bool.false_eq_true, if_false] at body ⊢
      rw [show s + (m + 1) = s + m + 1 from rfl, whileM_nxt body]
      exact ih s hs (by omega)
theorem loop2 {i : Nat} (hi : i < n) (hl : (f i).hs.length = n) (a b : Int) {s : Nat} (hs : (f i).su = (s : Int)) (hle : s ≤ (f i).lg.length) :
    whileM (F16_L0 (V, led) (5, (i : Int), a, b)) ((s : Int), ((s + 1 : Nat) : Int)) = some (.brk ((best n i (f i) s ((f i).lg.length - s) : Nat) : Int)) := by
  have iv := h.v i hi
  have he := h.e i hi
  simp only [tup] at iv
  have key := while_upto (body := F16_L0 (V, led) (5, (i : Int), a, b)) (fun m => (((best n i (f i) s m : Nat) : Int), ((s + m + 1 : Nat) : Int))) ((f i).lg.length - s) (c := .brk ((best n i (f i) s ((f i).lg.length - s) : Nat) : Int)) (fun m hm => ?_) ?_ (by simp)
  · exact key
  · have hd : decide (((s + m + 1 : Nat) : Int) ≤ ((f i).lg.length : Int)) = true := by rw [decide_eq_true_eq]; omega
    have hm' := many2 (led := led) h hn hi hl a b (s + m + 1)
    have hok := (ok_prog h I hn hi (K := s + m + 1) (by omega) (by omega)).2
    have hw : w64 (((s + m + 1 : Nat) : Int) + 1) = ((s + (m + 1) + 1 : Nat) : Int) := by rw [w64i (x := ((s + m + 1 : Nat) : Int) + 1) (by omega) (by omega)]; omega
    rw [bind_id] at hok
    simp only [F16_L0, iv, hm', Ctl.on, hd, h.lv, cond_true, Option.bind_some, hok, hw]
    rw [best_succ]
    cases q : okC n i (f i) (s + m + 1) <;> simp
  · have hd : decide (((s + ((f i).lg.length - s) + 1 : Nat) : Int) ≤ ((f i).lg.length : Int)) = false := by rw [decide_eq_false_iff_not]; omega
    simp only [F16_L0, iv, hd, cond_false, Option.bind_some]
end
section
variable {n k : Nat} {f : Nat → Pr} {G : List One} {L : List Lo} {V : List Vr} {g : Gh} {led : List (Int × Int)} {x : Mv}
variable (h : Rel n k f G L V) (I : Inv n f g) (hn : n ≤ 6) (hk : k < 60) (hl : led.length ≤ k)
include h I hn hk hl
theorem commits {i : Nat} {a b : Int} (hx : x = (5, (i : Int), a, b)) (hi : i < n) : Both n k G L V led x := by
  subst hx
  obtain ⟨w, ig, hw⟩ := h.g i hi
  have iv := h.v i hi
  have il := h.l i hi
  have he := h.e i hi
  have e18 := f18 hi
  have e24 := f24a hi 5 a b
  simp only [tup] at iv
  simp only [lo] at il
  have k1 : (decide ((5 : Int) < 1)) = false := rfl
  have k2 : (decide ((5 : Int) > 6)) = false := rfl
  have k3 : ((5 : Int) == 1) = false := rfl
  have k4 : ((5 : Int) == 2) = false := rfl
  have k5 : ((5 : Int) == 3) = false := rfl
  have k6 : ((5 : Int) == 4) = false := rfl
  have k7 : ((5 : Int) == 5) = true := rfl
  by_cases c : (f i).rl = 2
  · have c1 : ((f i).rl != 2) = false := by simp [c]
    obtain ⟨hhl, hnl, hh, hnn⟩ := I.h1 i c
    obtain ⟨u1, u2, u3⟩ := I.u1 i
    obtain ⟨s, hs⟩ := nat_of u1
    have hsl : s ≤ (f i).lg.length := by omega
    have l1 := loop1 (led := led) h I hn hi hhl ((f i).lg.length - s) s hs (by omega)
    rw [show s + ((f i).lg.length - s) = (f i).lg.length by omega] at l1
    have l2 := loop2 (led := led) h I hn hi hhl a b hs hsl
    have hws : w64 ((s : Int) + 1) = ((s + 1 : Nat) : Int) := by rw [w64i (x := (s : Int) + 1) (by omega) (by omega)]; rfl
    obtain ⟨b1, b2, b3⟩ := best_ge (n := n) (i := i) (p := f i) (s := s) ((f i).lg.length - s)
    generalize hB : best n i (f i) s ((f i).lg.length - s) = B at *
    by_cases z : B = s
    · rw [if_pos z] at l1
      have z1 : ((B : Int) == (f i).su) = true := by rw [hs, z]; simp
      refine ⟨8, G, L, V, led, f, g, ?_, ?_, h.up, I, by omega⟩
      · simp only [F11, F22, F13, e18, h.ll, ig, il, c1, l1, Ctl.on, k1, k2, k3, k4, k5, k6, k7, Option.bind_some, cond_true, cond_false, Bool.or_false, Bool.false_or]
      · rw [← hs] at hws l2
        simp only [F16, e24, h.lv, iv, c1, hws, l2, z1, Ctl.on, k1, k2, k3, k4, k5, k6, k7, Option.bind_some, cond_true, cond_false, Bool.or_false, Bool.false_or, Bool.not_true, Bool.false_and]
    · rw [if_neg z] at l1
      have z1 : ((B : Int) == (f i).su) = false := by rw [hs, beq_eq_false_iff_ne]; omega
      have hok := b3 z
      unfold okC at hok
      simp only [Bool.and_eq_true, decide_eq_true_eq] at hok
      obtain ⟨o1, o2⟩ := hok
      have hg : (f i).lg[B - 1]? = some (f i).lg[B - 1] := List.getElem?_eq_getElem (by omega)
      rw [hg] at o2
      have o3 : (f i).lg[B - 1].1 = (f i).tm := Option.some.inj o2
      have I1 := I.sure (i := i) (k := B) (v := (f i).lg[B - 1].2) hi c (by omega) (by rw [hg, ← o3]) (maj_of hi hhl o1) rfl
      have R := h.up.setLV hi (y := { f i with su := (B : Int) }) rfl rfl rfl rfl he
      refine ⟨0, G, _, _, led, _, g, ?_, ?_, R, I1, by omega⟩
      · simp only [F11, F22, F13, e18, h.ll, ig, il, c1, l1, Ctl.on, lo, k1, k2, k3, k4, k5, k6, k7, Option.bind_some, cond_true, cond_false, Bool.or_false, Bool.false_or]
      · rw [← hs] at hws l2
        simp only [F16, e24, h.lv, iv, c1, hws, l2, z1, Ctl.on, tup, k1, k2, k3, k4, k5, k6, k7, Int.toNat_natCast, Option.bind_some, cond_true, cond_false, Bool.or_false, Bool.false_or, Bool.not_true, Bool.false_and]
  · have c1 : ((f i).rl != 2) = true := by simpa using c
    refine ⟨5, G, L, V, led, f, g, ?_, ?_, h.up, I, by omega⟩
    · simp only [F11, F22, F13, e18, h.ll, ig, il, c1, k1, k2, k3, k4, k5, k6, k7, Option.bind_some, cond_true, cond_false, Bool.or_false, Bool.false_or]
    · simp only [F16, e24, h.lv, iv, c1, k1, k2, k3, k4, k5, k6, k7, Option.bind_some, cond_true, cond_false, Bool.or_false, Bool.false_or, Bool.not_true, Bool.false_and]
end
end Go.Proofs.Ytacggcanjanmkaa

namespace Go.Proofs.Ytacggcanjanmkaa
open Go Go.Bk
set_option linter.unusedVariables false
set_option linter.unusedSimpArgs false
set_option linter.unusedSectionVars false
section
variable {n k : Nat} {f : Nat → Pr} {G : List One} {L : List Lo} {V : List Vr} {g : Gh} {led : List (Int × Int)} {x : Mv}
theorem move (h : Rel n k f G L V) (I : Inv n f g) (hn : n ≤ 6) (hk : k < 60) (hl : led.length ≤ k) : Both n k G L V led x := by
  obtain ⟨q, a, t, b⟩ := x
  cases c : ((decide (q < 1)) || (decide (q > 6))) with
  | true => exact ⟨6, G, L, V, led, f, g, by simp only [F11, c, cond_true], by simp only [F16, c, Bool.true_or, cond_true], h.up, I, by omega⟩
  | false =>
    have hq : q = 1 ∨ q = 2 ∨ q = 3 ∨ q = 4 ∨ q = 5 ∨ q = 6 := by
      simp only [Bool.or_eq_false_iff, decide_eq_false_iff_not] at c
      omega
    cases ca : ((decide (a < 0)) || (decide (a ≥ (n : Int)))) with
    | true =>
      refine ⟨2, G, L, V, led, f, g, ?_, ?_, h.up, I, by omega⟩
      · simp only [F11, F18, c, h.ll, ca, Option.bind_some, cond_true, cond_false]
      · simp only [F16, F24, c, h.lv, ca, Bool.not_true, Bool.not_false, Bool.false_and, Bool.or_false, Option.bind_some, cond_true, cond_false]
    | false =>
      have ca' := ca
      simp only [Bool.or_eq_false_iff, decide_eq_false_iff_not] at ca'
      obtain ⟨i, rfl⟩ := nat_of (a := a) (by omega)
      have hi : i < n := by omega
      have two : q = 2 ∨ q = 3 → Both n k G L V led (q, (i : Int), t, b) := fun hq2 => by
        have c2 : ((q == 2) || (q == 3)) = true := by rcases hq2 with rfl | rfl <;> rfl
        cases ct : (((decide (t < 0)) || (decide (t ≥ (n : Int)))) || ((i : Int) == t)) with
        | true =>
          have e24 : (((decide (t ≥ 0)) && (decide (t < (n : Int)))) && (t != (i : Int))) = false := by
            rw [Bool.eq_false_iff]
            intro e
            simp only [Bool.and_eq_true, decide_eq_true_eq, bne_iff_ne, Bool.or_eq_true, beq_iff_eq] at e ct
            omega
          refine ⟨2, G, L, V, led, f, g, ?_, ?_, h.up, I, by omega⟩
          · simp only [F11, F18, c, c2, h.ll, ca, ct, Option.bind_some, cond_true, cond_false]
          · simp only [F16, F24, c, c2, h.lv, ca, e24, Bool.not_true, Bool.not_false, Bool.false_and, Bool.or_false, Option.bind_some, cond_true, cond_false]
        | false =>
          have ct' := ct
          simp only [Bool.or_eq_false_iff, decide_eq_false_iff_not, beq_eq_false_iff_ne] at ct'
          obtain ⟨j, rfl⟩ := nat_of (a := t) (by omega)
          rcases hq2 with rfl | rfl
          · exact votes h I hn hk hl rfl hi (by omega) (by omega)
          · exact sends h I hn hk hl rfl hi (by omega) (by omega)
      rcases hq with rfl | rfl | rfl | rfl | rfl | rfl
      · exact stands h I hn hk hl rfl hi
      · exact two (.inl rfl)
      · exact two (.inr rfl)
      · exact adds h I hn hk hl rfl hi
      · exact commits h I hn hk hl rfl hi
      · exact crashes h I hn hk hl rfl hi
theorem run_both {l : List Mv} (hn : n ≤ 6) (hl : l.length ≤ 60) : ∀ (m k : Nat), k + m = l.length → ∀ {cs : List Int} {G : List One} {L : List Lo} {V : List Vr} {led : List (Int × Int)} {f : Nat → Pr} {g : Gh},
    cs.length = k → led.length ≤ k → Rel n k f G L V → Inv n f g →
    ∃ (cs' : List Int) (G' : List One) (L' : List Lo) (V' : List Vr) (led' : List (Int × Int)) (f' : Nat → Pr),
      whileM (F4_L0 l) (cs, led, L, G, (k : Int)) = some (.brk (cs', led', L', G')) ∧
      whileM (F6_L0 l) (cs, led, V, (k : Int)) = some (.brk (cs', led', V')) ∧
      cs'.length = l.length ∧ Rel n l.length f' G' L' V' := by
  intro m
  induction m with
  | zero =>
    intro k hk cs G L V led f g hcs hle h I
    obtain rfl : k = l.length := by omega
    exact ⟨cs, G, L, V, led, f, whileM_brk (by simp [F4_L0]), whileM_brk (by simp [F6_L0]), hcs, h⟩
  | succ m ih =>
    intro k hk cs G L V led f g hcs hle h I
    have hlt : k < l.length := by omega
    have hg : l[k]? = some l[k] := List.getElem?_eq_getElem hlt
    obtain ⟨e, G1, L1, V1, led1, f1, g1, r1, r2, r3, r4, r5⟩ := move (x := l[k]) (led := led) h I hn (by omega) hle
    have hd : decide ((k : Int) < (l.length : Int)) = true := by rw [decide_eq_true_eq]; omega
    have n1 : F4_L0 l (cs, led, L, G, (k : Int)) = some (.nxt (cs ++ [e], led1, L1, G1, ((k + 1 : Nat) : Int))) := by
      simp only [F4_L0, hd, cond_true, idx_some hg, Option.bind_some, r1, app1 8 (by decide) cs e (by omega), w64_succ hlt (by omega)]
    have n2 : F6_L0 l (cs, led, V, (k : Int)) = some (.nxt (cs ++ [e], led1, V1, ((k + 1 : Nat) : Int))) := by
      simp only [F6_L0, hd, cond_true, idx_some hg, Option.bind_some, r2, app1 8 (by decide) cs e (by omega), w64_succ hlt (by omega)]
    obtain ⟨cs', G', L', V', led', f', w1, w2, w3, w4⟩ := ih (k + 1) (by omega) (cs := cs ++ [e]) (by simp [hcs]) r5 r3 r4
    exact ⟨cs', G', L', V', led', f', by rw [whileM_nxt n1]; exact w1, by rw [whileM_nxt n2]; exact w2, w3, w4⟩
theorem rng {α : Type} (φ : Nat → α) (j : Nat) : (List.range (j + 1)).map φ = (List.range j).map φ ++ [φ j] := by rw [List.range_succ, List.map_append]; rfl
theorem tells1 (h : Rel n k f G L V) (hn : n ≤ 6) : whileM (F4_L1 led L G) ([], [], [], [], 0) = some (.brk ((List.range n).map fun i => (f i).tm, (List.range n).map fun i => (f i).rl, (List.range n).map fun i => (f i).lg, (List.range n).map fun i => (f i).su)) := by
  refine while_upto (fun j => ((List.range j).map (fun i => (f i).tm), (List.range j).map (fun i => (f i).rl), (List.range j).map (fun i => (f i).lg), (List.range j).map (fun i => (f i).su), (j : Int))) n (fun j hj => ?_) ?_ (by simp)
  · have hd : decide ((j : Int) < (L.length : Int)) = true := by rw [decide_eq_true_eq, h.ll]; omega
    obtain ⟨w, ig, _⟩ := h.g j hj
    have il := h.l j hj
    have he := h.e j hj
    simp only [lo] at il
    have ap := app2 16 (by decide) ([] : List (Int × Int)) (f j).lg (by simp) (by omega)
    simp only [F4_L1, F12, F13, F14, hd, cond_true, il, ig, Option.bind_some, ap, List.nil_append, app1 8 (by decide) ((List.range j).map fun i => (f i).tm) (f j).tm (by simp; omega), app1 8 (by decide) ((List.range j).map fun i => (f i).rl) (f j).rl (by simp; omega), app1 24 (by decide) ((List.range j).map fun i => (f i).lg) (f j).lg (by simp; omega), app1 8 (by decide) ((List.range j).map fun i => (f i).su) (f j).su (by simp; omega), w64_succ hj (by omega), rng]
  · have hd : decide ((n : Int) < (L.length : Int)) = false := by rw [decide_eq_false_iff_not, h.ll]; omega
    simp only [F4_L1, hd, cond_false]
theorem tells2 (h : Rel n k f G L V) (hn : n ≤ 6) : ∃ z, whileM (F6_L1 V) ([], [], [], [], V.map upT61, 0) = some (.brk ((List.range n).map fun i => (f i).tm, (List.range n).map fun i => (f i).rl, (List.range n).map fun i => (f i).lg, (List.range n).map fun i => (f i).su, z)) := by
  obtain ⟨t, h1, _⟩ := while_ex (body := F6_L1 V) (fun j t => ((List.range j).map (fun i => (f i).tm), (List.range j).map (fun i => (f i).rl), (List.range j).map (fun i => (f i).lg), (List.range j).map (fun i => (f i).su), t, (j : Int))) n
    (fun t => ((List.range n).map (fun i => (f i).tm), (List.range n).map (fun i => (f i).rl), (List.range n).map (fun i => (f i).lg), (List.range n).map (fun i => (f i).su), t)) (fun j t => ∀ i : Nat, j ≤ i → i < n → idx t (i : Int) = some (upT61 (tup (f i)))) (fun j t hj ht => by
      have hd : decide ((j : Int) < (V.length : Int)) = true := by rw [decide_eq_true_eq, h.lv]; omega
      have it := ht j (Nat.le_refl _) hj
      simp only [upT61, tup] at it
      refine ⟨t.set j ((f j).tm, (f j).rl, (f j).vt, (f j).bs, none, (f j).su, (f j).hs, (f j).nx), ?_, fun i hi hin => ?_⟩
      · simp only [F6_L1, hd, cond_true, it, Option.bind_some, Int.toNat_natCast, app1 8 (by decide) ((List.range j).map fun i => (f i).tm) (f j).tm (by simp; omega), app1 8 (by decide) ((List.range j).map fun i => (f i).rl) (f j).rl (by simp; omega), app1 24 (by decide) ((List.range j).map fun i => (f i).lg) (f j).lg (by simp; omega), app1 8 (by decide) ((List.range j).map fun i => (f i).su) (f j).su (by simp; omega), w64_succ hj (by omega), rng]
      · rw [idx_other (by omega)]; exact ht i (by omega) hin) (fun t _ => by
      have hd : decide ((n : Int) < (V.length : Int)) = false := by rw [decide_eq_false_iff_not, h.lv]; omega
      simp only [F6_L1, hd, cond_false]) (V.map upT61) (fun i _ hi => by
      have hv := h.v i hi
      rw [idx_nat] at hv ⊢
      rw [List.getElem?_map, hv]; rfl)
  exact ⟨t, h1⟩
theorem rel_start (hn : n ≤ 6) : Rel n 0 (fun _ => ⟨0, 0, -1, [], [], 0, [], []⟩) (List.replicate n (0, 0, -1, 0)) (List.replicate n ([], 0, [], [])) (List.replicate n (0, 0, -1, [], [], 0, [], [])) := by
  have R : ∀ {α : Type} (v : α) (i : Nat), i < n → idx (List.replicate n v) (i : Int) = some v := fun v i hi => idx_some (by rw [List.getElem?_replicate, if_pos hi])
  exact ⟨by simp, by simp, by simp, fun i hi => ⟨0, R _ i hi, Same.zero⟩, fun i hi => R _ i hi, fun i hi => R _ i hi, fun i hi => by simp, fun i hi => by simp⟩
end
theorem same_logs (r1 : (List Int) × (List Int) × (List Int) × (List (List (Int × Int))) × List Int) (l : List (List (Int × Int))) (e : r1.2.2.2.1 = l) (hl : l.length ≤ 1000) (h : ∀ x ∈ l, x.length ≤ 1000) : whileM (F3_L0 r1 l) 0 = some (.brk ()) := by
  refine while_upto (fun k => (k : Int)) l.length (fun k hk => ?_) ?_ (by simp)
  · have hg : l[k]? = some l[k] := List.getElem?_eq_getElem hk
    have hd : decide ((k : Int) < (l.length : Int)) = true := by rw [decide_eq_true_eq]; omega
    have := same_entries l[k] (h _ (List.getElem_mem hk))
    simp only [F3_L0, e, hd, cond_true, idx_some hg, Option.bind_some, this, Bool.not_true, cond_false, w64_succ hk (by omega)]
  · have hd : decide ((l.length : Int) < (l.length : Int)) = false := by simp
    simp only [F3_L0, e, hd, cond_false]
theorem law_LogsPlays (x0 : Int) (b0 : -9223372036854775808 ≤ x0 ∧ x0 ≤ 9223372036854775807) (x1 : List Mv) (l1 : x1.length ≤ 9223372036854775807) (w1 : ∀ x ∈ x1, (-9223372036854775808 ≤ x.1 ∧ x.1 ≤ 9223372036854775807) ∧ (-9223372036854775808 ≤ x.2.1 ∧ x.2.1 ≤ 9223372036854775807) ∧ (-9223372036854775808 ≤ x.2.2.1 ∧ x.2.2.1 ≤ 9223372036854775807) ∧ (-9223372036854775808 ≤ x.2.2.2 ∧ x.2.2.2 ≤ 9223372036854775807)) :
    F3 x0 x1 = some true := by
  cases c : (((decide (x0 < 1)) || (decide (x0 > 6))) || (decide ((x1.length : Int) > 60))) with
  | true =>
    have h1 := same_codes [] (by simp)
    have h3 := same_ints [] (by simp)
    have h4 := same_logs ([], [], [], [], []) [] rfl (by simp) (by simp)
    simp [F3, F4, F5, c, h1, h3, h4, Ctl.on]
  | false =>
    have c' := c
    simp only [Bool.or_eq_false_iff, decide_eq_false_iff_not] at c'
    obtain ⟨n, rfl⟩ := nat_of (a := x0) (by omega)
    have hn : n ≤ 6 := by omega
    have hl : x1.length ≤ 60 := by omega
    obtain ⟨cs', G', L', V', led', f', r1, r2, r3, r4⟩ := run_both hn hl x1.length 0 (by omega) (cs := []) (led := []) rfl (by simp) (rel_start hn) (Inv.start n)
    have m80 := mkl_rep hn (show 80 ≤ 128 by decide) (([], 0, [], []) : Lo)
    have t1 := tells1 (led := led') r4 hn
    obtain ⟨z, t2⟩ := tells2 r4 hn
    have eF4 : F4 (n : Int) x1 = some ((cs', (List.range n).map (fun i => (f' i).tm), (List.range n).map (fun i => (f' i).rl), (List.range n).map (fun i => (f' i).lg), (List.range n).map (fun i => (f' i).su)), 0) := by
      have r1' : whileM (F4_L0 x1) ([], [], List.replicate n ([], 0, [], []), List.replicate n (0, 0, -1, 0), 0) = some (.brk (cs', led', L', G')) := r1
      simp only [F4, c, cond_false, begin1 hn, m80, Option.bind_some, r1', Ctl.on, t1]
    have eF6 : F6 (n : Int) x1 = some (cs', (List.range n).map (fun i => (f' i).tm), (List.range n).map (fun i => (f' i).rl), (List.range n).map (fun i => (f' i).lg), (List.range n).map (fun i => (f' i).su)) := by
      have r2' : whileM (F6_L0 x1) ([], [], List.replicate n (0, 0, -1, [], [], 0, [], []), 0) = some (.brk (cs', led', V')) := r2
      simp only [F6, begin2 hn, Option.bind_some, r2', Ctl.on, t2]
    have h1 := same_codes cs' (by omega)
    have h3 := same_ints ((List.range n).map (fun i => (f' i).tm)) (by simp; omega)
    have h4 := same_ints ((List.range n).map (fun i => (f' i).rl)) (by simp; omega)
    have h5 := same_ints ((List.range n).map (fun i => (f' i).su)) (by simp; omega)
    have h6 := same_logs (cs', (List.range n).map (fun i => (f' i).tm), (List.range n).map (fun i => (f' i).rl), (List.range n).map (fun i => (f' i).lg), (List.range n).map (fun i => (f' i).su)) _ rfl (by simp; omega) (fun x hx => by
      obtain ⟨i, hi, rfl⟩ := List.mem_map.1 hx
      have := r4.e i (List.mem_range.1 hi); omega)
    have eF5 : F5 (n : Int) (x1.length : Int) = some 0 := by simp only [F5, c, cond_false]
    simp only [F3, eF4, eF5, Option.bind_some, show ((0 : Int) == 0) = true from rfl, cond_true, eF6, show ((0 : Int) != 0) = false from rfl, cond_false, h1, h3, h4, h5, Bool.not_true, bne_self_eq_false, Bool.or_false, h6, Ctl.on]
end Go.Proofs.Ytacggcanjanmkaa


namespace Go.Proofs.Ytacggcanjanmkaa
open Go Go.Bk Go.ChangeShapes Go.WideShapes Go.ChangeAt Go.RowKit
set_option linter.unusedVariables false
set_option linter.unusedSimpArgs false
theorem tkunderlying_3_some_int_i64 : Try.prog.underlying 3 = some (.int .i64) := by kernel_rfl
theorem tkunderlying_45_some_struct_fieldsOf_45 : Try.prog.underlying 45 = some (.struct (Try.prog.fieldsOf 45)) := by kernel_rfl
theorem tkcellsOf_45_4 : Try.prog.cellsOf 45 = 4 := by kernel_rfl
theorem tkfieldsOf_45_0_map_fun_f_f_type_f_offset_some_3_0 : ((Try.prog.fieldsOf 45)[0]?).map (fun f => (f.type, f.offset)) = some (3, 0) := by kernel_rfl
theorem tkcellsOf_3_1 : Try.prog.cellsOf 3 = 1 := by kernel_rfl
theorem tkfieldsOf_45_1_map_fun_f_f_type_f_offset_some_3_1 : ((Try.prog.fieldsOf 45)[1]?).map (fun f => (f.type, f.offset)) = some (3, 1) := by kernel_rfl
theorem tkfieldsOf_45_2_map_fun_f_f_type_f_offset_some_3_2 : ((Try.prog.fieldsOf 45)[2]?).map (fun f => (f.type, f.offset)) = some (3, 2) := by kernel_rfl
theorem tkfieldsOf_45_3_map_fun_f_f_type_f_offset_some_3_3 : ((Try.prog.fieldsOf 45)[3]?).map (fun f => (f.type, f.offset)) = some (3, 3) := by kernel_rfl
theorem tkunderlying_22_some_slice_45 : Try.prog.underlying 22 = some (.slice 45) := by kernel_rfl
theorem tksliceB_22_45_4_true : sliceB Try.prog 22 45 4 = true := by kernel_rfl
theorem tkunderlying_4_some_bool : Try.prog.underlying 4 = some .bool := by kernel_rfl
theorem tkownKnob_godebug_none : ownKnob Try.prog.godebug = none := by kernel_rfl
theorem tklaidOutB_true : laidOutB Try.prog = true := by kernel_rfl
theorem opens_45 {H : Type} {enc : TypeId × Value → H} {W : World} : Opens Try.prog W enc 45 cTiiii (fun y => (i64 y.1) ∧ (i64 y.2.1) ∧ (i64 y.2.2.1) ∧ (i64 y.2.2.2)) := fun n cs x h => by
  obtain ⟨xs, m, _, _, hl, hlen, hf⟩ := DataW.trod_struct tkunderlying_45_some_struct_fieldsOf_45 h
  rw [tkcellsOf_45_4] at hl
  obtain ⟨y0, e0, w0⟩ := field_open (i := 0) (opens_int tkunderlying_3_some_int_i64) hlen hf tkfieldsOf_45_0_map_fun_f_f_type_f_offset_some_3_0 tkcellsOf_3_1
  obtain ⟨y1, e1, w1⟩ := field_open (i := 1) (opens_int tkunderlying_3_some_int_i64) hlen hf tkfieldsOf_45_1_map_fun_f_f_type_f_offset_some_3_1 tkcellsOf_3_1
  obtain ⟨y2, e2, w2⟩ := field_open (i := 2) (opens_int tkunderlying_3_some_int_i64) hlen hf tkfieldsOf_45_2_map_fun_f_f_type_f_offset_some_3_2 tkcellsOf_3_1
  obtain ⟨y3, e3, w3⟩ := field_open (i := 3) (opens_int tkunderlying_3_some_int_i64) hlen hf tkfieldsOf_45_3_map_fun_f_f_type_f_offset_some_3_3 tkcellsOf_3_1
  clear hf h
  match cs, hl with
  | [c0, c1, c2, c3], _ =>
    simp [cI, cU, cB, cS] at e0
    simp [cI, cU, cB, cS] at e1
    simp [cI, cU, cB, cS] at e2
    simp [cI, cU, cB, cS] at e3
    exact ⟨(y0, y1, y2, y3), by simp [e0, e1, e2, e3], w0, w1, w2, w3⟩
set_option maxRecDepth 100000 in
theorem logsPlays_lifted (os : Os) (started : os.Started) (H : Type) (enc : TypeId × Value → H) :
    ReturnsInHanded Rows.logsPlaysRow.assume Try.checked os 3 .any (Rows.logsPlaysSpec.pre6 enc Try.prog Try.f3 Rows.logsPlaysRow.domain false) (Rows.logsPlaysSpec.post enc Try.prog Try.f3 false true false false) := by
  refine returnsInHanded_of_change (C := Try.checked) tkownKnob_godebug_none started (by kernel_rfl) Try.func3
    (ChangeSpec.witness6 (enc := enc) (C := Try.checked) false ⟨#[], #[.int .i64 0, .slice none 0 0], []⟩ 8 (by kernel_rfl) (by kernel_rfl) (by kernel_rfl) (by kernel_rfl)) ?_
  intro W base args ds gs before hval0 hW hcnd _
  have hval : ∀ (j : Nat) t v, Try.f3.params[j]? = some t → args[j]? = some v → Value.okWide Try.prog W .any base t v := hval0
  have hW' := hW
  obtain ⟨p, q, hA0, hV, rfl, hfz, hnd⟩ := hW
  have hA : DataW.TrodAll enc Try.prog W 0 (fun _ => true) true Try.f3.params.toList args.toList ds p := hA0
  rw [Try.params3] at hA hval
  obtain ⟨v0, vs0, d0, ds0, p0, q0, hargs, rfl, rfl, h0, r0⟩ := trodAll_cons hA
  obtain ⟨v1, vs1, d1, ds1, p1, q1, rfl, rfl, rfl, h1, r1⟩ := trodAll_cons r0
  obtain ⟨rfl, rfl, rfl⟩ := trodAll_nil r1
  obtain rfl : args = #[v0, v1] := by cases args; simp_all
  obtain ⟨rfl, rfl⟩ := trodVars_none hV
  have hh1 := h1
  have hh0 := h0
  obtain ⟨x0, rfl, rfl, rfl, wx0⟩ := open_int tkunderlying_3_some_int_i64 (hval 0 3 v0 rfl rfl) h0
  obtain ⟨x1, en1, ln1, wf1⟩ := open_rd tksliceB_22_45_4_true (by decide) (okWide_slice tkunderlying_22_some_slice_45 (hval 1 22 v1 rfl rfl)) h1 opens_45
  clear hA0 hval0
  refine (C3 en1 (law_LogsPlays x0 (i64_of wx0) x1 ln1 wf1) (St.start W)).mono fun e W' ⟨he, hs⟩ => ?_
  subst he
  have bel := hs.below
  exact ⟨_, rfl, _, _, _, [], _, [], hW', trodAll_mk1 (shut_bool tkunderlying_4_some_bool _), (trodAll_cons_mk (trod_below tklaidOutB_true (by kernel_rfl) (of_decide_eq_true (by kernel_rfl)) hh0 bel) (trodAll_cons_mk (trod_below tklaidOutB_true (by kernel_rfl) (of_decide_eq_true (by kernel_rfl)) hh1 bel) trodAll_mk0)), rfl, bel.frame _, fun h => by cases h⟩

theorem logsPlays_holds : Rows.LogsPlaysSaid :=
  OpenClaim.holds_of_wide 3 Try.f3 rfl rfl rfl rfl rfl rfl rfl ⟨rfl, rfl, rfl, rfl, rfl⟩ rfl rfl rfl rfl rfl (by kernel_rfl) Try.func3 (by kernel_rfl)
    (of_decide_eq_true (by kernel_rfl)) (by unfold Func.isWrapper; first | (rw [if_pos (by decide +kernel)]; kernel_rfl) | (rw [if_neg (by decide +kernel)]; exact ⟨rfl, rfl⟩))
    (fun os started H enc _ => logsPlays_lifted os started H enc)
#print axioms logsPlays_holds
end Go.Proofs.Ytacggcanjanmkaa
