/-
  The statement GossipPlaysSaid: for every input the call of the Go function beaconry/beaconrylaw.GossipPlays returns true, and each argument reads afterwards as it read before. No condition narrows the inputs.
-/
import Derived.Test.YtgofkfhkolkfmaaRows
import Derived.WalkKit
import Derived.ProofKit
import Derived.Test.YtgofkfhkolkfmaaBk6
import Derived.Test.YtgofkfhkolkfmaaHW
import Derived.Test.YtgofkfhkolkfmaaPw
import Derived.Test.YtgofkfhkolkfmaaHM
namespace Go.Proofs.Ytgofkfhkolkfmaa
open Go Go.Bk
set_option linter.unusedVariables false
set_option linter.unusedSimpArgs false
set_option linter.unusedSectionVars false

/-- pa x: what write x is behind, x too; kn i: the writes that i knows. -/
structure GI (n k : Nat) (fr : Nat → Nat) (pa kn : Nat → List Nat) : Prop where
  p0 : ∀ x, x ∈ pa x → x < k ∧ fr x < n
  p1 : ∀ x y, y ∈ pa x → y ≤ x ∧ y ∈ pa y ∧ x ∈ pa x ∧ ∀ z ∈ pa y, z ∈ pa x
  p2 : ∀ x, (pa x).Nodup
  k1 : ∀ i y, y ∈ kn i → y ∈ pa y ∧ ∀ z ∈ pa y, z ∈ kn i
  k2 : ∀ i, (kn i).Nodup
  ch : ∀ x y, x ∈ pa x → y ∈ pa y → fr x = fr y → x ≤ y → x ∈ pa y
  ow : ∀ x, x ∈ pa x → x ∈ kn (fr x)
/-- How many of a list are by j. -/
def cn (fr : Nat → Nat) (l : List Nat) (j : Nat) : Nat := l.countP fun y => decide (fr y = j)
def updL (f : Nat → List Nat) (i : Nat) (l : List Nat) : Nat → List Nat := fun j => if j = i then l else f j
theorem updL_eq {f : Nat → List Nat} {i : Nat} {l : List Nat} : updL f i l i = l := if_pos rfl
theorem updL_ne {f : Nat → List Nat} {i j : Nat} {l : List Nat} (h : j ≠ i) : updL f i l j = f j := if_neg h
/-- One that no other one of a list is behind. -/
def Top (pa : Nat → List Nat) (S : List Nat) (x : Nat) : Prop := x ∈ S ∧ ∀ o ∈ S, o ≠ x → x ∉ pa o

theorem cn_le {fr : Nat → Nat} {a b : List Nat} {j : Nat} (ha : a.Nodup) (h : ∀ x ∈ a, fr x = j → x ∈ b) : cn fr a j ≤ cn fr b j := by
  unfold cn
  rw [List.countP_eq_length_filter, List.countP_eq_length_filter]
  have : ∀ {l m : List Nat}, l.Nodup → (∀ x ∈ l, x ∈ m) → l.length ≤ m.length := by
    intro l
    induction l with
    | nil => intro m _ _; simp
    | cons x l ih =>
      intro m h s
      rw [List.nodup_cons] at h
      have hx : x ∈ m := s x (by simp)
      have := ih (m := m.erase x) h.2 fun y hy => (List.mem_erase_of_ne (fun e => h.1 (by rw [← e]; exact hy))).2 (s y (by simp [hy]))
      rw [List.length_erase_of_mem hx] at this
      have : 0 < m.length := List.length_pos_of_mem hx
      simp; omega
  refine this ((List.filter_sublist).nodup ha) fun x hx => ?_
  obtain ⟨h1, h2⟩ := List.mem_filter.1 hx
  exact List.mem_filter.2 ⟨h x h1 (by simpa using h2), h2⟩
theorem cn_lt {fr : Nat → Nat} {a b : List Nat} {j x : Nat} (ha : a.Nodup) (hb : b.Nodup) (h : ∀ y ∈ a, fr y = j → y ∈ b) (h1 : x ∈ b) (h2 : fr x = j) (h3 : x ∉ a) : cn fr a j < cn fr b j := by
  have e := cn_le (fr := fr) (a := x :: a) (b := b) (j := j) (List.nodup_cons.2 ⟨h3, ha⟩) fun y hy hj => by
    rcases List.mem_cons.1 hy with rfl | hy
    · exact h1
    · exact h y hy hj
  unfold cn at *
  rw [List.countP_cons] at e
  simp [h2] at e
  omega
section
variable {n k : Nat} {fr : Nat → Nat} {pa kn : Nat → List Nat}
/-- Clocks tell what is behind what. -/
theorem GI.under (I : GI n k fr pa kn) {x y : Nat} (hx : x ∈ pa x) (hy : y ∈ pa y) : (∀ j, j < n → cn fr (pa x) j ≤ cn fr (pa y) j) ↔ x ∈ pa y := by
  constructor
  · intro h
    refine Classical.byContradiction fun c => ?_
    have h1 := h (fr x) (I.p0 x hx).2
    have h2 : cn fr (pa y) (fr x) < cn fr (pa x) (fr x) := by
      refine cn_lt (I.p2 y) (I.p2 x) (fun z hz hj => ?_) hx rfl c
      obtain ⟨_, z2, _, z4⟩ := I.p1 y z hz
      rcases Nat.le_total z x with q | q
      · exact I.ch z x z2 hx hj q
      · exact absurd (z4 x (I.ch x z hx z2 hj.symm q)) c
    omega
  · intro h j _
    exact cn_le (I.p2 x) fun z hz _ => (I.p1 y x h).2.2.2 z hz
theorem GI.anti (I : GI n k fr pa kn) {x y : Nat} (h : x ∈ pa y) (h' : y ∈ pa x) : x = y := by
  have a := (I.p1 y x h).1
  have b := (I.p1 x y h').1
  omega
/-- Above each there is one that no other is behind. -/
theorem GI.above (I : GI n k fr pa kn) {i : Nat} : ∀ (m y : Nat), k - y = m → y ∈ kn i → ∃ t, Top pa (kn i) t ∧ y ∈ pa t := by
  intro m
  induction m using Nat.strongRecOn with
  | _ m ih =>
    intro y hm hy
    by_cases c : ∃ o, o ∈ kn i ∧ o ≠ y ∧ y ∈ pa o
    · obtain ⟨o, h1, h2, h3⟩ := c
      have hlt := (I.p1 o y h3).1
      have hok := (I.p0 o (I.k1 i o h1).1).1
      obtain ⟨t, t1, t2⟩ := ih (k - o) (by omega) o rfl h1
      exact ⟨t, t1, (I.p1 t o t2).2.2.2 y h3⟩
    · exact ⟨y, ⟨hy, fun o h1 h2 h3 => c ⟨o, h1, h2, h3⟩⟩, (I.k1 i y hy).1⟩
theorem GI.start : GI n 0 fr (fun _ => []) (fun _ => []) := ⟨fun _ h => (by cases h), fun _ _ h => (by cases h), fun _ => List.nodup_nil, fun _ _ h => (by cases h), fun _ => List.nodup_nil, fun _ _ h => (by cases h), fun _ h => (by cases h)⟩
theorem GI.up (I : GI n k fr pa kn) : GI n (k + 1) fr pa kn := { I with p0 := fun x h => ⟨by have := (I.p0 x h).1; omega, (I.p0 x h).2⟩ }
theorem GI.fresh (I : GI n k fr pa kn) : pa k = [] := by
  cases h : pa k with
  | nil => rfl
  | cons y l =>
    have hy : y ∈ pa k := by rw [h]; simp
    have := (I.p0 k (I.p1 k y hy).2.2.1).1
    omega
theorem GI.notin (I : GI n k fr pa kn) (i : Nat) : k ∉ kn i := fun h => by
  have := (I.p0 k (I.k1 i k h).1).1; omega
/-- A write. -/
theorem GI.write (I : GI n k fr pa kn) {i : Nat} (hi : i < n) (hf : fr k = i) : GI n (k + 1) fr (updL pa k (kn i ++ [k])) (updL kn i (kn i ++ [k])) := by
  have hk := I.notin i
  have nd : (kn i ++ [k]).Nodup := by
    rw [List.nodup_append]
    exact ⟨I.k2 i, by simp, fun a ha c hc => by simp at hc; subst hc; exact fun e => hk (e ▸ ha)⟩
  have old : ∀ x, x ∈ pa x → x ≠ k := fun x h e => by have := (I.p0 x h).1; omega
  have self : ∀ x, x ∈ updL pa k (kn i ++ [k]) x ↔ x ∈ pa x ∨ x = k := fun x => by
    by_cases c : x = k
    · subst c; rw [updL_eq]; simp
    · rw [updL_ne c]; simp [c]
  have sub : ∀ x, x ≠ k → updL pa k (kn i ++ [k]) x = pa x := fun x c => updL_ne c
  refine ⟨fun x h => ?_, fun x y h => ?_, fun x => ?_, fun j y h => ?_, fun j => ?_, fun x y h1 h2 h3 h4 => ?_, fun x h => ?_⟩
  · rcases (self x).1 h with h | rfl
    · exact ⟨by have := (I.p0 x h).1; omega, (I.p0 x h).2⟩
    · exact ⟨by omega, by omega⟩
  · by_cases c : x = k
    · subst c
      rw [updL_eq] at h
      rcases List.mem_append.1 h with h | h
      · obtain ⟨h1, h2⟩ := I.k1 i y h
        have hy := old y h1
        rw [sub y hy]
        refine ⟨by have := (I.p0 y h1).1; omega, h1, by rw [updL_eq]; simp, fun z hz => ?_⟩
        rw [updL_eq]; exact List.mem_append_left _ (h2 z hz)
      · simp at h; subst h
        rw [updL_eq]; exact ⟨Nat.le_refl _, by simp, by simp, fun z hz => hz⟩
    · rw [sub x c] at h ⊢
      obtain ⟨h1, h2, h3, h4⟩ := I.p1 x y h
      rw [sub y (old y h2)]
      exact ⟨h1, h2, h3, h4⟩
  · by_cases c : x = k
    · subst c; rw [updL_eq]; exact nd
    · rw [sub x c]; exact I.p2 x
  · by_cases c : j = i
    · subst c
      rw [updL_eq] at h ⊢
      rcases List.mem_append.1 h with h | h
      · obtain ⟨h1, h2⟩ := I.k1 j y h
        rw [sub y (old y h1)]
        exact ⟨h1, fun z hz => List.mem_append_left _ (h2 z hz)⟩
      · simp at h; subst h
        rw [updL_eq]; exact ⟨by simp, fun z hz => hz⟩
    · rw [updL_ne c] at h ⊢
      obtain ⟨h1, h2⟩ := I.k1 j y h
      rw [sub y (old y h1)]
      exact ⟨h1, h2⟩
  · by_cases c : j = i
    · subst c; rw [updL_eq]; exact nd
    · rw [updL_ne c]; exact I.k2 j
  · rcases (self y).1 h2 with hy2 | rfl
    · have hy := old y hy2
      rw [sub y hy]
      rcases (self x).1 h1 with hx1 | hx1
      · exact I.ch x y hx1 hy2 h3 h4
      · have := (I.p0 y hy2).1; omega
    · rw [updL_eq]
      rcases (self x).1 h1 with h1 | rfl
      · have := I.ow x h1
        rw [h3, hf] at this
        exact List.mem_append_left _ this
      · simp
  · rcases (self x).1 h with h | rfl
    · have := I.ow x h
      by_cases c : fr x = i
      · rw [c] at this ⊢; rw [updL_eq]; exact List.mem_append_left _ this
      · rw [updL_ne c]; exact this
    · rw [hf, updL_eq]; simp
/-- One tells another all that it knows. -/
theorem GI.tell (I : GI n k fr pa kn) (i t : Nat) : GI n (k + 1) fr pa (updL kn t (kn t ++ (kn i).filter fun x => decide (x ∉ kn t))) := by
  have mem : ∀ x, x ∈ kn t ++ (kn i).filter (fun x => decide (x ∉ kn t)) ↔ x ∈ kn t ∨ x ∈ kn i := fun x => by
    rw [List.mem_append, List.mem_filter, decide_eq_true_eq]
    constructor
    · rintro (h | h)
      · exact .inl h
      · exact .inr h.1
    · rintro (h | h)
      · exact .inl h
      · by_cases c : x ∈ kn t
        · exact .inl c
        · exact .inr ⟨h, c⟩
  refine ⟨fun x h => ⟨by have := (I.p0 x h).1; omega, (I.p0 x h).2⟩, I.p1, I.p2, fun j y h => ?_, fun j => ?_, I.ch, fun x h => ?_⟩
  · by_cases c : j = t
    · subst c
      rw [updL_eq] at h ⊢
      rcases (mem y).1 h with h | h
      · obtain ⟨h1, h2⟩ := I.k1 j y h
        exact ⟨h1, fun z hz => (mem z).2 (.inl (h2 z hz))⟩
      · obtain ⟨h1, h2⟩ := I.k1 i y h
        exact ⟨h1, fun z hz => (mem z).2 (.inr (h2 z hz))⟩
    · rw [updL_ne c] at h ⊢; exact I.k1 j y h
  · by_cases c : j = t
    · subst c
      rw [updL_eq, List.nodup_append]
      refine ⟨I.k2 j, (List.filter_sublist).nodup (I.k2 i), fun a ha b hb e => ?_⟩
      subst e
      have := (List.mem_filter.1 hb).2
      simp at this; exact this ha
    · rw [updL_ne c]; exact I.k2 j
  · have := I.ow x h
    by_cases c : fr x = t
    · rw [c] at this ⊢; rw [updL_eq]; exact (mem x).2 (.inl this)
    · rw [updL_ne c]; exact this
theorem tell_mem {i t x : Nat} : x ∈ updL kn t (kn t ++ (kn i).filter fun x => decide (x ∉ kn t)) t ↔ x ∈ kn t ∨ x ∈ kn i := by
  rw [updL_eq, List.mem_append, List.mem_filter, decide_eq_true_eq]
  constructor
  · rintro (h | h)
    · exact .inl h
    · exact .inr h.1
  · rintro (h | h)
    · exact .inl h
    · by_cases c : x ∈ kn t
      · exact .inl c
      · exact .inr ⟨h, c⟩
/-- Telling adds no write of one's own. -/
theorem GI.told_own (I : GI n k fr pa kn) (i t : Nat) : cn fr (kn t ++ (kn i).filter fun x => decide (x ∉ kn t)) t = cn fr (kn t) t := by
  unfold cn
  rw [List.countP_append]
  have : ((kn i).filter fun x => decide (x ∉ kn t)).countP (fun y => decide (fr y = t)) = 0 := by
    rw [List.countP_eq_zero]
    intro x hx hf
    obtain ⟨h1, h2⟩ := List.mem_filter.1 hx
    simp at h2 hf
    have := I.ow x (I.k1 i x h1).1
    rw [hf] at this; exact h2 this
  rw [this, Nat.add_zero]
/-- What stands at odds after one has told another: of both, those that no other one is behind. -/
theorem GI.top_tell (I : GI n k fr pa kn) {i t : Nat} {Kt Ki : List Nat} (ht : ∀ x, x ∈ Kt ↔ Top pa (kn t) x) (hi : ∀ x, x ∈ Ki ↔ Top pa (kn i) x) (x : Nat) :
    Top pa (updL kn t (kn t ++ (kn i).filter fun x => decide (x ∉ kn t)) t) x ↔ (x ∈ Kt ∨ x ∈ Ki) ∧ ∀ o, o ∈ Kt ∨ o ∈ Ki → o ≠ x → x ∉ pa o := by
  unfold Top
  constructor
  · rintro ⟨h1, h2⟩
    refine ⟨?_, fun o ho => h2 o (tell_mem.2 ?_)⟩
    · rcases tell_mem.1 h1 with h | h
      · exact .inl ((ht x).2 ⟨h, fun o ho => h2 o (tell_mem.2 (.inl ho))⟩)
      · exact .inr ((hi x).2 ⟨h, fun o ho => h2 o (tell_mem.2 (.inr ho))⟩)
    · rcases ho with ho | ho
      · exact .inl ((ht o).1 ho).1
      · exact .inr ((hi o).1 ho).1
  · rintro ⟨h1, h2⟩
    refine ⟨tell_mem.2 ?_, fun o ho hne hx => ?_⟩
    · rcases h1 with h | h
      · exact .inl ((ht x).1 h).1
      · exact .inr ((hi x).1 h).1
    · have key : ∀ {j : Nat} {K : List Nat}, (∀ x, x ∈ K ↔ Top pa (kn j) x) → (∀ m, m ∈ K → m ∈ Kt ∨ m ∈ Ki) → o ∈ kn j → False := fun {j K} hK hs ho => by
        obtain ⟨m, m1, m2⟩ := I.above (i := j) _ o rfl ho
        have hm := (I.p1 m o m2).2.2.2 x hx
        have : m ≠ x := fun e => by
          subst e
          exact hne (I.anti m2 hx)
        exact h2 m (hs m ((hK m).2 m1)) this hm
      rcases tell_mem.1 ho with ho | ho
      · exact key ht (fun m h => .inl h) ho
      · exact key hi (fun m h => .inr h) ho
/-- What stands at odds after a write: it alone. -/
theorem GI.top_write (I : GI n k fr pa kn) {i : Nat} (x : Nat) : Top (updL pa k (kn i ++ [k])) (updL kn i (kn i ++ [k]) i) x ↔ x = k := by
  unfold Top
  rw [updL_eq]
  constructor
  · rintro ⟨h1, h2⟩
    refine Classical.byContradiction fun c => ?_
    refine h2 k (by simp) (fun e => c e.symm) ?_
    rw [updL_eq]; exact h1
  · rintro rfl
    refine ⟨by simp, fun o ho hne hx => ?_⟩
    rw [updL_ne hne] at hx
    rcases List.mem_append.1 ho with ho | ho
    · have := (I.p1 o x hx).1
      have := (I.p0 o (I.k1 i o ho).1).1
      omega
    · simp at ho; exact hne ho
theorem GI.top_other (I : GI n k fr pa kn) {i j : Nat} (h : j ≠ i) (x : Nat) : Top (updL pa k (kn i ++ [k])) (updL kn i (kn i ++ [k]) j) x ↔ Top pa (kn j) x := by
  unfold Top
  rw [updL_ne h]
  refine and_congr Iff.rfl ?_
  have : ∀ o ∈ kn j, updL pa k (kn i ++ [k]) o = pa o := fun o ho => updL_ne fun e => I.notin j (e ▸ ho)
  constructor
  · intro h o ho; have q := h o ho; rwa [this o ho] at q
  · intro h o ho; rw [this o ho]; exact h o ho
/-- The greatest of what stands at odds is how many are known. -/
theorem GI.great (I : GI n k fr pa kn) {i : Nat} {K : List Nat} (hK : ∀ x, x ∈ K ↔ Top pa (kn i) x) (j : Nat) : K.foldl (fun t m => max t (cn fr (pa m) j)) 0 = cn fr (kn i) j := by
  have le : ∀ (l : List Nat) (a : Nat), (∀ m ∈ l, cn fr (pa m) j ≤ cn fr (kn i) j) → a ≤ cn fr (kn i) j → l.foldl (fun t m => max t (cn fr (pa m) j)) a ≤ cn fr (kn i) j := by
    intro l
    induction l with
    | nil => intro a _ h; exact h
    | cons x l ih =>
      intro a h h0
      exact ih (max a (cn fr (pa x) j)) (fun m hm => h m (List.mem_cons_of_mem _ hm)) (by have := h x (by simp); omega)
  have ge0 : ∀ (l : List Nat) (a : Nat), a ≤ l.foldl (fun t m => max t (cn fr (pa m) j)) a := by
    intro l
    induction l with
    | nil => intro a; exact Nat.le_refl _
    | cons x l ih => intro a; exact Nat.le_trans (by omega) (ih (max a (cn fr (pa x) j)))
  have ge1 : ∀ (l : List Nat) (a m : Nat), m ∈ l → cn fr (pa m) j ≤ l.foldl (fun t m => max t (cn fr (pa m) j)) a := by
    intro l
    induction l with
    | nil => intro a m h; cases h
    | cons x l ih =>
      intro a m h
      rcases List.mem_cons.1 h with rfl | h
      · exact Nat.le_trans (by omega) (ge0 l (max a (cn fr (pa m) j)))
      · exact ih _ m h
  refine Nat.le_antisymm (le K 0 (fun m hm => ?_) (Nat.zero_le _)) ?_
  · have := ((hK m).1 hm).1
    exact cn_le (I.p2 m) fun z hz _ => (I.k1 i m this).2 z hz
  · -- the latest by j
    by_cases c : ∃ y, y ∈ kn i ∧ fr y = j
    · have latest : ∃ y, y ∈ kn i ∧ fr y = j ∧ ∀ z ∈ kn i, fr z = j → z ≤ y := by
        obtain ⟨y, hy, hj⟩ := c
        have : ∀ (m y : Nat), k - y = m → y ∈ kn i → fr y = j → ∃ y, y ∈ kn i ∧ fr y = j ∧ ∀ z ∈ kn i, fr z = j → z ≤ y := by
          intro m
          induction m using Nat.strongRecOn with
          | _ m ih =>
            intro y hm hy hj
            by_cases q : ∃ z, z ∈ kn i ∧ fr z = j ∧ y < z
            · obtain ⟨z, z1, z2, z3⟩ := q
              have := (I.p0 z (I.k1 i z z1).1).1
              exact ih (k - z) (by omega) z rfl z1 z2
            · exact ⟨y, hy, hj, fun z z1 z2 => by
                by_cases w : z ≤ y
                · exact w
                · exact absurd ⟨z, z1, z2, by omega⟩ q⟩
        exact this _ y rfl hy hj
      obtain ⟨y, hy, hj, hl⟩ := latest
      obtain ⟨m, m1, m2⟩ := I.above (i := i) _ y rfl hy
      have a1 : cn fr (kn i) j ≤ cn fr (pa m) j := cn_le (I.k2 i) fun z hz hzj => (I.p1 m y m2).2.2.2 z (I.ch z y (I.k1 i z hz).1 (I.k1 i y hy).1 (by omega) (hl z hz hzj))
      exact Nat.le_trans a1 (ge1 K 0 m ((hK m).2 m1))
    · have : cn fr (kn i) j = 0 := by
        unfold cn
        rw [List.countP_eq_zero]
        intro y hy hf
        exact c ⟨y, hy, by simpa using hf⟩
      omega
end
/-! Words in order. -/
def cmpL : List Int → List Int → Int
  | [], [] => 0
  | [], _ :: _ => -1
  | _ :: _, [] => 1
  | x :: a, y :: b => if x < y then -1 else if y < x then 1 else cmpL a b
theorem cmpL_neg : ∀ (a b : List Int), cmpL b a = -cmpL a b
  | [], [] => rfl
  | [], _ :: _ => rfl
  | _ :: _, [] => rfl
  | x :: a, y :: b => by
    unfold cmpL
    by_cases h1 : x < y
    · have h2 : ¬ y < x := by omega
      simp [h1, h2]
    · by_cases h2 : y < x
      · simp [h1, h2]
      · simp only [if_neg h1, if_neg h2]; exact cmpL_neg a b
theorem cmpL_eq : ∀ {a b : List Int}, cmpL a b = 0 → a = b
  | [], [], _ => rfl
  | [], _ :: _, h => by cases h
  | _ :: _, [], h => by cases h
  | x :: a, y :: b, h => by
    unfold cmpL at h
    split at h
    · omega
    · split at h
      · omega
      · rw [cmpL_eq h, show x = y by omega]
theorem cmpL_self (a : List Int) : cmpL a a = 0 := by
  have := cmpL_neg a a; omega
theorem cmpL_val : ∀ (a b : List Int), cmpL a b = -1 ∨ cmpL a b = 0 ∨ cmpL a b = 1
  | [], [] => .inr (.inl rfl)
  | [], _ :: _ => .inl rfl
  | _ :: _, [] => .inr (.inr rfl)
  | x :: a, y :: b => by
    unfold cmpL
    split
    · exact .inl rfl
    · split
      · exact .inr (.inr rfl)
      · exact cmpL_val a b
theorem cmpL_trans : ∀ {a b c : List Int}, cmpL a b < 0 → cmpL b c < 0 → cmpL a c < 0
  | [], [], _, h, _ => by cases h
  | [], _ :: _, [], _, h => by cases h
  | [], _ :: _, _ :: _, _, _ => show (-1 : Int) < 0 by decide
  | _ :: _, [], _, h, _ => by cases h
  | _ :: _, _ :: _, [], _, h => by cases h
  | x :: a, y :: b, z :: c, h1, h2 => by
    unfold cmpL at h1 h2 ⊢
    by_cases p1 : x < y
    · by_cases p2 : y < z
      · rw [if_pos (by omega)]; decide
      · rw [if_neg p2] at h2
        by_cases p3 : z < y
        · rw [if_pos p3] at h2; cases h2
        · rw [if_pos (by omega)]; decide
    · rw [if_neg p1] at h1
      by_cases p4 : y < x
      · rw [if_pos p4] at h1; cases h1
      · rw [if_neg p4] at h1
        by_cases p2 : y < z
        · rw [if_pos (by omega)]; decide
        · rw [if_neg p2] at h2
          by_cases p3 : z < y
          · rw [if_pos p3] at h2; cases h2
          · rw [if_neg p3] at h2
            rw [if_neg (by omega), if_neg (by omega)]
            exact cmpL_trans h1 h2
/-- Of two orders of the same there is one. -/
theorem one_order {α : Type} {le : α → α → Prop} (anti : ∀ a b, le a b → le b a → a = b) : ∀ {l m : List α}, l.Perm m → l.Pairwise le → m.Pairwise le → l = m
  | [], m, h, _, _ => by rw [List.nil_perm] at h; exact h.symm
  | x :: l, m, h, h1, h2 => by
    cases m with
    | nil => exact absurd h.symm (by simp)
    | cons y m =>
      rw [List.pairwise_cons] at h1 h2
      have e : x = y := by
        have hx : x ∈ y :: m := h.subset (by simp)
        have hy : y ∈ x :: l := h.symm.subset (by simp)
        rcases List.mem_cons.1 hx with e | hx
        · exact e
        · rcases List.mem_cons.1 hy with e | hy
          · exact e.symm
          · exact anti x y (h1.1 y hy) (h2.1 x hx)
      subst e
      rw [one_order anti (List.Perm.cons_inv h) h1.2 h2.2]
end Go.Proofs.Ytgofkfhkolkfmaa

namespace Go.Proofs.Ytgofkfhkolkfmaa
open Go Go.Bk
set_option linter.unusedVariables false
set_option linter.unusedSimpArgs false
set_option linter.unusedSectionVars false

abbrev Mv := Int × Int × Int × Int
abbrev Kw := Int × Nat
def ge {α : Type} (d : α) (l : List α) (j : Nat) : α := l.getD j d
theorem get_ge {α : Type} (d : α) {l : List α} {j : Nat} (h : j < l.length) : l[j]? = some (ge d l j) := by simp [ge, List.getD_eq_getElem?_getD, List.getElem?_eq_getElem h]
theorem idx_ge {α : Type} (d : α) {l : List α} {j : Nat} (h : j < l.length) : idx l (j : Int) = some (ge d l j) := idx_some (get_ge d h)
theorem ge_set {α : Type} {d : α} {l : List α} {i b : Nat} {v : α} (hi : i < l.length) : ge d (l.set i v) b = if b = i then v else ge d l b := by
  unfold ge
  rw [List.getD_eq_getElem?_getD, List.getD_eq_getElem?_getD, List.getElem?_set]
  by_cases c : i = b
  · subst c; simp [hi]
  · have : ¬ b = i := fun e => c e.symm
    simp [c, this]
theorem w64i {x : Int} (h0 : -9000000000 ≤ x) (h1 : x ≤ 9000000000) : w64 x = x := w64_of (by omega) (by omega)
theorem app1 {α : Type} (b : Nat) (hb : b ≤ 128) (l : List α) (z : α) (h : l.length ≤ 60) : appl b l [z] = some (l ++ [z]) := by
  unfold appl; rw [if_pos]
  simp
  have : (l.length + 1) * b ≤ 61 * 128 := Nat.mul_le_mul (by omega) hb
  omega
theorem idx_setG {α : Type} {l : List α} {j : Nat} (h : j < l.length) (v : α) : idx (l.set j v) (j : Int) = some v := idx_some (by rw [List.getElem?_set_self h])
theorem idx_setN {α : Type} (d : α) {l : List α} {i j : Nat} (h : j < l.length) (hi : i < l.length) (v : α) : idx (l.set i v) (j : Int) = some (if j = i then v else ge d l j) := by
  rw [idx_ge d (by simpa using h), ge_set hi]
theorem nat_of {a : Int} (h : 0 ≤ a) : ∃ c : Nat, a = (c : Int) := ⟨a.toNat, by omega⟩
theorem while_ex {σ τ β ρ : Type} {body : σ → Option (Ctl σ β ρ)} (S : Nat → τ → σ) (n : Nat) (out : τ → β) (I : Nat → τ → Prop)
    (hstep : ∀ k t, k < n → I k t → ∃ t', body (S k t) = some (.nxt (S (k + 1) t')) ∧ I (k + 1) t') (hend : ∀ t, I n t → body (S n t) = some (.brk (out t))) (t : τ) (h0 : I 0 t) :
    ∃ t', whileM body (S 0 t) = some (.brk (out t')) ∧ I n t' := by
  have key : ∀ m k t, k + m = n → I k t → ∃ t', whileM body (S k t) = some (.brk (out t')) ∧ I n t' := by
    intro m
    induction m with
    | zero =>
      intro k t hk hI
      obtain rfl : k = n := by omega
      exact ⟨t, whileM_brk (hend t hI), hI⟩
    | succ m ih =>
      intro k t hk hI
      obtain ⟨t', h1, h2⟩ := hstep k t (by omega) hI
      rw [whileM_nxt h1]
      exact ih (k + 1) t' (by omega) h2
  exact key n 0 t (by omega) h0
theorem has_val (l : List Int) (hl : l.length ≤ 1000) (a : Int) : F16 l a = some (decide (a ∈ l)) := by
  have h : whileM (F16_L0 l a) 0 = some (found () (cond (l.any (fun e => a == e)) (some true) none)) := by
    rw [← scan_any (k := 0)]
    refine while_scan (by omega) _ (fun k e h => ?_) (by simp [F16_L0])
    have hk := lt_of_get h
    have hd : decide ((k : Int) < (l.length : Int)) = true := by rw [decide_eq_true_eq]; omega
    cases c : (a == e) <;> (simp only [F16_L0, idx_some h, hd, c, going, Option.bind_some, cond_true, cond_false]; simp)
  have e : l.any (fun e => a == e) = decide (a ∈ l) := by
    rw [Bool.eq_iff_iff, List.any_eq_true, decide_eq_true_eq]
    constructor
    · rintro ⟨x, hx, e⟩; rw [beq_iff_eq] at e; rw [e]; exact hx
    · intro h; exact ⟨a, h, by simp⟩
  unfold F16
  rw [h, e]
  cases c : decide (a ∈ l) <;> simp [found, Ctl.on]

theorem same_ints (l : List Int) (hl : l.length ≤ 1000) : F18 l l = some true := by
  have h : whileM (F18_L0 l l) 0 = some (.brk ()) := by
    refine while_upto (fun k => (k : Int)) l.length (fun k hk => ?_) (by simp [F18_L0]) (by simp)
    have hg : l[k]? = some l[k] := List.getElem?_eq_getElem hk
    have hd : decide ((k : Int) < (l.length : Int)) = true := by rw [decide_eq_true_eq]; omega
    simp only [F18_L0, hd, cond_true, idx_some hg, Option.bind_some, bne_self_eq_false, cond_false, w64_succ hk (by omega)]
  unfold F18
  rw [h]; simp [Ctl.on]
theorem same_codes (l : List Int) (hl : l.length ≤ 1000) : F7 l l = some true := same_ints l hl

theorem app2 {α : Type} (b : Nat) (hb : b ≤ 128) (l m : List α) (h : l.length ≤ 60) (h2 : m.length ≤ 60) : appl b l m = some (l ++ m) := by
  unfold appl; rw [if_pos]
  have : (l.length + m.length) * b ≤ 120 * 128 := Nat.mul_le_mul (by omega) hb
  omega
theorem mkl_rep {α : Type} {n b : Nat} (hn : n ≤ 60) (hb : b ≤ 128) (z : α) : mkl (n : Int) b z = some (List.replicate n z) := by
  unfold mkl
  rw [if_pos]; simp
  refine ⟨by omega, ?_, by omega⟩
  have : (b : Int) * (n : Int) ≤ 128 * 60 := Int.mul_le_mul (by omega) (by omega) (by omega) (by omega)
  omega
theorem idx_self {α : Type} {l : List α} {i : Nat} {v : α} (h : i < l.length) : idx (l.set i v) (i : Int) = some v := idx_some (List.getElem?_set_self h)
theorem idx_other {α : Type} {l : List α} {i j : Nat} {v : α} (h : i ≠ j) : idx (l.set i v) (j : Int) = idx l (j : Int) := by rw [idx_nat, idx_nat, List.getElem?_set_ne h]
theorem get_lt {α : Type} {l : List α} {k : Nat} {e : α} (g : l[k]? = some e) : k < l.length := (List.getElem?_eq_some_iff.1 g).1
/-- A list by its places. -/
def tbl {α : Type} (n : Nat) (f : Nat → α) : List α := (List.range n).map f
theorem tbl_len {α : Type} {n : Nat} {f : Nat → α} : (tbl n f).length = n := by simp [tbl]
theorem tbl_get {α : Type} {n : Nat} {f : Nat → α} {j : Nat} (h : j < n) : (tbl n f)[j]? = some (f j) := by simp [tbl, h]
theorem tbl_idx {α : Type} {n : Nat} {f : Nat → α} {j : Nat} (h : j < n) : idx (tbl n f) (j : Int) = some (f j) := idx_some (tbl_get h)
theorem tbl_set {α : Type} {n : Nat} {f : Nat → α} {j : Nat} {v : α} : (tbl n f).set j v = tbl n (fun i => if i = j then v else f i) := by
  apply List.ext_getElem?
  intro i
  rw [List.getElem?_set]
  by_cases hi : i < n
  · rw [tbl_get hi, tbl_get hi, tbl_len]
    by_cases e : j = i
    · subst e; simp [hi]
    · have : ¬ i = j := fun q => e q.symm
      simp [e, this]
  · rw [List.getElem?_eq_none (by rw [tbl_len]; omega)]
    by_cases e : j = i
    · subst e; rw [if_pos rfl, if_neg (by rw [tbl_len]; omega), List.getElem?_eq_none (by rw [tbl_len]; omega)]
    · rw [if_neg e, List.getElem?_eq_none (by rw [tbl_len]; omega)]
theorem tbl_congr {α : Type} {n : Nat} {f g : Nat → α} (h : ∀ i, i < n → f i = g i) : tbl n f = tbl n g := List.map_congr_left fun i hi => h i (List.mem_range.1 hi)
theorem rep_tbl {α : Type} {n : Nat} {v : α} : List.replicate n v = tbl n fun _ => v := by simp [tbl, List.map_const']
theorem under_val {n : Nat} (hn : n ≤ 1000) (a b : Nat → Int) : F26 (tbl n a) (tbl n b) = some (decide (∀ j, j < n → a j ≤ b j)) := by
  have key := while_scanN (body := F26_L0 (tbl n a) (tbl n b)) (fun k => (k : Int)) n (b := ()) (fun k => if a k ≤ b k then none else some false) (fun k hk => by
      have hd : decide ((k : Int) < ((tbl n a).length : Int)) = true := by rw [decide_eq_true_eq, tbl_len]; omega
      simp only [F26_L0, hd, cond_true, tbl_idx hk, Option.bind_some]
      by_cases c : a k ≤ b k
      · have c2 : decide (a k > b k) = false := by rw [decide_eq_false_iff_not]; omega
        rw [if_pos c, c2]; simp [going, w64_succ hk (by omega)]
      · have c2 : decide (a k > b k) = true := by rw [decide_eq_true_eq]; omega
        rw [if_neg c, c2]; simp [going]) (by
      have hd : decide ((n : Int) < ((tbl n a).length : Int)) = false := by rw [decide_eq_false_iff_not, tbl_len]; omega
      simp only [F26_L0, hd, cond_false])
  have key' : whileM (F26_L0 (tbl n a) (tbl n b)) 0 = _ := key
  unfold F26
  rw [key']
  cases q : scan (fun k (_ : Unit) => if a k ≤ b k then none else some false) (List.replicate n ()) 0 with
  | none =>
    have : ∀ j, j < n → a j ≤ b j := fun j hj => by
      have := scanN_none.1 q j hj
      split at this
      · assumption
      · cases this
    rw [decide_eq_true this]; rfl
  | some r =>
    obtain ⟨j, hj, hv⟩ := scanN_val q
    split at hv
    · cases hv
    · rename_i c
      obtain rfl := Option.some.inj hv
      have : ¬ ∀ j, j < n → a j ≤ b j := fun h => c (h j hj)
      rw [decide_eq_false this]; rfl
def sgn (x y : Int) : Int := if x < y then -1 else if y < x then 1 else 0
theorem f14_val (x y : Int) : F14 x y = some (sgn x y) := by
  unfold F14 F24 sgn
  by_cases h1 : x < y
  · simp [h1]
  · by_cases h2 : y < x
    · simp [h1, h2]
    · simp [h1, h2]
theorem f15_loop {a b : List Int} (hl : a.length = b.length) (h : a.length ≤ 1000) : ∀ (m k : Nat), k + m = a.length → whileM (F15_L0 a b) (k : Int) = some (if cmpL (a.drop k) (b.drop k) = 0 then .brk () else .ret (cmpL (a.drop k) (b.drop k))) := by
  intro m
  induction m with
  | zero =>
    intro k hk
    rw [List.drop_eq_nil_of_le (by omega), List.drop_eq_nil_of_le (by omega)]
    have hd : decide ((k : Int) < (a.length : Int)) = false := by rw [decide_eq_false_iff_not]; omega
    rw [whileM_brk (by simp only [F15_L0, hd, cond_false]; rfl)]; rfl
  | succ m ih =>
    intro k hk
    have ha : k < a.length := by omega
    have hb : k < b.length := by omega
    have hd : decide ((k : Int) < (a.length : Int)) = true := by rw [decide_eq_true_eq]; omega
    have hd2 : decide ((k : Int) ≥ (b.length : Int)) = false := by rw [decide_eq_false_iff_not]; omega
    have ga := idx_some (List.getElem?_eq_getElem ha)
    have gb := idx_some (List.getElem?_eq_getElem hb)
    have e : cmpL (a.drop k) (b.drop k) = if sgn a[k] b[k] = 0 then cmpL (a.drop (k + 1)) (b.drop (k + 1)) else sgn a[k] b[k] := by
      rw [List.drop_eq_getElem_cons ha, List.drop_eq_getElem_cons hb]
      show (if a[k] < b[k] then (-1 : Int) else if b[k] < a[k] then 1 else _) = _
      unfold sgn
      by_cases h1 : a[k] < b[k]
      · simp [h1]
      · by_cases h2 : b[k] < a[k]
        · simp [h1, h2]
        · simp [h1, h2]
    rw [e]
    by_cases c : sgn a[k] b[k] = 0
    · have c1 : (sgn a[k] b[k] != 0) = false := by simp [c]
      rw [if_pos c, whileM_nxt (s' := ((k + 1 : Nat) : Int)) (by simp only [F15_L0, hd, cond_true, ga, hd2, cond_false, gb, f14_val, c1, Option.bind_some, w64_succ ha (by omega)])]
      exact ih (k + 1) (by omega)
    · have c1 : (sgn a[k] b[k] != 0) = true := by simpa using c
      rw [if_neg c, if_neg c]
      exact whileM_ret (by simp only [F15_L0, hd, cond_true, ga, hd2, cond_false, gb, f14_val, c1, Option.bind_some])
theorem f15_val {a b : List Int} (hl : a.length = b.length) (h : a.length ≤ 1000) : F15 a b = some (cmpL a b) := by
  have := f15_loop hl h a.length 0 (by omega)
  rw [List.drop_zero, List.drop_zero] at this
  have this' : whileM (F15_L0 a b) 0 = _ := this
  unfold F15
  rw [this']
  by_cases c : cmpL a b = 0
  · rw [if_pos c, c]; simp [Ctl.on, hl]
  · rw [if_neg c]; simp [Ctl.on]
theorem f13_val (x y : Int) : F13 [x, y] = some (if x = 0 then y else x) := by
  unfold F13
  by_cases c : x = 0
  · subst c
    have e1 : whileM (F13_L0 [0, y]) 0 = whileM (F13_L0 [0, y]) 1 := whileM_nxt (by simp [F13_L0, idx, w64i (x := (0 : Int) + 1) (by omega) (by omega)]; exact w64i (by omega) (by omega))
    rw [e1, if_pos rfl]
    by_cases d : y = 0
    · subst d
      have e2 : whileM (F13_L0 [0, 0]) 1 = whileM (F13_L0 [0, 0]) 2 := whileM_nxt (by simp [F13_L0, idx]; exact w64i (by omega) (by omega))
      rw [e2, whileM_brk (by simp [F13_L0]; rfl)]; rfl
    · have d1 : (y != 0) = true := by simpa using d
      rw [whileM_ret (r := y) (by simp [F13_L0, idx, d1])]; rfl
  · have c1 : (x != 0) = true := by simpa using c
    rw [if_neg c, whileM_ret (r := x) (by simp [F13_L0, idx, c1])]; rfl
/-- What an entry says: its value, its clock. -/
def ky (pl : List (List Int)) (e : Kw) : List Int := e.1 :: ((pl[e.2]?).getD [])
theorem f12_val {pl : List (List Int)} {x y : Kw} {a b : List Int} (hx : pl[x.2]? = some a) (hy : pl[y.2]? = some b) (hl : a.length = b.length) (h : a.length ≤ 1000) : F12 x y pl = some (cmpL (ky pl x) (ky pl y)) := by
  have e1 : ky pl x = x.1 :: a := by unfold ky; rw [hx]; rfl
  have e2 : ky pl y = y.1 :: b := by unfold ky; rw [hy]; rfl
  have zx : zget pl x.2 = some a := hx
  have zy : zget pl y.2 = some b := hy
  simp only [F12, zx, zy, f14_val, f15_val hl h, f13_val, Option.bind_some]
  rw [e1, e2]
  congr 1
  show _ = if x.1 < y.1 then (-1 : Int) else if y.1 < x.1 then 1 else cmpL a b
  unfold sgn
  by_cases h1 : x.1 < y.1
  · simp [h1]
  · by_cases h2 : y.1 < x.1
    · simp [h1, h2]
    · simp [h1, h2]
theorem f17_loop {pl : List (List Int)} {x y : Kw} {a b : List Int} (hx : pl[x.2]? = some a) (hy : pl[y.2]? = some b) (hl : a.length = b.length) (h : a.length ≤ 1000) : ∀ (m k : Nat), k + m = a.length → whileM (F17_L0 x y pl) (k : Int) = some (if cmpL (a.drop k) (b.drop k) = 0 then .brk () else .ret (decide (cmpL (a.drop k) (b.drop k) < 0))) := by
  have zx : zget pl x.2 = some a := hx
  have zy : zget pl y.2 = some b := hy
  intro m
  induction m with
  | zero =>
    intro k hk
    rw [List.drop_eq_nil_of_le (by omega), List.drop_eq_nil_of_le (by omega)]
    have hd : decide ((k : Int) < (a.length : Int)) = false := by rw [decide_eq_false_iff_not]; omega
    rw [whileM_brk (by simp only [F17_L0, zx, Option.bind_some, hd, cond_false]; rfl)]; rfl
  | succ m ih =>
    intro k hk
    have ha : k < a.length := by omega
    have hb : k < b.length := by omega
    have hd : decide ((k : Int) < (a.length : Int)) = true := by rw [decide_eq_true_eq]; omega
    have ga := idx_some (List.getElem?_eq_getElem ha)
    have gb := idx_some (List.getElem?_eq_getElem hb)
    rw [List.drop_eq_getElem_cons ha, List.drop_eq_getElem_cons hb]
    by_cases c : a[k] = b[k]
    · have c1 : (a[k] != b[k]) = false := by simp [c]
      have e : cmpL (a[k] :: a.drop (k + 1)) (b[k] :: b.drop (k + 1)) = cmpL (a.drop (k + 1)) (b.drop (k + 1)) := by
        show (if a[k] < b[k] then (-1 : Int) else if b[k] < a[k] then 1 else _) = _
        rw [if_neg (by omega), if_neg (by omega)]
      rw [e, whileM_nxt (s' := ((k + 1 : Nat) : Int)) (by simp only [F17_L0, zx, zy, hd, cond_true, ga, gb, c1, cond_false, Option.bind_some, w64_succ ha (by omega)])]
      exact ih (k + 1) (by omega)
    · have c1 : (a[k] != b[k]) = true := by simpa using c
      have e : cmpL (a[k] :: a.drop (k + 1)) (b[k] :: b.drop (k + 1)) = if a[k] < b[k] then -1 else 1 := by
        show (if a[k] < b[k] then (-1 : Int) else if b[k] < a[k] then 1 else _) = _
        by_cases q : a[k] < b[k]
        · rw [if_pos q, if_pos q]
        · rw [if_neg q, if_neg q, if_pos (by omega)]
      rw [e, whileM_ret (r := decide (a[k] < b[k])) (by simp only [F17_L0, zx, zy, hd, cond_true, ga, gb, c1, Option.bind_some])]
      by_cases q : a[k] < b[k] <;> simp [q]
theorem f17_val {pl : List (List Int)} {x y : Kw} {a b : List Int} (hx : pl[x.2]? = some a) (hy : pl[y.2]? = some b) (hl : a.length = b.length) (h : a.length ≤ 1000) : F17 x y pl = some (decide (cmpL (ky pl x) (ky pl y) < 0)) := by
  have e1 : ky pl x = x.1 :: a := by unfold ky; rw [hx]; rfl
  have e2 : ky pl y = y.1 :: b := by unfold ky; rw [hy]; rfl
  rw [e1, e2]
  have hw := f17_loop hx hy hl h a.length 0 (by omega)
  rw [List.drop_zero, List.drop_zero] at hw
  have hw' : whileM (F17_L0 x y pl) 0 = _ := hw
  show _ = some (decide ((if x.1 < y.1 then (-1 : Int) else if y.1 < x.1 then 1 else cmpL a b) < 0))
  unfold F17
  by_cases c : x.1 = y.1
  · have c1 : (x.1 != y.1) = false := by simp [c]
    have n1 : ¬ x.1 < y.1 := by omega
    have n2 : ¬ y.1 < x.1 := by omega
    rw [c1, cond_false, hw', if_neg n1, if_neg n2]
    by_cases d : cmpL a b = 0
    · rw [if_pos d, d]; rfl
    · rw [if_neg d]; rfl
  · have c1 : (x.1 != y.1) = true := by simpa using c
    rw [c1, cond_true]
    by_cases q : x.1 < y.1
    · simp [q]
    · have : y.1 < x.1 := by omega
      simp [q, this]
theorem has_nat {l : List Nat} (hl : l.length ≤ 1000) (x : Nat) : F16 (l.map fun y : Nat => (y : Int)) (x : Int) = some (decide (x ∈ l)) := by
  rw [has_val _ (by simpa using hl)]
  congr 1
  rw [decide_eq_decide, List.mem_map]
  exact ⟨fun ⟨y, h, e⟩ => by have : y = x := by omega
                             rw [← this]; exact h, fun h => ⟨x, h, rfl⟩⟩
theorem same_knowns {pl : List (List Int)} {a b : List Kw} (hl : a.length ≤ 60) (he : a.map (ky pl) = b.map (ky pl)) (ha : ∀ x ∈ a, x.2 < pl.length) (hb : ∀ x ∈ b, x.2 < pl.length) (hp : ∀ v ∈ pl, v.length ≤ 1000) : F8 a b pl = some true := by
  have hab : a.length = b.length := by have := congrArg List.length he; simpa using this
  have h : whileM (F8_L0 a b pl) 0 = some (.brk ()) := by
    refine while_upto (fun k => (k : Int)) a.length (fun k hk => ?_) (by simp [F8_L0]) (by simp)
    have hk2 : k < b.length := by omega
    have hd : decide ((k : Int) < (a.length : Int)) = true := by rw [decide_eq_true_eq]; omega
    have ga := idx_some (List.getElem?_eq_getElem hk)
    have gb := idx_some (List.getElem?_eq_getElem hk2)
    have ra := ha _ (List.getElem_mem hk)
    have rb := hb _ (List.getElem_mem hk2)
    have q : ky pl a[k] = ky pl b[k] := by
      have := congrArg (fun l => l[k]?) he
      simp only [List.getElem?_map, List.getElem?_eq_getElem hk, List.getElem?_eq_getElem hk2, Option.map_some, Option.some.injEq] at this
      exact this
    have za : zget pl a[k].2 = some pl[a[k].2] := List.getElem?_eq_getElem ra
    have zb : zget pl b[k].2 = some pl[b[k].2] := List.getElem?_eq_getElem rb
    unfold ky at q
    rw [List.getElem?_eq_getElem ra, List.getElem?_eq_getElem rb] at q
    simp only [Option.getD_some, List.cons.injEq] at q
    have c1 : (a[k].1 != b[k].1) = false := by simp [q.1]
    have hs := same_ints pl[b[k].2] (hp _ (List.getElem_mem rb))
    simp only [F8_L0, hd, cond_true, ga, gb, c1, cond_false, za, zb, q.2, hs, Bool.not_true, Option.bind_some, w64_succ hk (by omega)]
  unfold F8
  have c : ((a.length : Int) != (b.length : Int)) = false := by simp [hab]
  rw [c, cond_false, h]; simp [Ctl.on]
theorem concat_val {a b : List Kw} (ha : a.length ≤ 60) (hb : b.length ≤ 60) : F25 [a, b] = some (a ++ b) := by
  have w1 : whileM (F25_L0 [a, b]) (0, 0) = some (.brk ((a.length + b.length : Nat) : Int)) := by
    have e1 : w64 ((0 : Int) + (a.length : Int)) = (a.length : Int) := by rw [w64i (x := (0 : Int) + (a.length : Int)) (by omega) (by omega)]; omega
    have e2 : w64 ((a.length : Int) + (b.length : Int)) = ((a.length + b.length : Nat) : Int) := by rw [w64i (x := (a.length : Int) + (b.length : Int)) (by omega) (by omega)]; omega
    have e3 : w64 (0 + 1) = 1 := w64i (by omega) (by omega)
    have e4 : w64 (1 + 1) = 2 := w64i (by omega) (by omega)
    have c1 : decide ((a.length : Int) < 0) = false := by rw [decide_eq_false_iff_not]; omega
    have c2 : decide (((a.length + b.length : Nat) : Int) < 0) = false := by rw [decide_eq_false_iff_not]; omega
    have s1 : F25_L0 [a, b] (0, 0) = some (.nxt ((a.length : Int), 1)) := by
      simp only [F25_L0, show decide ((0 : Int) < (([a, b].length : Nat) : Int)) = true from rfl, cond_true, show idx [a, b] 0 = some a from rfl, Option.bind_some, e1, c1, cond_false, e3]
    have s2 : F25_L0 [a, b] ((a.length : Int), 1) = some (.nxt (((a.length + b.length : Nat) : Int), 2)) := by
      simp only [F25_L0, show decide ((1 : Int) < (([a, b].length : Nat) : Int)) = true from rfl, cond_true, show idx [a, b] 1 = some b from rfl, Option.bind_some, e2, c2, cond_false, e4]
    rw [whileM_nxt s1, whileM_nxt s2]
    exact whileM_brk (by simp only [F25_L0, show decide ((2 : Int) < (([a, b].length : Nat) : Int)) = false from rfl, cond_false])
  have g : F37 ((a.length + b.length : Nat) : Int) = some [] := by
    unfold F37 growm
    rw [if_pos ⟨by omega, by omega, by omega⟩]
  have w2 : whileM (F25_L1 [a, b]) ([], 0) = some (.brk (a ++ b)) := by
    have e3 : w64 (0 + 1) = 1 := w64i (by omega) (by omega)
    have e4 : w64 (1 + 1) = 2 := w64i (by omega) (by omega)
    have p1 := app2 32 (by decide) ([] : List Kw) a (by simp) ha
    have p2 := app2 32 (by decide) a b ha hb
    have s1 : F25_L1 [a, b] ([], 0) = some (.nxt (a, 1)) := by
      simp only [F25_L1, show decide ((0 : Int) < (([a, b].length : Nat) : Int)) = true from rfl, cond_true, show idx [a, b] 0 = some a from rfl, Option.bind_some, p1, List.nil_append, e3]
    have s2 : F25_L1 [a, b] (a, 1) = some (.nxt (a ++ b, 2)) := by
      simp only [F25_L1, show decide ((1 : Int) < (([a, b].length : Nat) : Int)) = true from rfl, cond_true, show idx [a, b] 1 = some b from rfl, Option.bind_some, p2, e4]
    rw [whileM_nxt s1, whileM_nxt s2]
    exact whileM_brk (by simp only [F25_L1, show decide ((2 : Int) < (([a, b].length : Nat) : Int)) = false from rfl, cond_false])
  simp only [F25, w1, Ctl.on, g, Option.bind_some, w2]
end Go.Proofs.Ytgofkfhkolkfmaa

namespace Go.Proofs.Ytgofkfhkolkfmaa
open Go Go.Bk
set_option linter.unusedVariables false
set_option linter.unusedSimpArgs false
set_option linter.unusedSectionVars false
def cst (l : List Nat) : List Int := l.map fun y : Nat => (y : Int)
theorem cst_app (a b : List Nat) : cst (a ++ b) = cst a ++ cst b := List.map_append
theorem cst_len (a : List Nat) : (cst a).length = a.length := List.length_map _
def d4 : Mv := (0, 0, 0, 0)
/-- Who made a move; what it says. -/
def fr (l : List Mv) (x : Nat) : Nat := ((ge d4 l x).2.1).toNat
def en (l : List Mv) (rf : Nat → Nat) (x : Nat) : Kw := ((ge d4 l x).2.2.2, rf x)
/-- The clock of a write. -/
def vl (n : Nat) (l : List Mv) (pa : Nat → List Nat) (x : Nat) : List Int := tbl n fun j => ((cn (fr l) (pa x) j : Nat) : Int)
theorem nodup_lt {l : List Nat} {k : Nat} (h : l.Nodup) (s : ∀ x ∈ l, x < k) : l.length ≤ k := by
  have := cn_le (fr := fun _ => 0) (j := 0) h (b := List.range k) fun x hx _ => List.mem_range.2 (s x hx)
  unfold cn at this
  simpa using this
theorem take_succ' {α : Type} {L : List α} {k : Nat} (hk : k < L.length) : L.take (k + 1) = L.take k ++ [L[k]] := by
  rw [List.take_add_one, List.getElem?_eq_getElem hk]; rfl
theorem app1k {α : Type} (b : Nat) (hb : b ≤ 128) (l : List α) (z : α) (h : l.length ≤ 1000) : appl b l [z] = some (l ++ [z]) := by
  unfold appl; rw [if_pos]
  simp
  have : (l.length + 1) * b ≤ 1001 * 128 := Nat.mul_le_mul (by omega) hb
  omega
structure Gr (n k : Nat) (l : List Mv) (pa kn K : Nat → List Nat) (rf : Nat → Nat) (past knows : List (List Int)) (known : List (List Kw)) (wrote : List Int) (pl : List (List Int)) : Prop where
  I : GI n k (fr l) pa kn
  hp : past = tbl l.length fun x => cst (pa x)
  hk : knows = tbl n fun i => cst (kn i)
  hK : known = tbl n fun i => (K i).map (en l rf)
  hw : wrote = tbl n fun i => ((cn (fr l) (kn i) i : Nat) : Int)
  kt : ∀ i x, x ∈ K i ↔ Top pa (kn i) x
  kd : ∀ i, (K i).Nodup
  po : ∀ x, x ∈ pa x → pl[rf x]? = some (vl n l pa x)
  pz : ∀ v ∈ pl, v.length = n
  nf : ∀ x, x ∈ pa x → (ge d4 l x).2.1 = ((fr l x : Nat) : Int)
section
variable {n k : Nat} {l : List Mv} {pa kn K : Nat → List Nat} {rf : Nat → Nat} {past knows : List (List Int)} {known : List (List Kw)} {wrote : List Int} {pl : List (List Int)}
theorem Gr.kn_lt (h : Gr n k l pa kn K rf past knows known wrote pl) {i x : Nat} (hx : x ∈ kn i) : x < k := (h.I.p0 x (h.I.k1 i x hx).1).1
theorem Gr.kn_len (h : Gr n k l pa kn K rf past knows known wrote pl) (i : Nat) : (kn i).length ≤ k := nodup_lt (h.I.k2 i) fun x hx => h.kn_lt hx
theorem Gr.K_pa (h : Gr n k l pa kn K rf past knows known wrote pl) {i x : Nat} (hx : x ∈ K i) : x ∈ pa x := (h.I.k1 i x ((h.kt i x).1 hx).1).1
theorem Gr.K_len (h : Gr n k l pa kn K rf past knows known wrote pl) (i : Nat) : (K i).length ≤ k := nodup_lt (h.kd i) fun x hx => h.kn_lt ((h.kt i x).1 hx).1
theorem Gr.rf_lt (h : Gr n k l pa kn K rf past knows known wrote pl) {x : Nat} (hx : x ∈ pa x) : rf x < pl.length := (List.getElem?_eq_some_iff.1 (h.po x hx)).1
theorem Gr.pa_len (h : Gr n k l pa kn K rf past knows known wrote pl) (x : Nat) : (pa x).length ≤ k := nodup_lt (h.I.p2 x) fun y hy => (h.I.p0 y (h.I.p1 x y hy).2.1).1
theorem cn_len {f : Nat → Nat} {a : List Nat} {j : Nat} : cn f a j ≤ a.length := List.countP_le_length
theorem zokLL_ok {r : Kw → Nat} {m : Nat} {ls : List (List Kw)} (h : ∀ y ∈ ls, ∀ x ∈ y, r x < m) : zokLL r m ls = some () := by
  unfold zokLL; rw [if_pos]
  simpa using h
theorem zokL_ok {r : Kw → Nat} {m : Nat} {ls : List Kw} (h : ∀ x ∈ ls, r x < m) : zokL r m ls = some () := by
  unfold zokL; rw [if_pos]
  simpa using h
theorem Gr.known_ok (h : Gr n k l pa kn K rf past knows known wrote pl) : ∀ y ∈ known, ∀ x ∈ y, x.2 < pl.length := fun y hy x hx => by
  rw [h.hK] at hy
  obtain ⟨i, _, rfl⟩ := List.mem_map.1 hy
  obtain ⟨z, hz, rfl⟩ := List.mem_map.1 hx
  exact h.rf_lt (h.K_pa hz)
/-- One clock after another: the greatest. -/
theorem great1 (hn : n ≤ 6) (a b : Nat → Int) : whileM (F21_L1 (tbl n b)) (tbl n a, 0) = some (.brk (tbl n fun j => mx (a j) (b j))) := by
  have key := while_upto (body := F21_L1 (tbl n b)) (fun q => (tbl n (fun j => if j < q then mx (a j) (b j) else a j), (q : Int))) n (c := .brk (tbl n fun j => mx (a j) (b j))) (fun q hq => by
      have hd : decide ((q : Int) < ((tbl n b).length : Int)) = true := by rw [decide_eq_true_eq, tbl_len]; omega
      simp only [F21_L1, hd, cond_true, tbl_idx hq, Option.bind_some, if_neg (Nat.lt_irrefl q), Int.toNat_natCast, tbl_set, w64_succ hq (by omega)]
      congr 3
      refine tbl_congr fun j hj => ?_
      by_cases e : j = q
      · subst e; rw [if_pos rfl, if_pos (by omega)]
      · rw [if_neg e]
        by_cases c : j < q
        · rw [if_pos c, if_pos (by omega)]
        · rw [if_neg c, if_neg (by omega)]) (by
      have hd : decide ((n : Int) < ((tbl n b).length : Int)) = false := by rw [decide_eq_false_iff_not, tbl_len]; omega
      simp only [F21_L1, hd, cond_false]
      congr 2
      refine tbl_congr fun j hj => by rw [if_pos hj]) (by simp)
  have e0 : tbl n (fun j => if j < 0 then mx (a j) (b j) else a j) = tbl n a := tbl_congr fun j hj => by rw [if_neg (by omega)]
  simp only [e0] at key
  exact key
theorem mx_cast (a b : Nat) : mx (a : Int) (b : Int) = ((max a b : Nat) : Int) := by unfold mx; split <;> omega
theorem Gr.write (h : Gr n k l pa kn K rf past knows known wrote pl) (hn : n ≤ 6) (hk60 : k < 60) {i : Nat} (hi : i < n) (hf0 : (ge d4 l k).2.1 = (i : Int)) :
    ∃ known' wrote' pl', F21 (known, wrote) (i : Int) (ge d4 l k).2.2.2 pl = some ((known', wrote'), pl') ∧
      Gr n (k + 1) l (updL pa k (kn i ++ [k])) (updL kn i (kn i ++ [k])) (updL K i [k]) (fun x => if x = k then pl.length else rf x) (past.set k (cst (kn i ++ [k]))) (knows.set i (cst (kn i ++ [k]))) known' wrote' pl' := by
  have hf : fr l k = i := by unfold fr; rw [hf0]; simp
  have hlen : known.length = n := by rw [h.hK, tbl_len]
  have m8 := mkl_rep (n := n) (by omega) (show 8 ≤ 128 by decide) (0 : Int)
  have ik : idx known (i : Int) = some ((K i).map (en l rf)) := by rw [h.hK]; exact tbl_idx hi
  have iw : idx wrote (i : Int) = some ((cn (fr l) (kn i) i : Nat) : Int) := by rw [h.hw]; exact tbl_idx hi
  have hKl := h.K_len i
  have loop : whileM (F21_L0 pl ((K i).map (en l rf))) (tbl n (fun _ => 0), 0) = some (.brk (tbl n fun j => ((cn (fr l) (kn i) j : Nat) : Int))) := by
    have key := while_upto (body := F21_L0 pl ((K i).map (en l rf))) (fun q => (tbl n (fun j => ((((K i).take q).foldl (fun t m => max t (cn (fr l) (pa m) j)) 0 : Nat) : Int)), (q : Int))) (K i).length (c := .brk (tbl n fun j => ((cn (fr l) (kn i) j : Nat) : Int))) (fun q hq => by
        have hd : decide ((q : Int) < (((K i).map (en l rf)).length : Int)) = true := by rw [decide_eq_true_eq, List.length_map]; omega
        have hg : idx ((K i).map (en l rf)) (q : Int) = some (en l rf (K i)[q]) := idx_some (by rw [List.getElem?_map, List.getElem?_eq_getElem hq]; rfl)
        have hz : zget pl (en l rf (K i)[q]).2 = some (vl n l pa (K i)[q]) := h.po _ (h.K_pa (List.getElem_mem hq))
        have g1 := great1 hn (fun j => ((((K i).take q).foldl (fun t m => max t (cn (fr l) (pa m) j)) 0 : Nat) : Int)) (fun j => ((cn (fr l) (pa (K i)[q]) j : Nat) : Int))
        simp only [F21_L0, hd, cond_true, hg, hz, vl, g1, Ctl.on, Option.bind_some, w64_succ hq (by omega), mx_cast]
        congr 3
        refine tbl_congr fun j hj => ?_
        rw [take_succ' hq, List.foldl_append]; rfl) (by
        have hd : decide (((K i).length : Int) < (((K i).map (en l rf)).length : Int)) = false := by rw [decide_eq_false_iff_not, List.length_map]; omega
        simp only [F21_L0, hd, cond_false]
        congr 2
        refine tbl_congr fun j hj => ?_
        rw [List.take_length, h.I.great (h.kt i) j]) (by simp)
    exact key
  have hc : cn (fr l) (kn i) i ≤ 60 := by
    have := cn_len (f := fr l) (a := kn i) (j := i)
    have := h.kn_len i
    omega
  have hw : w64 (((cn (fr l) (kn i) i : Nat) : Int) + 1) = ((cn (fr l) (kn i) i + 1 : Nat) : Int) := by rw [w64i (x := ((cn (fr l) (kn i) i : Nat) : Int) + 1) (by omega) (by omega)]; push_cast; rfl
  have ok := zokLL_ok (r := fun x : Kw => x.2) h.known_ok
  have hwl : wrote.length = n := by rw [h.hw, tbl_len]
  have I' := h.I.write hi hf
  have cnk : ∀ j, cn (fr l) (kn i ++ [k]) j = cn (fr l) (kn i) j + if i = j then 1 else 0 := fun j => by
    unfold cn
    rw [List.countP_append, List.countP_singleton, hf]
    by_cases e : i = j <;> simp [e]
  refine ⟨known.set i [((ge d4 l k).2.2.2, pl.length)], wrote.set i ((cn (fr l) (kn i) i + 1 : Nat) : Int), pl ++ [tbl n fun j => ((cn (fr l) (kn i ++ [k]) j : Nat) : Int)], ?_, ?_⟩
  · rw [rep_tbl] at m8
    have ii : idx (wrote.set i ((cn (fr l) (kn i) i + 1 : Nat) : Int)) (i : Int) = some ((cn (fr l) (kn i) i + 1 : Nat) : Int) := idx_self (by rw [hwl]; exact hi)
    have iy : idx (tbl n fun j => ((cn (fr l) (kn i) j : Nat) : Int)) (i : Int) = some ((cn (fr l) (kn i) i : Nat) : Int) := tbl_idx hi
    have hset : (tbl n fun j => ((cn (fr l) (kn i) j : Nat) : Int)).set i ((cn (fr l) (kn i) i + 1 : Nat) : Int) = tbl n fun j => ((cn (fr l) (kn i ++ [k]) j : Nat) : Int) := by
      rw [tbl_set]
      refine tbl_congr fun j hj => ?_
      by_cases e : j = i
      · subst e; rw [if_pos rfl, cnk, if_pos rfl]
      · rw [if_neg e, cnk, if_neg (fun q => e q.symm)]; rfl
    simp only [F21, hlen, m8, ik, loop, Ctl.on, iw, hw, ii, iy, ok, Option.bind_some, Int.toNat_natCast, hset]
  · have hne : ∀ x, x ∈ pa x → x ≠ k := fun x hx e => by have := (h.I.p0 x hx).1; omega
    refine ⟨I', ?_, ?_, ?_, ?_, fun j x => ?_, fun j => ?_, fun x hx => ?_, fun v hv => ?_, fun x hx => ?_⟩
    · rw [h.hp, tbl_set]
      refine tbl_congr fun x _ => ?_
      by_cases e : x = k
      · subst e; rw [if_pos rfl, updL_eq]
      · rw [if_neg e, updL_ne e]
    · rw [h.hk, tbl_set]
      refine tbl_congr fun x _ => ?_
      by_cases e : x = i
      · subst e; rw [if_pos rfl, updL_eq]
      · rw [if_neg e, updL_ne e]
    · rw [h.hK, tbl_set]
      refine tbl_congr fun x _ => ?_
      by_cases e : x = i
      · subst e
        rw [if_pos rfl, updL_eq]
        simp [en]
      · rw [if_neg e, updL_ne e]
        refine List.map_congr_left fun y hy => ?_
        have := hne y (h.K_pa hy)
        simp [en, this]
    · rw [h.hw, tbl_set]
      refine tbl_congr fun x _ => ?_
      by_cases e : x = i
      · subst e; rw [if_pos rfl, updL_eq, cnk, if_pos rfl]
      · rw [if_neg e, updL_ne e]
    · by_cases e : j = i
      · subst e; rw [updL_eq, h.I.top_write]; simp
      · rw [updL_ne e, h.I.top_other e]; exact h.kt j x
    · by_cases e : j = i
      · subst e; rw [updL_eq]; simp
      · rw [updL_ne e]; exact h.kd j
    · by_cases e : x = k
      · subst e
        rw [if_pos rfl, List.getElem?_append_right (Nat.le_refl _), Nat.sub_self]
        unfold vl
        rw [updL_eq]; rfl
      · rw [if_neg e]
        rw [updL_ne e] at hx
        have := h.rf_lt hx
        rw [List.getElem?_append_left this, h.po x hx]
        unfold vl
        rw [updL_ne e]
    · rcases List.mem_append.1 hv with hv | hv
      · exact h.pz v hv
      · simp at hv; subst hv; exact tbl_len
    · by_cases e : x = k
      · subst e; rw [hf]; exact hf0
      · rw [updL_ne e] at hx; exact h.nf x hx
end
end Go.Proofs.Ytgofkfhkolkfmaa

namespace Go.Proofs.Ytgofkfhkolkfmaa
open Go Go.Bk
set_option linter.unusedVariables false
set_option linter.unusedSimpArgs false
set_option linter.unusedSectionVars false
/-- Is what stands at place p behind another, or there already? -/
def oldB (pa : Nat → List Nat) (S : List Nat) (p q : Nat) : Bool := (decide (ge 0 S p ∈ pa (ge 0 S q)) && !decide (ge 0 S p = ge 0 S q)) || (decide (ge 0 S p = ge 0 S q) && decide (q < p))
def keepB (pa : Nat → List Nat) (S : List Nat) (p : Nat) : Bool := !(List.range S.length).any (oldB pa S p)
def left (pa : Nat → List Nat) (S : List Nat) : List Nat := ((List.range S.length).filter (keepB pa S)).map (ge 0 S)
theorem keepB_iff {pa : Nat → List Nat} {S : List Nat} {p : Nat} : keepB pa S p = true ↔ ∀ q, q < S.length → ¬ (ge 0 S p ∈ pa (ge 0 S q) ∧ ge 0 S p ≠ ge 0 S q) ∧ ¬ (ge 0 S p = ge 0 S q ∧ q < p) := by
  unfold keepB oldB
  rw [Bool.not_eq_true', ← Bool.not_eq_true, List.any_eq_true]
  constructor
  · intro h q hq
    refine ⟨fun e => h ⟨q, List.mem_range.2 hq, ?_⟩, fun e => h ⟨q, List.mem_range.2 hq, ?_⟩⟩
    · simp [e.1, e.2]
    · simp [e.1, e.2]
  · rintro h ⟨q, hq, e⟩
    obtain ⟨h1, h2⟩ := h q (List.mem_range.1 hq)
    simp only [Bool.or_eq_true, Bool.and_eq_true, decide_eq_true_eq, Bool.not_eq_true', decide_eq_false_iff_not] at e
    rcases e with e | e
    · exact h1 e
    · exact h2 e
theorem ge_mem {S : List Nat} {p : Nat} (h : p < S.length) : ge 0 S p ∈ S := by
  have := get_ge 0 h
  exact List.mem_of_getElem? this
theorem mem_ge {S : List Nat} {x : Nat} (h : x ∈ S) : ∃ p, p < S.length ∧ ge 0 S p = x := by
  obtain ⟨p, hp⟩ := List.mem_iff_getElem?.1 h
  have := get_lt hp
  refine ⟨p, this, ?_⟩
  rw [get_ge 0 this] at hp
  exact Option.some.inj hp
theorem left_nodup {pa : Nat → List Nat} {S : List Nat} : (left pa S).Nodup := by
  unfold left
  rw [List.Nodup, List.pairwise_map]
  have h0 : ((List.range S.length).filter (keepB pa S)).Nodup := (List.filter_sublist).nodup List.nodup_range
  refine List.Pairwise.imp_of_mem (fun {a b} ha hb hne e => ?_) h0
  obtain ⟨a1, a2⟩ := List.mem_filter.1 ha
  obtain ⟨b1, b2⟩ := List.mem_filter.1 hb
  rw [List.mem_range] at a1 b1
  rcases Nat.lt_or_gt_of_ne hne with c | c
  · exact ((keepB_iff.1 b2) a a1).2 ⟨e.symm, c⟩
  · exact ((keepB_iff.1 a2) b b1).2 ⟨e, c⟩
theorem left_mem {pa : Nat → List Nat} {S : List Nat} {x : Nat} : x ∈ left pa S ↔ x ∈ S ∧ ∀ o ∈ S, o ≠ x → x ∉ pa o := by
  unfold left
  rw [List.mem_map]
  constructor
  · rintro ⟨p, hp, rfl⟩
    obtain ⟨p1, p2⟩ := List.mem_filter.1 hp
    rw [List.mem_range] at p1
    refine ⟨ge_mem p1, fun o ho hne hx => ?_⟩
    obtain ⟨q, q1, q2⟩ := mem_ge ho
    subst q2
    exact ((keepB_iff.1 p2) q q1).1 ⟨hx, fun e => hne e.symm⟩
  · rintro ⟨h1, h2⟩
    -- the first place
    have : ∃ p, p < S.length ∧ ge 0 S p = x ∧ ∀ q, q < p → ge 0 S q ≠ x := by
      obtain ⟨p, p1, p2⟩ := mem_ge h1
      clear h1 h2
      induction p using Nat.strongRecOn with
      | _ p ih =>
        by_cases c : ∃ q, q < p ∧ ge 0 S q = x
        · obtain ⟨q, q1, q2⟩ := c
          exact ih q q1 (by omega) q2
        · exact ⟨p, p1, p2, fun q hq e => c ⟨q, hq, e⟩⟩
    obtain ⟨p, p1, p2, p3⟩ := this
    refine ⟨p, List.mem_filter.2 ⟨List.mem_range.2 p1, keepB_iff.2 fun q hq => ⟨fun e => ?_, fun e => ?_⟩⟩, p2⟩
    · rw [p2] at e
      exact h2 _ (ge_mem hq) (fun r => e.2 r.symm) e.1
    · rw [p2] at e
      exact p3 q e.2 e.1.symm
section
variable {n k : Nat} {l : List Mv} {pa kn K : Nat → List Nat} {rf : Nat → Nat} {past knows : List (List Int)} {known : List (List Kw)} {wrote : List Int} {pl : List (List Int)}
theorem Gr.under (h : Gr n k l pa kn K rf past knows known wrote pl) (hn : n ≤ 6) {x y : Nat} (hx : x ∈ pa x) (hy : y ∈ pa y) : F26 (vl n l pa x) (vl n l pa y) = some (decide (x ∈ pa y)) := by
  unfold vl
  rw [under_val (by omega)]
  congr 1
  rw [decide_eq_decide, ← h.I.under hx hy]
  exact ⟨fun q j hj => by have := q j hj; omega, fun q j hj => by have := q j hj; omega⟩
theorem Gr.tell (h : Gr n k l pa kn K rf past knows known wrote pl) (hn : n ≤ 6) (hk60 : k < 60) {i t : Nat} (hi : i < n) (ht : t < n) :
    ∃ known', F20 known (i : Int) (t : Int) pl = some known' ∧
      Gr n (k + 1) l pa (updL kn t (kn t ++ (kn i).filter fun x => decide (x ∉ kn t))) (updL K t (left pa (K t ++ K i))) rf past (knows.set t (cst (kn t ++ (kn i).filter fun x => decide (x ∉ kn t)))) known' wrote pl := by
  have ik : idx known (i : Int) = some ((K i).map (en l rf)) := by rw [h.hK]; exact tbl_idx hi
  have it : idx known (t : Int) = some ((K t).map (en l rf)) := by rw [h.hK]; exact tbl_idx ht
  have hKi := h.K_len i
  have hKt := h.K_len t
  have hcat := concat_val (a := (K t).map (en l rf)) (b := (K i).map (en l rf)) (by rw [List.length_map]; omega) (by rw [List.length_map]; omega)
  rw [← List.map_append] at hcat
  generalize hS : K t ++ K i = S at *
  have hSl : S.length ≤ 120 := by rw [← hS, List.length_append]; omega
  have hpS : ∀ x ∈ S, x ∈ pa x := fun x hx => by
    rw [← hS] at hx
    rcases List.mem_append.1 hx with hx | hx <;> exact h.K_pa hx
  have gS : ∀ p, p < S.length → idx (S.map (en l rf)) (p : Int) = some (en l rf (ge 0 S p)) := fun p hp => idx_some (by rw [List.getElem?_map, get_ge 0 hp]; rfl)
  have gz : ∀ p, p < S.length → zget pl (en l rf (ge 0 S p)).2 = some (vl n l pa (ge 0 S p)) := fun p hp => h.po _ (hpS _ (ge_mem hp))
  have inner : ∀ p, p < S.length → whileM (F20_L1 pl (S.map (en l rf)) (p : Int) (en l rf (ge 0 S p))) (false, 0) = some (.brk ((List.range S.length).any (oldB pa S p))) := fun p hp => by
    have key := while_upto (body := F20_L1 pl (S.map (en l rf)) (p : Int) (en l rf (ge 0 S p))) (fun q => ((List.range q).any (oldB pa S p), (q : Int))) S.length (c := .brk ((List.range S.length).any (oldB pa S p))) (fun q hq => by
        have hd : decide ((q : Int) < ((S.map (en l rf)).length : Int)) = true := by rw [decide_eq_true_eq, List.length_map]; omega
        have u1 := h.under hn (hpS _ (ge_mem hp)) (hpS _ (ge_mem hq))
        have u2 := h.under hn (hpS _ (ge_mem hq)) (hpS _ (ge_mem hp))
        have e1 : (cond (decide (ge 0 S p ∈ pa (ge 0 S q))) (some (decide (ge 0 S q ∈ pa (ge 0 S p)))) (some false)) = some (decide (ge 0 S p = ge 0 S q)) := by
          by_cases c : ge 0 S p ∈ pa (ge 0 S q)
          · rw [decide_eq_true c, cond_true]
            congr 1
            rw [decide_eq_decide]
            exact ⟨fun e => h.I.anti c e, fun e => by rw [e] at c ⊢; exact c⟩
          · rw [decide_eq_false c, cond_false]
            have : ¬ ge 0 S p = ge 0 S q := fun e => by
              rw [← e] at c; exact c (hpS _ (ge_mem hp))
            rw [decide_eq_false this]
        have e2 : decide ((q : Int) < (p : Int)) = decide (q < p) := by rw [decide_eq_decide]; omega
        simp only [F20_L1, hd, cond_true, gS q hq, gz q hq, gz p hp, u1, u2, Option.bind_some, e1, e2, w64_succ hq (by omega)]
        congr 3
        rw [List.range_succ, List.any_append]
        simp [oldB, Bool.or_assoc]) (by
        have hd : decide ((S.length : Int) < ((S.map (en l rf)).length : Int)) = false := by rw [decide_eq_false_iff_not, List.length_map]; omega
        simp only [F20_L1, hd, cond_false]) (by simp)
    exact key
  have outer : whileM (F20_L0 pl (S.map (en l rf))) ([], 0) = some (.brk ((left pa S).map (en l rf))) := by
    have key := while_upto (body := F20_L0 pl (S.map (en l rf))) (fun q => (((List.range q).filter (keepB pa S)).map (fun p => en l rf (ge 0 S p)), (q : Int))) S.length (c := .brk ((left pa S).map (en l rf))) (fun q hq => by
        have hd : decide ((q : Int) < ((S.map (en l rf)).length : Int)) = true := by rw [decide_eq_true_eq, List.length_map]; omega
        have hin := inner q hq
        have hl1 : (((List.range q).filter (keepB pa S)).map (fun p => en l rf (ge 0 S p))).length ≤ 1000 := by
          rw [List.length_map]
          have := List.length_filter_le (keepB pa S) (List.range q)
          rw [List.length_range] at this; omega
        have ap := app1k 32 (by decide) (((List.range q).filter (keepB pa S)).map (fun p => en l rf (ge 0 S p))) (en l rf (ge 0 S q)) hl1
        have ap' : appl 32 (((List.range q).filter (keepB pa S)).map (fun p => en l rf (ge 0 S p))) ([((en l rf (ge 0 S q)).1, (en l rf (ge 0 S q)).2)] : List (Int × Nat)) = _ := ap
        simp only [F20_L0, hd, cond_true, gS q hq, hin, Ctl.on, Option.bind_some, w64_succ hq (by omega)]
        have hk1 : (!(List.range S.length).any (oldB pa S q)) = keepB pa S q := rfl
        rw [hk1, List.range_succ, List.filter_append, List.map_append]
        cases c : keepB pa S q with
        | true => simp [c, ap']
        | false => simp [c]) (by
        have hd : decide ((S.length : Int) < ((S.map (en l rf)).length : Int)) = false := by rw [decide_eq_false_iff_not, List.length_map]; omega
        simp only [F20_L0, hd, cond_false]
        unfold left
        rw [List.map_map]; rfl) (by simp)
    exact key
  have I' := h.I.tell i t
  refine ⟨known.set t ((left pa S).map (en l rf)), ?_, ?_⟩
  · simp only [F20, it, ik, hcat, outer, Ctl.on, Option.bind_some, Int.toNat_natCast]
  · refine ⟨I', h.hp, ?_, ?_, ?_, fun j x => ?_, fun j => ?_, h.po, h.pz, h.nf⟩
    · rw [h.hk, tbl_set]
      refine tbl_congr fun x _ => ?_
      by_cases e : x = t
      · subst e; rw [if_pos rfl, updL_eq]
      · rw [if_neg e, updL_ne e]
    · rw [h.hK, tbl_set]
      refine tbl_congr fun x _ => ?_
      by_cases e : x = t
      · subst e; rw [if_pos rfl, updL_eq]
      · rw [if_neg e, updL_ne e]
    · rw [h.hw]
      refine tbl_congr fun x _ => ?_
      by_cases e : x = t
      · subst e; rw [updL_eq, h.I.told_own]
      · rw [updL_ne e]
    · by_cases e : j = t
      · subst e
        rw [updL_eq, left_mem, h.I.top_tell (h.kt j) (h.kt i), ← hS]
        simp only [List.mem_append]
      · rw [updL_ne e, updL_ne e]; exact h.kt j x
    · by_cases e : j = t
      · subst e; rw [updL_eq]; exact left_nodup
      · rw [updL_ne e]; exact h.kd j
/-- The reference's telling. -/
theorem tell_loop (h : Gr n k l pa kn K rf past knows known wrote pl) (hk60 : k < 60) {i t : Nat} (hi : i < n) (ht : t < n) (a b c : Int) :
    whileM (F6_L1 (a, b, (t : Int), c) (cst (kn i))) (knows, 0) = some (.brk (knows.set t (cst (kn t ++ (kn i).filter fun x => decide (x ∉ kn t))))) := by
  have hkl : knows.length = n := by rw [h.hk, tbl_len]
  have it : idx knows (t : Int) = some (cst (kn t)) := by rw [h.hk]; exact tbl_idx ht
  have hli := h.kn_len i
  have hlt := h.kn_len t
  have key := while_upto (body := F6_L1 (a, b, (t : Int), c) (cst (kn i))) (fun q => (knows.set t (cst (kn t ++ ((kn i).take q).filter fun x => decide (x ∉ kn t))), (q : Int))) (kn i).length (c := .brk (knows.set t (cst (kn t ++ (kn i).filter fun x => decide (x ∉ kn t))))) (fun q hq => by
      have hd : decide ((q : Int) < ((cst (kn i)).length : Int)) = true := by rw [decide_eq_true_eq, cst_len]; omega
      have hg : idx (cst (kn i)) (q : Int) = some ((kn i)[q] : Int) := idx_some (by unfold cst; rw [List.getElem?_map, List.getElem?_eq_getElem hq]; rfl)
      have is := idx_self (l := knows) (i := t) (v := cst (kn t ++ ((kn i).take q).filter fun x => decide (x ∉ kn t))) (by rw [hkl]; exact ht)
      have hfl : (((kn i).take q).filter fun x => decide (x ∉ kn t)).length ≤ q := by
        have := List.length_filter_le (fun x => decide (x ∉ kn t)) ((kn i).take q)
        rw [List.length_take] at this; omega
      have hh := has_nat (l := kn t ++ ((kn i).take q).filter fun x => decide (x ∉ kn t)) (by rw [List.length_append]; omega) (kn i)[q]
      have hnd : (kn i)[q] ∉ (kn i).take q := fun hm => by
        have := h.I.k2 i
        rw [← List.take_append_drop q (kn i), List.nodup_append] at this
        exact this.2.2 _ hm _ (by rw [List.drop_eq_getElem_cons hq]; exact List.mem_cons_self) rfl
      have hmem : (kn i)[q] ∈ kn t ++ ((kn i).take q).filter (fun x => decide (x ∉ kn t)) ↔ (kn i)[q] ∈ kn t := by
        rw [List.mem_append, List.mem_filter]
        exact ⟨fun e => e.elim id fun e => absurd e.1 hnd, .inl⟩
      have hh' : F16 (cst (kn t ++ ((kn i).take q).filter fun x => decide (x ∉ kn t))) ((kn i)[q] : Int) = some (decide ((kn i)[q] ∈ kn t)) := by
        have e : decide ((kn i)[q] ∈ kn t ++ ((kn i).take q).filter (fun x => decide (x ∉ kn t))) = decide ((kn i)[q] ∈ kn t) := by rw [decide_eq_decide]; exact hmem
        rw [← e]; exact hh
      have ap := app1k 8 (by decide) (cst (kn t ++ ((kn i).take q).filter fun x => decide (x ∉ kn t))) ((kn i)[q] : Int) (by rw [cst_len, List.length_append]; omega)
      simp only [F6_L1, hd, cond_true, hg, is, hh', Option.bind_some, w64_succ hq (by omega), Int.toNat_natCast]
      rw [take_succ' hq, List.filter_append]
      by_cases m : (kn i)[q] ∈ kn t
      · simp [m]
      · simp only [decide_eq_false m, Bool.not_false, cond_true, ap, Option.bind_some, List.set_set]
        have : cst (kn t ++ ((kn i).take q).filter fun x => decide (x ∉ kn t)) ++ [((kn i)[q] : Int)] = cst (kn t ++ (((kn i).take q).filter (fun x => decide (x ∉ kn t)) ++ [(kn i)[q]].filter fun x => decide (x ∉ kn t))) := by
          rw [← List.append_assoc, cst_app _ (List.filter _ _)]
          simp [m, cst]
        rw [this]) (by
      have hd : decide (((kn i).length : Int) < ((cst (kn i)).length : Int)) = false := by rw [decide_eq_false_iff_not, cst_len]; omega
      simp only [F6_L1, hd, cond_false, List.take_length]) (by simp)
  have e0 : knows.set t (cst (kn t ++ ((kn i).take 0).filter fun x => decide (x ∉ kn t))) = knows := by
    rw [List.take_zero, List.filter_nil, List.append_nil]
    rw [idx_nat] at it
    apply List.ext_getElem?
    intro j
    rw [List.getElem?_set]
    by_cases e : t = j
    · subst e; rw [if_pos rfl, if_pos (get_lt it), it]
    · rw [if_neg e]
  simp only [e0] at key
  exact key
theorem Gr.up (h : Gr n k l pa kn K rf past knows known wrote pl) : Gr n (k + 1) l pa kn K rf past knows known wrote pl := { h with I := h.I.up }
theorem step (h : Gr n k l pa kn K rf past knows known wrote pl) (hn : n ≤ 6) (hl : l.length ≤ 60) (hk : k < l.length) {cs : List Int} (hcs : cs.length ≤ 60) :
    ∃ e pa' kn' K' rf' past' knows' known' wrote' pl', F4_L0 l (cs, known, wrote, pl, (k : Int)) = some (.nxt (cs ++ [e], known', wrote', pl', ((k + 1 : Nat) : Int))) ∧
      F6_L0 (n : Int) l (cs, past, knows, (k : Int)) = some (.nxt (cs ++ [e], past', knows', ((k + 1 : Nat) : Int))) ∧ Gr n (k + 1) l pa' kn' K' rf' past' knows' known' wrote' pl' := by
  have hd : decide ((k : Int) < (l.length : Int)) = true := by rw [decide_eq_true_eq]; omega
  have hg : idx l (k : Int) = some (ge d4 l k) := idx_ge d4 hk
  have ap : ∀ e : Int, appl 8 cs [e] = some (cs ++ [e]) := fun e => app1 8 (by decide) cs e hcs
  have hw := w64_succ hk (show l.length ≤ 9223372036854775807 by omega)
  have hknl : known.length = n := by rw [h.hK, tbl_len]
  -- both sides from one move
  have fin : ∀ {e : Int} {pa' kn' K' : Nat → List Nat} {rf' : Nat → Nat} {past' knows' : List (List Int)} {known' : List (List Kw)} {wrote' : List Int} {pl' : List (List Int)},
      F9 (known, wrote) ((ge d4 l k).1, (ge d4 l k).2.1, (ge d4 l k).2.2.1, (ge d4 l k).2.2.2) pl = some (e, (known', wrote'), pl') →
      F6_L0 (n : Int) l (cs, past, knows, (k : Int)) = some (.nxt (cs ++ [e], past', knows', ((k + 1 : Nat) : Int))) → Gr n (k + 1) l pa' kn' K' rf' past' knows' known' wrote' pl' →
      ∃ e pa' kn' K' rf' past' knows' known' wrote' pl', F4_L0 l (cs, known, wrote, pl, (k : Int)) = some (.nxt (cs ++ [e], known', wrote', pl', ((k + 1 : Nat) : Int))) ∧
        F6_L0 (n : Int) l (cs, past, knows, (k : Int)) = some (.nxt (cs ++ [e], past', knows', ((k + 1 : Nat) : Int))) ∧ Gr n (k + 1) l pa' kn' K' rf' past' knows' known' wrote' pl' := fun {e pa' kn' K' rf' past' knows' known' wrote' pl'} h1 h2 h3 =>
    ⟨e, pa', kn', K', rf', past', knows', known', wrote', pl', by simp only [F4_L0, hd, cond_true, hg, h1, ap, hw, Option.bind_some], h2, h3⟩
  have hfr : fr l k = ((ge d4 l k).2.1).toNat := rfl
  rcases hx : ge d4 l k with ⟨q, a, t, v⟩
  rw [hx] at hg fin hfr
  simp only at hfr fin
  cases c1 : ((q != 1) && (q != 2)) with
  | true => exact fin (e := 6) (by simp only [F9, c1, cond_true]) (by simp only [F6_L0, hd, cond_true, hg, c1, ap, hw, Option.bind_some]) h.up
  | false =>
    have hq : q = 1 ∨ q = 2 := by
      simp only [Bool.and_eq_false_iff, bne_eq_false_iff_eq] at c1; exact c1
    cases ca : ((decide (a < 0)) || (decide (a ≥ (n : Int)))) with
    | true => exact fin (e := 2) (by simp only [F9, F19, c1, hknl, ca, cond_true, cond_false, Option.bind_some]) (by simp only [F6_L0, hd, cond_true, hg, c1, ca, Bool.true_or, cond_false, ap, hw, Option.bind_some]) h.up
    | false =>
      have ca' := ca
      simp only [Bool.or_eq_false_iff, decide_eq_false_iff_not] at ca'
      obtain ⟨i, rfl⟩ := nat_of (a := a) (by omega)
      have hi : i < n := by omega
      rcases hq with rfl | rfl
      · cases cv : ((decide (v < 0)) || (decide (v > 100))) with
        | true => exact fin (e := 4) (by simp only [F9, F19, c1, hknl, ca, cv, show ((1 : Int) == 2) = false from rfl, cond_true, cond_false, Option.bind_some]) (by simp only [F6_L0, hd, cond_true, hg, c1, ca, cv, show ((1 : Int) == 2) = false from rfl, show ((1 : Int) == 1) = true from rfl, Bool.false_and, Bool.or_false, Bool.true_and, cond_false, ap, hw, Option.bind_some]) h.up
        | false =>
          obtain ⟨known', wrote', pl', w1, w2⟩ := h.write hn (by omega) hi (by rw [hx])
          rw [hx] at w1
          have ik : idx knows (i : Int) = some (cst (kn i)) := by rw [h.hk]; exact tbl_idx hi
          have ip : idx past (k : Int) = some (cst (pa k)) := by rw [h.hp]; exact tbl_idx hk
          have hli := h.kn_len i
          have a1 := app2 8 (by decide) ([] : List Int) (cst (kn i)) (by simp) (by rw [cst_len]; omega)
          have a2 := app1 8 (by decide) (cst (kn i)) (k : Int) (by rw [cst_len]; omega)
          have e1 : cst (kn i) ++ [(k : Int)] = cst (kn i ++ [k]) := by rw [cst_app]; rfl
          exact fin (e := 0) (by simp only [F9, F19, c1, hknl, ca, cv, w1, show ((1 : Int) == 2) = false from rfl, cond_true, cond_false, Option.bind_some]) (by simp only [F6_L0, hd, cond_true, hg, c1, ca, cv, ik, ip, a1, a2, e1, List.nil_append, show ((1 : Int) == 2) = false from rfl, show ((1 : Int) == 1) = true from rfl, Bool.false_and, Bool.or_false, Bool.true_and, cond_false, ap, hw, Option.bind_some, Int.toNat_natCast]) w2
      · cases ct : ((decide (t < 0)) || (decide (t ≥ (n : Int)))) with
        | true => exact fin (e := 2) (by simp only [F9, F19, c1, hknl, ca, ct, show ((2 : Int) == 2) = true from rfl, cond_true, cond_false, Option.bind_some]) (by simp only [F6_L0, hd, cond_true, hg, c1, ca, ct, show ((2 : Int) == 2) = true from rfl, Bool.true_and, Bool.false_or, cond_false, ap, hw, Option.bind_some]) h.up
        | false =>
          have ct' := ct
          simp only [Bool.or_eq_false_iff, decide_eq_false_iff_not] at ct'
          obtain ⟨t', rfl⟩ := nat_of (a := t) (by omega)
          have ht : t' < n := by omega
          obtain ⟨known', w1, w2⟩ := h.tell hn (by omega) hi ht
          have ik : idx knows (i : Int) = some (cst (kn i)) := by rw [h.hk]; exact tbl_idx hi
          have hli := h.kn_len i
          have a1 := app2 8 (by decide) ([] : List Int) (cst (kn i)) (by simp) (by rw [cst_len]; omega)
          have tl := tell_loop h (by omega) hi ht 2 (i : Int) v
          exact fin (e := 0) (by simp only [F9, F19, c1, hknl, ca, ct, w1, show ((2 : Int) == 2) = true from rfl, cond_true, cond_false, Option.bind_some]) (by simp only [F6_L0, hd, cond_true, hg, c1, ca, ct, ik, a1, tl, Ctl.on, List.nil_append, show ((2 : Int) == 2) = true from rfl, show ((2 : Int) == 1) = false from rfl, Bool.false_and, Bool.or_false, Bool.true_and, cond_false, ap, hw, Option.bind_some, Int.toNat_natCast]) w2
theorem run_both (hn : n ≤ 6) (hl : l.length ≤ 60) : ∀ (m k : Nat), k + m = l.length → ∀ {cs : List Int} {pa kn K : Nat → List Nat} {rf : Nat → Nat} {past knows : List (List Int)} {known : List (List Kw)} {wrote : List Int} {pl : List (List Int)},
    cs.length = k → Gr n k l pa kn K rf past knows known wrote pl →
    ∃ cs' pa' kn' K' rf' past' knows' known' wrote' pl', whileM (F4_L0 l) (cs, known, wrote, pl, (k : Int)) = some (.brk (cs', known', wrote', pl')) ∧ whileM (F6_L0 (n : Int) l) (cs, past, knows, (k : Int)) = some (.brk (cs', past', knows')) ∧
      cs'.length = l.length ∧ Gr n l.length l pa' kn' K' rf' past' knows' known' wrote' pl' := by
  intro m
  induction m with
  | zero =>
    intro k hk cs pa kn K rf past knows known wrote pl hcs h
    obtain rfl : k = l.length := by omega
    exact ⟨cs, pa, kn, K, rf, past, knows, known, wrote, pl, whileM_brk (by simp [F4_L0]), whileM_brk (by simp [F6_L0]), hcs, h⟩
  | succ m ih =>
    intro k hk cs pa kn K rf past knows known wrote pl hcs h
    obtain ⟨e, pa1, kn1, K1, rf1, past1, knows1, known1, wrote1, pl1, s1, s2, h1⟩ := step h hn hl (by omega) (cs := cs) (by omega)
    obtain ⟨cs', pa', kn', K', rf', past', knows', known', wrote', pl', w1, w2, w3, w4⟩ := ih (k + 1) (by omega) (cs := cs ++ [e]) (by simp [hcs]) h1
    exact ⟨cs', pa', kn', K', rf', past', knows', known', wrote', pl', by rw [whileM_nxt s1]; exact w1, by rw [whileM_nxt s2]; exact w2, w3, w4⟩
end
end Go.Proofs.Ytgofkfhkolkfmaa

namespace Go.Proofs.Ytgofkfhkolkfmaa
open Go Go.Bk Go.Sort Go.Shelf Go.Proofs
set_option linter.unusedVariables false
set_option linter.unusedSimpArgs false
set_option linter.unusedSectionVars false
def leL (a b : List Int) : Prop := ¬ cmpL b a < 0
theorem leL_anti (a b : List Int) (h1 : leL a b) (h2 : leL b a) : a = b := by
  unfold leL at h1 h2
  have := cmpL_neg a b
  exact cmpL_eq (by omega)
theorem leL_of_lt {a b : List Int} (h : cmpL a b < 0) : leL a b := by
  unfold leL
  have := cmpL_neg a b; omega
theorem lt_of_leL {a b c : List Int} (h1 : leL a b) (h2 : cmpL a c < 0 → False) : cmpL b c < 0 → False := fun h => by
  unfold leL at h1
  have e := cmpL_neg a b
  by_cases q : cmpL a b < 0
  · exact h2 (cmpL_trans q h)
  · have : a = b := cmpL_eq (by omega)
    subst this; exact h2 h
theorem leL_trans {a b c : List Int} (h1 : leL a b) (h2 : leL b c) : leL a c := by
  unfold leL at *
  intro h
  -- c < a ≤ b
  have e := cmpL_neg a b
  by_cases q : cmpL a b < 0
  · exact h2 (cmpL_trans h q)
  · have : a = b := cmpL_eq (by omega)
    subst this; exact h2 h
/-- A row of what is told: sorted, and of these writes. -/
structure Row (pool : List (List Int)) (row : List Kw) (ks : List (List Int)) : Prop where
  ok : ∀ x ∈ row, x.2 < pool.length
  so : (row.map (ky pool)).Pairwise leL
  pe : (row.map (ky pool)).Perm ks
theorem ky_app {p t : List (List Int)} {x : Kw} (h : x.2 < p.length) : ky (p ++ t) x = ky p x := by
  unfold ky; rw [List.getElem?_append_left h]
theorem kys_app {p t : List (List Int)} {row : List Kw} (h : ∀ x ∈ row, x.2 < p.length) : row.map (ky (p ++ t)) = row.map (ky p) := List.map_congr_left fun x hx => ky_app (h x hx)
theorem Row.app {p t : List (List Int)} {row : List Kw} {ks : List (List Int)} (h : Row p row ks) : Row (p ++ t) row ks :=
  ⟨fun x hx => by rw [List.length_append]; have := h.ok x hx; omega, by rw [kys_app h.ok]; exact h.so, by rw [kys_app h.ok]; exact h.pe⟩
theorem Row.same {p : List (List Int)} {a b : List Kw} {ks ks' : List (List Int)} (h : Row p a ks) (h' : Row p b ks') (hp : ks.Perm ks') : a.map (ky p) = b.map (ky p) :=
  one_order leL_anti ((h.pe.trans hp).trans h'.pe.symm) h.so h'.so

/-! The program's sort. -/
theorem sortedK_perm {α : Type} {f : α × α → Option Int} {zs : List α} : (sortedK f zs).Perm zs := by
  have h := (List.mergeSort_perm zs.attach (fun x y => !(ltOf (cmpOfK f zs)) y x)).map (·.1)
  rw [List.attach_map_subtype_val] at h
  exact h
theorem sortedK_pair {α : Type} {f : α × α → Option Int} {zs : List α} (h : SWO (ltOf (cmpOfK f zs))) : (sortedK f zs).Pairwise fun a b => ∀ (ha : a ∈ zs) (hb : b ∈ zs), ltOf (cmpOfK f zs) ⟨b, hb⟩ ⟨a, ha⟩ = false := by
  unfold sortedK
  rw [List.pairwise_map]
  refine (List.pairwise_mergeSort (le := fun x y => !(ltOf (cmpOfK f zs)) y x) ?_ ?_ _).imp ?_
  · intro a b c h1 h2
    simp only [Bool.not_eq_true'] at h1 h2 ⊢
    exact h.ntrans c b a h2 h1
  · intro a b
    cases c : ltOf (cmpOfK f zs) b a with
    | false => simp
    | true =>
      cases d : ltOf (cmpOfK f zs) a b with
      | false => simp
      | true =>
        have := h.trans a b a d c
        rw [h.irrefl] at this; cases this
  · intro a b h1 ha hb
    simpa using h1
theorem sort_row {n : Nat} (hn : n ≤ 6) {pool : List (List Int)} (hp : ∀ v ∈ pool, v.length = n) {own : List Kw} (hl : own.length ≤ 60) (hok : ∀ x ∈ own, x.2 < pool.length) (hinj : ∀ x ∈ own, ∀ y ∈ own, ky pool x = ky pool y → x = y) :
    ∃ row, srtK (fun z => F12 z.1 z.2 pool) own = some row ∧ Row pool row (own.map (ky pool)) := by
  have cf : ∀ x y : { x : Kw // x ∈ own }, cmpOfK (fun z => F12 z.1 z.2 pool) own x y = cmpL (ky pool x.1) (ky pool y.1) := fun x y => by
    have h1 := hok x.1 x.2
    have h2 := hok y.1 y.2
    unfold cmpOfK
    simp only
    rw [f12_val (List.getElem?_eq_getElem h1) (List.getElem?_eq_getElem h2) (by rw [hp _ (List.getElem_mem h1), hp _ (List.getElem_mem h2)]) (by rw [hp _ (List.getElem_mem h1)]; omega)]
    rfl
  have lt : ∀ x y : { x : Kw // x ∈ own }, ltOf (cmpOfK (fun z => F12 z.1 z.2 pool) own) x y = decide (cmpL (ky pool x.1) (ky pool y.1) < 0) := fun x y => by unfold ltOf; rw [cf]
  have swo : SWO (ltOf (cmpOfK (fun z => F12 z.1 z.2 pool) own)) := by
    refine ⟨fun x => ?_, fun x y z h1 h2 => ?_, fun x y z h1 h2 => ?_⟩
    · rw [lt, cmpL_self]; rfl
    · rw [lt, decide_eq_true_eq] at *
      exact cmpL_trans h1 h2
    · rw [lt, decide_eq_false_iff_not] at *
      exact leL_trans (a := ky pool z.1) (b := ky pool y.1) (c := ky pool x.1) h2 h1
  have so : SortableK (fun z => F12 z.1 z.2 pool) own := by
    refine ⟨by omega, fun x hx y hy => ?_, swo, fun x y h1 h2 => ?_⟩
    · have h1 := hok x hx
      have h2 := hok y hy
      exact ⟨_, f12_val (List.getElem?_eq_getElem h1) (List.getElem?_eq_getElem h2) (by rw [hp _ (List.getElem_mem h1), hp _ (List.getElem_mem h2)]) (by rw [hp _ (List.getElem_mem h1)]; omega)⟩
    · rw [lt, decide_eq_false_iff_not] at h1 h2
      have := leL_anti _ _ (show leL (ky pool x.1) (ky pool y.1) from h2) h1
      exact Subtype.ext (hinj x.1 x.2 y.1 y.2 this)
  refine ⟨sortedK (fun z => F12 z.1 z.2 pool) own, by unfold srtK; rw [if_pos so], fun x hx => hok x (sortedK_perm.subset hx), ?_, sortedK_perm.map _⟩
  rw [List.pairwise_map]
  refine (sortedK_pair swo).imp_of_mem fun {a b} ha hb h => ?_
  have := h (sortedK_perm.subset ha) (sortedK_perm.subset hb)
  rw [lt, decide_eq_false_iff_not] at this
  exact this

/-! The reference's sort. -/
section
variable {n : Nat} {pool : List (List Int)}
theorem ahead_val (hn : n ≤ 6) (hp : ∀ v ∈ pool, v.length = n) {x y : Kw} (h1 : x.2 < pool.length) (h2 : y.2 < pool.length) : F17 x y pool = some (decide (cmpL (ky pool x) (ky pool y) < 0)) :=
  f17_val (List.getElem?_eq_getElem h1) (List.getElem?_eq_getElem h2) (by rw [hp _ (List.getElem_mem h1), hp _ (List.getElem_mem h2)]) (by rw [hp _ (List.getElem_mem h1)]; omega)
theorem sink (hn : n ≤ 6) (hp : ∀ v ∈ pool, v.length = n) (x : Kw) (hx : x.2 < pool.length) : ∀ (m : Nat) (A C : List Kw), A.length = m → m ≤ 1000 → (∀ y ∈ A, y.2 < pool.length) →
    ∃ A1 A2, A = A1 ++ A2 ∧ whileM (F6_L7 pool) (A ++ x :: C, (A.length : Int)) = some (.brk (A1 ++ x :: (A2 ++ C))) ∧ (∀ y ∈ A2, cmpL (ky pool x) (ky pool y) < 0) ∧ ∀ z, A1.getLast? = some z → ¬ cmpL (ky pool x) (ky pool z) < 0 := by
  intro m
  induction m with
  | zero =>
    intro A C hA _ _
    have : A = [] := List.length_eq_zero_iff.1 hA
    subst this
    refine ⟨[], [], rfl, whileM_brk (by simp [F6_L7]), fun y hy => (by cases hy), fun z hz => (by cases hz)⟩
  | succ m ih =>
    intro A C hA hm hok
    obtain ⟨A', y, rfl⟩ : ∃ A' y, A = A' ++ [y] := by
      cases hq : A.getLast? with
      | none => rw [List.getLast?_eq_none_iff] at hq; subst hq; cases hA
      | some y => obtain ⟨A', e⟩ := List.getLast?_eq_some_iff.1 hq; exact ⟨A', y, e⟩
    have hA' : A'.length = m := by simpa using hA
    have hy : y.2 < pool.length := hok y (by simp)
    have hd : decide ((((A' ++ [y]).length : Nat) : Int) > 0) = true := by rw [decide_eq_true_eq, hA]; omega
    have e1 : ((A' ++ [y]).length : Nat) = m + 1 := hA
    have hw : w64 (((m + 1 : Nat) : Int) - 1) = (m : Int) := by rw [w64i (x := ((m + 1 : Nat) : Int) - 1) (by omega) (by omega)]; omega
    have i1 : idx (A' ++ [y] ++ x :: C) ((m + 1 : Nat) : Int) = some x := idx_some (by rw [List.getElem?_append_right (by omega), e1, Nat.sub_self]; rfl)
    have i2 : idx (A' ++ [y] ++ x :: C) (m : Int) = some y := idx_some (by rw [List.append_assoc, List.getElem?_append_right (by omega), hA', Nat.sub_self]; rfl)
    have hv := ahead_val hn hp hx hy
    by_cases c : cmpL (ky pool x) (ky pool y) < 0
    · have set1 : (A' ++ [y] ++ x :: C).set (m + 1) y = A' ++ [y] ++ y :: C := by
        rw [List.set_append_right _ _ (by omega), e1, Nat.sub_self]; rfl
      have set2 : (A' ++ [y] ++ y :: C).set m x = A' ++ x :: y :: C := by
        rw [List.append_assoc, List.set_append_right _ _ (by omega), hA', Nat.sub_self]; rfl
      have i3 : idx (A' ++ [y] ++ y :: C) (m : Int) = some y := idx_some (by rw [List.append_assoc, List.getElem?_append_right (by omega), hA', Nat.sub_self]; rfl)
      obtain ⟨A1, A2, q1, q2, q3, q4⟩ := ih A' (y :: C) hA' (by omega) (fun z hz => hok z (by simp [hz]))
      refine ⟨A1, A2 ++ [y], by rw [q1, List.append_assoc], ?_, fun z hz => ?_, q4⟩
      · rw [e1]
        rw [e1] at hd
        rw [whileM_nxt (s' := (A' ++ x :: y :: C, (m : Int))) (by simp only [F6_L7, hd, cond_true, i1, i2, hw, hv, decide_eq_true c, Option.bind_some, Int.toNat_natCast, set1, i3, set2])]
        rw [hA'] at q2
        rw [q2]; simp
      · rcases List.mem_append.1 hz with hz | hz
        · exact q3 z hz
        · simp at hz; subst hz; exact c
    · refine ⟨A' ++ [y], [], by simp, ?_, fun z hz => (by cases hz), fun z hz => ?_⟩
      · rw [e1] at hd ⊢
        exact whileM_brk (by simp only [F6_L7, hd, cond_true, i1, i2, hw, hv, decide_eq_false c, cond_false, Option.bind_some, List.nil_append])
      · simp at hz
        subst hz; exact c
theorem sink_sorted {A1 A2 : List Kw} {x : Kw} (hs : ((A1 ++ A2).map (ky pool)).Pairwise leL) (h2 : ∀ y ∈ A2, cmpL (ky pool x) (ky pool y) < 0) (h1 : ∀ z, A1.getLast? = some z → ¬ cmpL (ky pool x) (ky pool z) < 0) : ((A1 ++ x :: A2).map (ky pool)).Pairwise leL := by
  rw [List.pairwise_map, List.pairwise_append] at hs ⊢
  obtain ⟨s1, s2, s3⟩ := hs
  refine ⟨s1, List.pairwise_cons.2 ⟨fun y hy => leL_of_lt (h2 y hy), s2⟩, fun u hu v hv => ?_⟩
  rcases List.mem_cons.1 hv with rfl | hv
  · cases hl : A1.getLast? with
    | none => rw [List.getLast?_eq_none_iff] at hl; subst hl; cases hu
    | some z =>
      have hz := h1 z hl
      have hlz : leL (ky pool z) (ky pool v) := hz
      -- u stands ahead of the last, or is it
      obtain ⟨A0, hA⟩ := List.getLast?_eq_some_iff.1 hl
      rw [hA] at hu s1
      rcases List.mem_append.1 hu with hu | hu
      · have := (List.pairwise_append.1 s1).2.2 u hu z (by simp)
        exact leL_trans this hlz
      · simp at hu; subst hu; exact hlz
  · exact s3 u hu v hv
theorem insert_all (hn : n ≤ 6) (hp : ∀ v ∈ pool, v.length = n) {own : List Kw} (hl : own.length ≤ 60) (hok : ∀ x ∈ own, x.2 < pool.length) :
    ∃ row, whileM (F6_L6 pool) (own, 1) = some (.brk row) ∧ Row pool row (own.map (ky pool)) := by
  have key : ∀ (m a : Nat) (lst : List Kw), a + m = own.length → lst.Perm own → ((lst.take a).map (ky pool)).Pairwise leL → ∃ row, whileM (F6_L6 pool) (lst, (a : Int)) = some (.brk row) ∧ row.Perm own ∧ (row.map (ky pool)).Pairwise leL := by
    intro m
    induction m with
    | zero =>
      intro a lst ha hpe hso
      have hll := hpe.length_eq
      have hd : decide ((a : Int) < (lst.length : Int)) = false := by rw [decide_eq_false_iff_not]; omega
      refine ⟨lst, whileM_brk (by simp only [F6_L6, hd, cond_false]), hpe, ?_⟩
      rwa [List.take_of_length_le (by omega)] at hso
    | succ m ih =>
      intro a lst ha hpe hso
      have hll := hpe.length_eq
      have hlt : a < lst.length := by omega
      have hd : decide ((a : Int) < (lst.length : Int)) = true := by rw [decide_eq_true_eq]; omega
      have hsplit : lst = lst.take a ++ lst[a] :: lst.drop (a + 1) := by
        conv => lhs; rw [← List.take_append_drop a lst]
        rw [List.drop_eq_getElem_cons hlt]
      have hta : (lst.take a).length = a := by rw [List.length_take]; omega
      have okl : ∀ y ∈ lst, y.2 < pool.length := fun y hy => hok y (hpe.subset hy)
      obtain ⟨A1, A2, q1, q2, q3, q4⟩ := sink hn hp lst[a] (okl _ (List.getElem_mem hlt)) a (lst.take a) (lst.drop (a + 1)) hta (by omega) (fun y hy => okl y (List.mem_of_mem_take hy))
      rw [hta, ← hsplit] at q2
      have hl12 : A1.length + A2.length = a := by rw [← hta, q1, List.length_append]
      have hperm : (A1 ++ lst[a] :: (A2 ++ lst.drop (a + 1))).Perm lst := by
        have e1 : (A1 ++ lst[a] :: (A2 ++ lst.drop (a + 1))).Perm (A1 ++ (A2 ++ lst[a] :: lst.drop (a + 1))) := List.Perm.append_left A1 List.perm_middle.symm
        have e2 : A1 ++ (A2 ++ lst[a] :: lst.drop (a + 1)) = lst := by
          rw [← List.append_assoc, ← q1]; exact hsplit.symm
        rw [e2] at e1; exact e1
      rw [q1] at hso
      have hso' := sink_sorted hso q3 q4
      have htake : (A1 ++ lst[a] :: (A2 ++ lst.drop (a + 1))).take (a + 1) = A1 ++ lst[a] :: A2 := by
        have e : A1 ++ lst[a] :: (A2 ++ lst.drop (a + 1)) = (A1 ++ lst[a] :: A2) ++ lst.drop (a + 1) := by simp
        rw [e, List.take_append_of_le_length (by simp; omega), List.take_of_length_le (by simp; omega)]
      obtain ⟨row, r1, r2, r3⟩ := ih (a + 1) (A1 ++ lst[a] :: (A2 ++ lst.drop (a + 1))) (by omega) (hperm.trans hpe) (by rw [htake]; exact hso')
      refine ⟨row, ?_, r2, r3⟩
      rw [whileM_nxt (s' := (A1 ++ lst[a] :: (A2 ++ lst.drop (a + 1)), ((a + 1 : Nat) : Int))) (by simp only [F6_L6, hd, cond_true, q2, Ctl.on, Option.bind_some, w64_succ hlt (by omega)])]
      exact r1
  by_cases h0 : own.length = 0
  · have : own = [] := List.length_eq_zero_iff.1 h0
    subst this
    exact ⟨[], whileM_brk (by simp [F6_L6]), fun x hx => (by cases hx), List.Pairwise.nil, List.Perm.refl _⟩
  · obtain ⟨row, r1, r2, r3⟩ := key (own.length - 1) 1 own (by omega) (List.Perm.refl _) (by
      cases own with
      | nil => exact absurd rfl h0
      | cons x l => simp)
    exact ⟨row, r1, fun x hx => hok x (r2.subset hx), r3, r2.map _⟩
end
end Go.Proofs.Ytgofkfhkolkfmaa

namespace Go.Proofs.Ytgofkfhkolkfmaa
open Go Go.Bk
set_option linter.unusedVariables false
set_option linter.unusedSimpArgs false
set_option linter.unusedSectionVars false
def kk (n : Nat) (l : List Mv) (pa : Nat → List Nat) (x : Nat) : List Int := (ge d4 l x).2.2.2 :: vl n l pa x
theorem tbl_succ {α : Type} {q : Nat} {f : Nat → α} : tbl (q + 1) f = tbl q f ++ [f q] := by unfold tbl; rw [List.range_succ, List.map_append]; rfl
theorem zok_ok {m k : Nat} (h : k < m) : zok m k = some () := by unfold zok; rw [if_pos h]
section
variable {n k : Nat} {l : List Mv} {pa kn K : Nat → List Nat} {rf : Nat → Nat} {past knows : List (List Int)} {known : List (List Kw)} {wrote : List Int} {pl : List (List Int)}
theorem vl_len {x : Nat} : (vl n l pa x).length = n := tbl_len
theorem row1 (h : Gr n k l pa kn K rf past knows known wrote pl) (hn : n ≤ 6) (hk60 : k ≤ 60) (i : Nat) {t : List (List Int)} {out : List (List Kw)} (ho : ∀ y ∈ out, ∀ x ∈ y, x.2 < (pl ++ t).length) :
    whileM (F4_L2 known out ((K i).map (en l rf))) ([], pl ++ t, 0) = some (.brk (tbl (K i).length (fun p => ((ge d4 l (ge 0 (K i) p)).2.2.2, (pl ++ t).length + p)), pl ++ t ++ (K i).map (vl n l pa))) := by
  have hKl := h.K_len i
  have key := while_upto (body := F4_L2 known out ((K i).map (en l rf))) (fun q => (tbl q (fun p => ((ge d4 l (ge 0 (K i) p)).2.2.2, (pl ++ t).length + p)), pl ++ t ++ ((K i).take q).map (vl n l pa), (q : Int))) (K i).length
    (c := .brk (tbl (K i).length (fun p => ((ge d4 l (ge 0 (K i) p)).2.2.2, (pl ++ t).length + p)), pl ++ t ++ (K i).map (vl n l pa))) (fun q hq => by
      have hd : decide ((q : Int) < (((K i).map (en l rf)).length : Int)) = true := by rw [decide_eq_true_eq, List.length_map]; omega
      have hge : ge 0 (K i) q = (K i)[q] := by
        have := get_ge 0 hq
        rw [List.getElem?_eq_getElem hq] at this
        exact (Option.some.inj this).symm
      have hx := h.K_pa (List.getElem_mem hq)
      have hr := h.rf_lt hx
      have hg : idx ((K i).map (en l rf)) (q : Int) = some ((ge d4 l (K i)[q]).2.2.2, rf (K i)[q]) := idx_some (by rw [List.getElem?_map, List.getElem?_eq_getElem hq]; rfl)
      have hL : (pl ++ t ++ ((K i).take q).map (vl n l pa)).length = (pl ++ t).length + q := by rw [List.length_append, List.length_map, List.length_take, Nat.min_eq_left (by omega)]
      have hlt : rf (K i)[q] < (pl ++ t).length := by rw [List.length_append]; omega
      have hz : zget (pl ++ t ++ ((K i).take q).map (vl n l pa)) (rf (K i)[q]) = some (vl n l pa (K i)[q]) := by
        show (pl ++ t ++ ((K i).take q).map (vl n l pa))[rf (K i)[q]]? = _
        rw [List.append_assoc, List.getElem?_append_left hr]; exact h.po _ hx
      have a0 := app2 8 (by decide) ([] : List Int) (vl n l pa (K i)[q]) (by simp) (by rw [vl_len]; omega)
      have f10 : F10 (vl n l pa (K i)[q]) = some (vl n l pa (K i)[q]) := a0
      have z1 := zok_ok (m := (pl ++ t ++ ((K i).take q).map (vl n l pa)).length) (k := rf (K i)[q]) (by rw [hL]; omega)
      have z2 := zokL_ok (r := fun x : Kw => x.2) (m := (pl ++ t ++ ((K i).take q).map (vl n l pa)).length) (ls := tbl q (fun p => ((ge d4 l (ge 0 (K i) p)).2.2.2, (pl ++ t).length + p))) (fun x hx => by
        obtain ⟨p, hp, rfl⟩ := List.mem_map.1 hx
        rw [List.mem_range] at hp
        rw [hL]; show (pl ++ t).length + p < _; omega)
      have z3 := zokLL_ok (r := fun x : Kw => x.2) (m := (pl ++ t ++ ((K i).take q).map (vl n l pa)).length) (ls := out) (fun y hy x hx => by
        have := ho y hy x hx
        rw [hL]; omega)
      have z4 := zokLL_ok (r := fun x : Kw => x.2) (m := (pl ++ t ++ ((K i).take q).map (vl n l pa)).length) (ls := known) (fun y hy x hx => by
        have := h.known_ok y hy x hx
        rw [hL, List.length_append]; omega)
      have ap := app1k 32 (by decide) (tbl q (fun p => ((ge d4 l (ge 0 (K i) p)).2.2.2, (pl ++ t).length + p))) ((ge d4 l (K i)[q]).2.2.2, (pl ++ t).length + q) (by rw [tbl_len]; omega)
      rw [hL] at z1 z2 z3 z4
      simp only [F4_L2, hd, cond_true, hg, hz, f10, z1, z2, z3, z4, hL, ap, Option.bind_some, w64_succ hq (by omega)]
      rw [take_succ' hq, List.map_append, ← List.append_assoc, tbl_succ, hge]; rfl) (by
      have hd : decide (((K i).length : Int) < (((K i).map (en l rf)).length : Int)) = false := by rw [decide_eq_false_iff_not, List.length_map]; omega
      simp only [F4_L2, hd, cond_false, List.take_length]) (by simp)
  have e0 : pl ++ t ++ ((K i).take 0).map (vl n l pa) = pl ++ t := by simp
  simp only [e0] at key
  exact key
theorem own_keys (h : Gr n k l pa kn K rf past knows known wrote pl) (i : Nat) {pool : List (List Int)} : (tbl (K i).length (fun p => ((ge d4 l (ge 0 (K i) p)).2.2.2, pool.length + p))).map (ky (pool ++ (K i).map (vl n l pa))) = (K i).map (kk n l pa) := by
  apply List.ext_getElem?
  intro p
  rw [List.getElem?_map, List.getElem?_map]
  by_cases hp : p < (K i).length
  · rw [tbl_get hp, get_ge 0 hp]
    simp only [Option.map_some]
    unfold ky kk
    rw [List.getElem?_append_right (by simp)]
    simp only [Nat.add_sub_cancel_left, List.getElem?_map, get_ge 0 hp, Option.map_some, Option.getD_some]
  · rw [List.getElem?_eq_none (by rw [tbl_len]; omega), List.getElem?_eq_none (by omega)]; rfl
theorem kk_inj (h : Gr n k l pa kn K rf past knows known wrote pl) {x y : Nat} (hx : x ∈ pa x) (hy : y ∈ pa y) (e : kk n l pa x = kk n l pa y) : x = y := by
  unfold kk at e
  have e2 : vl n l pa x = vl n l pa y := by injection e
  have e3 : ∀ j, j < n → cn (fr l) (pa x) j = cn (fr l) (pa y) j := fun j hj => by
    have := congrArg (fun l => l[j]?) e2
    unfold vl at this
    simp only [tbl_get hj, Option.some.injEq] at this
    omega
  exact h.I.anti ((h.I.under hx hy).1 fun j hj => by rw [e3 j hj]; exact Nat.le_refl _) ((h.I.under hy hx).1 fun j hj => by rw [e3 j hj]; exact Nat.le_refl _)
/-- The end of the program's play. -/
theorem ends1 (h : Gr n k l pa kn K rf past knows known wrote pl) (hn : n ≤ 6) (hk60 : k ≤ 60) : ∃ out t, whileM (F4_L1 known) ([], pl, 0) = some (.brk (out, pl ++ t)) ∧ out.length = n ∧ (∀ v ∈ pl ++ t, v.length = n) ∧ ∀ i, i < n → ∃ row, out[i]? = some row ∧ Row (pl ++ t) row ((K i).map (kk n l pa)) := by
  have hkl : known.length = n := by rw [h.hK, tbl_len]
  obtain ⟨s, w, i1, i2, i3, i4⟩ := while_ex (body := F4_L1 known) (fun q (s : List (List Kw) × List (List Int)) => (s.1, s.2, (q : Int))) n (fun s => s) (fun q s => ∃ t, s.2 = pl ++ t ∧ s.1.length = q ∧ (∀ v ∈ s.2, v.length = n) ∧ ∀ i, i < q → ∃ row, s.1[i]? = some row ∧ Row s.2 row ((K i).map (kk n l pa))) (fun q s hq => by
      rintro ⟨t, rfl2, hlen, hv, hrow⟩
      obtain ⟨out, pool⟩ := s
      simp only at rfl2 hlen hv hrow
      subst rfl2
      have hd : decide ((q : Int) < (known.length : Int)) = true := by rw [decide_eq_true_eq]; omega
      have ik : idx known (q : Int) = some ((K q).map (en l rf)) := by rw [h.hK]; exact tbl_idx hq
      have ho : ∀ y ∈ out, ∀ x ∈ y, x.2 < (pl ++ t).length := fun y hy x hx => by
        obtain ⟨i, hi⟩ := List.mem_iff_getElem?.1 hy
        have := get_lt hi
        obtain ⟨row, r1, r2⟩ := hrow i (by omega)
        rw [hi] at r1
        obtain rfl := Option.some.inj r1
        exact r2.ok x hx
      have r1 := row1 h hn hk60 q ho
      have hKl := h.K_len q
      have hv2 : ∀ v ∈ pl ++ t ++ (K q).map (vl n l pa), v.length = n := fun v hvm => by
        rcases List.mem_append.1 hvm with hvm | hvm
        · exact hv v hvm
        · obtain ⟨x, _, rfl⟩ := List.mem_map.1 hvm
          exact vl_len
      have hkeys := own_keys h q (pool := pl ++ t)
      have hown : ∀ x ∈ tbl (K q).length (fun p => ((ge d4 l (ge 0 (K q) p)).2.2.2, (pl ++ t).length + p)), x.2 < (pl ++ t ++ (K q).map (vl n l pa)).length := fun x hx => by
        obtain ⟨p, hp, rfl⟩ := List.mem_map.1 hx
        rw [List.mem_range] at hp
        show (pl ++ t).length + p < (pl ++ t ++ (K q).map (vl n l pa)).length
        simp only [List.length_append, List.length_map]; omega
      obtain ⟨row, s1, s2⟩ := sort_row hn hv2 (own := tbl (K q).length (fun p => ((ge d4 l (ge 0 (K q) p)).2.2.2, (pl ++ t).length + p))) (by rw [tbl_len]; omega) hown (fun x hx y hy e => by
        obtain ⟨p, hp, rfl⟩ := List.mem_map.1 hx
        obtain ⟨p', hp', rfl⟩ := List.mem_map.1 hy
        rw [List.mem_range] at hp hp'
        have g1 := congrArg (fun z => z[p]?) hkeys
        have g2 := congrArg (fun z => z[p']?) hkeys
        simp only [List.getElem?_map, tbl_get hp, tbl_get hp', get_ge 0 hp, get_ge 0 hp', Option.map_some, Option.some.injEq] at g1 g2
        rw [g1, g2] at e
        have := kk_inj h (h.K_pa (ge_mem hp)) (h.K_pa (ge_mem hp')) e
        have hpp : p = p' := by
          have nd := h.kd q
          have a1 := get_ge 0 hp
          have a2 := get_ge 0 hp'
          rw [this] at a1
          exact (List.getElem?_inj hp nd).1 (a1.trans a2.symm)
        subst hpp; rfl)
      rw [hkeys] at s2
      have ap := app1 24 (by decide) out row (by omega)
      refine ⟨(out ++ [row], pl ++ t ++ (K q).map (vl n l pa)), ?_, t ++ (K q).map (vl n l pa), by simp, by simp [hlen], hv2, fun i hi => ?_⟩
      · simp only [F4_L1, hd, cond_true, ik, r1, Ctl.on, s1, ap, Option.bind_some, w64_succ hq (by omega)]
      · by_cases e : i = q
        · subst e
          exact ⟨row, by show (out ++ [row])[i]? = _; rw [List.getElem?_append_right (by omega), hlen, Nat.sub_self]; rfl, s2⟩
        · obtain ⟨row', q1, q2⟩ := hrow i (by omega)
          exact ⟨row', by show (out ++ [row])[i]? = _; rw [List.getElem?_append_left (by omega)]; exact q1, q2.app⟩) (fun s _ => by
      have hd : decide ((n : Int) < (known.length : Int)) = false := by rw [decide_eq_false_iff_not]; omega
      simp only [F4_L1, hd, cond_false]) ([], pl) ⟨[], by simp, rfl, h.pz, fun i hi => by omega⟩
  obtain ⟨out, pool⟩ := s
  simp only at i2
  subst i2
  exact ⟨out, i1, w, i3, i4.1, i4.2⟩
/-- Is none of what i knows behind x? -/
def topB (pa kn : Nat → List Nat) (i x : Nat) : Bool := (kn i).all fun o => decide (o = x) || !decide (x ∈ pa o)
theorem topB_iff {i x : Nat} (hx : x ∈ kn i) : topB pa kn i x = true ↔ Top pa (kn i) x := by
  unfold topB Top
  rw [List.all_eq_true]
  constructor
  · intro h
    refine ⟨hx, fun o ho hne hm => ?_⟩
    have := h o ho
    simp [hne, hm] at this
  · rintro ⟨_, h⟩ o ho
    by_cases e : o = x
    · simp [e]
    · simp [e, h o ho e]
theorem newest (h : Gr n k l pa kn K rf past knows known wrote pl) (hk : k ≤ l.length) (hk60 : k ≤ 60) {i x : Nat} (hx : x ∈ kn i) : whileM (F6_L4 past (x : Int) (cst (kn i))) (true, 0) = some (.brk (topB pa kn i x)) := by
  have hli := h.kn_len i
  have key := while_upto (body := F6_L4 past (x : Int) (cst (kn i))) (fun q => (((kn i).take q).all (fun o => decide (o = x) || !decide (x ∈ pa o)), (q : Int))) (kn i).length (c := .brk (topB pa kn i x)) (fun q hq => by
      have hd : decide ((q : Int) < ((cst (kn i)).length : Int)) = true := by rw [decide_eq_true_eq, cst_len]; omega
      have hg : idx (cst (kn i)) (q : Int) = some ((kn i)[q] : Int) := idx_some (by unfold cst; rw [List.getElem?_map, List.getElem?_eq_getElem hq]; rfl)
      have hlt := h.kn_lt (List.getElem_mem hq)
      have ip : idx past ((kn i)[q] : Int) = some (cst (pa (kn i)[q])) := by rw [h.hp]; exact tbl_idx (by omega)
      have hh : F16 (cst (pa (kn i)[q])) (x : Int) = some (decide (x ∈ pa (kn i)[q])) := has_nat (by have := h.pa_len (kn i)[q]; omega) x
      have e1 : (((kn i)[q] : Int) == (x : Int)) = decide ((kn i)[q] = x) := by rw [Bool.eq_iff_iff]; simp; omega
      simp only [F6_L4, hd, cond_true, hg, ip, hh, e1, Option.bind_some, w64_succ hq (by omega)]
      rw [take_succ' hq, List.all_append]
      cases ((kn i).take q).all (fun o => decide (o = x) || !decide (x ∈ pa o)) with
      | false => simp
      | true => by_cases c : (kn i)[q] = x <;> simp [c]) (by
      have hd : decide (((kn i).length : Int) < ((cst (kn i)).length : Int)) = false := by rw [decide_eq_false_iff_not, cst_len]; omega
      simp only [F6_L4, hd, cond_false, List.take_length]; rfl) (by simp)
  exact key
theorem counts (h : Gr n k l pa kn K rf past knows known wrote pl) (hk : k ≤ l.length) (hk60 : k ≤ 60) (x : Nat) : whileM (F6_L5 l (cst (pa x))) (tbl n (fun _ => 0), 0) = some (.brk (vl n l pa x)) := by
  have hli := h.pa_len x
  have key := while_upto (body := F6_L5 l (cst (pa x))) (fun q => (tbl n (fun j => ((cn (fr l) ((pa x).take q) j : Nat) : Int)), (q : Int))) (pa x).length (c := .brk (vl n l pa x)) (fun q hq => by
      have hd : decide ((q : Int) < ((cst (pa x)).length : Int)) = true := by rw [decide_eq_true_eq, cst_len]; omega
      have hg : idx (cst (pa x)) (q : Int) = some ((pa x)[q] : Int) := idx_some (by unfold cst; rw [List.getElem?_map, List.getElem?_eq_getElem hq]; rfl)
      have ho := (h.I.p1 x _ (List.getElem_mem hq)).2.1
      obtain ⟨o1, o2⟩ := h.I.p0 _ ho
      have il : idx l ((pa x)[q] : Int) = some (ge d4 l (pa x)[q]) := idx_ge d4 (by omega)
      have hf := h.nf _ ho
      have hc := cn_len (f := fr l) (a := (pa x).take q) (j := fr l (pa x)[q])
      rw [List.length_take] at hc
      have hw : w64 (((cn (fr l) ((pa x).take q) (fr l (pa x)[q]) : Nat) : Int) + 1) = ((cn (fr l) ((pa x).take q) (fr l (pa x)[q]) + 1 : Nat) : Int) := by
        rw [w64i (x := ((cn (fr l) ((pa x).take q) (fr l (pa x)[q]) : Nat) : Int) + 1) (by omega) (by omega)]; push_cast; rfl
      simp only [F6_L5, hd, cond_true, hg, il, hf, tbl_idx o2, hw, Option.bind_some, Int.toNat_natCast, tbl_set, w64_succ hq (by omega)]
      congr 3
      refine tbl_congr fun j hj => ?_
      have e : cn (fr l) ((pa x).take (q + 1)) j = cn (fr l) ((pa x).take q) j + if fr l (pa x)[q] = j then 1 else 0 := by
        unfold cn
        rw [take_succ' hq, List.countP_append, List.countP_singleton]
        by_cases c : fr l (pa x)[q] = j <;> simp [c]
      rw [e]
      by_cases c : j = fr l (pa x)[q]
      · rw [if_pos c, if_pos c.symm, c]
      · rw [if_neg c, if_neg (fun q => c q.symm)]; rfl) (by
      have hd : decide (((pa x).length : Int) < ((cst (pa x)).length : Int)) = false := by rw [decide_eq_false_iff_not, cst_len]; omega
      simp only [F6_L5, hd, cond_false, List.take_length]; rfl) (by simp)
  have e0 : tbl n (fun j => ((cn (fr l) ((pa x).take 0) j : Nat) : Int)) = tbl n (fun _ => 0) := tbl_congr fun j _ => by simp [cn]
  simp only [e0] at key
  exact key
theorem row2 (h : Gr n k l pa kn K rf past knows known wrote pl) (hn : n ≤ 6) (hk : k ≤ l.length) (hk60 : k ≤ 60) {i : Nat} (hi : i < n) {pool : List (List Int)} (hp : ∀ v ∈ pool, v.length = n) {out : List (List Kw)} (ho : ∀ y ∈ out, ∀ x ∈ y, x.2 < pool.length) :
    ∃ own t, whileM (F6_L3 (n : Int) l past knows out (i : Int) (cst (kn i))) ([], pool, 0) = some (.brk (own, pool ++ t)) ∧ own.map (ky (pool ++ t)) = ((kn i).filter (topB pa kn i)).map (kk n l pa) ∧ (∀ x ∈ own, x.2 < (pool ++ t).length) ∧ (∀ v ∈ pool ++ t, v.length = n) ∧ own.length ≤ 60 := by
  have hli := h.kn_len i
  have ik : idx knows (i : Int) = some (cst (kn i)) := by rw [h.hk]; exact tbl_idx hi
  obtain ⟨s, w, t, i2, i3, i4, i5, i6⟩ := while_ex (body := F6_L3 (n : Int) l past knows out (i : Int) (cst (kn i))) (fun q (s : List Kw × List (List Int)) => (s.1, s.2, (q : Int))) (kn i).length (fun s => s) (fun q s => ∃ t, s.2 = pool ++ t ∧ s.1.map (ky s.2) = (((kn i).take q).filter (topB pa kn i)).map (kk n l pa) ∧ (∀ x ∈ s.1, x.2 < s.2.length) ∧ (∀ v ∈ s.2, v.length = n) ∧ s.1.length ≤ q) (fun q s hq => by
      rintro ⟨t, e2, hkeys, hok, hv, hlen⟩
      obtain ⟨own, pool'⟩ := s
      simp only at e2 hkeys hok hv hlen
      subst e2
      have hd : decide ((q : Int) < ((cst (kn i)).length : Int)) = true := by rw [decide_eq_true_eq, cst_len]; omega
      have hg : idx (cst (kn i)) (q : Int) = some ((kn i)[q] : Int) := idx_some (by unfold cst; rw [List.getElem?_map, List.getElem?_eq_getElem hq]; rfl)
      have hx := List.getElem_mem hq
      have hlt := h.kn_lt hx
      have nw := newest h hk hk60 hx
      have hw := w64_succ hq (show (kn i).length ≤ 9223372036854775807 by omega)
      cases hT : topB pa kn i (kn i)[q] with
      | false =>
        rw [hT] at nw
        refine ⟨(own, pool ++ t), ?_, t, rfl, ?_, hok, hv, by show own.length ≤ q + 1; omega⟩
        · simp only [F6_L3, hd, cond_true, hg, ik, nw, Ctl.on, Bool.not_false, Option.bind_some, hw]
        · show own.map (ky (pool ++ t)) = _
          rw [hkeys, take_succ' hq, List.filter_append]
          simp [hT]
      | true =>
        rw [hT] at nw
        have m8 := mkl_rep (n := n) (by omega) (show 8 ≤ 128 by decide) (0 : Int)
        rw [rep_tbl] at m8
        have ip : idx past ((kn i)[q] : Int) = some (cst (pa (kn i)[q])) := by rw [h.hp]; exact tbl_idx (by omega)
        have ct := counts h hk hk60 (kn i)[q]
        have il : idx l ((kn i)[q] : Int) = some (ge d4 l (kn i)[q]) := idx_ge d4 (by omega)
        have z2 := zokL_ok (r := fun x : Kw => x.2) hok
        have z3 := zokLL_ok (r := fun x : Kw => x.2) (m := (pool ++ t).length) (ls := out) (fun y hy x hx => by
          have := ho y hy x hx
          rw [List.length_append]; omega)
        have ap := app1k 32 (by decide) own ((ge d4 l (kn i)[q]).2.2.2, (pool ++ t).length) (by omega)
        refine ⟨(own ++ [((ge d4 l (kn i)[q]).2.2.2, (pool ++ t).length)], pool ++ t ++ [vl n l pa (kn i)[q]]), ?_, t ++ [vl n l pa (kn i)[q]], by simp, ?_, fun x hx => ?_, fun v hvm => ?_, by show (own ++ [_]).length ≤ q + 1; simp; omega⟩
        · simp only [F6_L3, hd, cond_true, cond_false, hg, ik, nw, Ctl.on, Bool.not_true, m8, ip, ct, il, z2, z3, ap, Option.bind_some, hw]
        · show (own ++ [((ge d4 l (kn i)[q]).2.2.2, (pool ++ t).length)]).map (ky (pool ++ t ++ [vl n l pa (kn i)[q]])) = _
          rw [List.map_append, kys_app hok, hkeys, take_succ' hq, List.filter_append, List.map_append]
          congr 1
          simp [hT, ky, kk]
        · rcases List.mem_append.1 hx with hx | hx
          · have := hok x hx
            show x.2 < (pool ++ t ++ [vl n l pa (kn i)[q]]).length
            rw [List.length_append]; omega
          · have e := List.mem_singleton.1 hx
            subst e
            show (pool ++ t).length < (pool ++ t ++ [vl n l pa (kn i)[q]]).length
            simp only [List.length_append, List.length_cons, List.length_nil]; omega
        · rcases List.mem_append.1 hvm with hvm | hvm
          · exact hv v hvm
          · simp at hvm; subst hvm; exact vl_len) (fun s _ => by
      have hd : decide (((kn i).length : Int) < ((cst (kn i)).length : Int)) = false := by rw [decide_eq_false_iff_not, cst_len]; omega
      simp only [F6_L3, hd, cond_false]) ([], pool) ⟨[], by simp, by simp, fun x hx => (by cases hx), hp, Nat.le_refl _⟩
  obtain ⟨own, pool'⟩ := s
  simp only at i2
  subst i2
  rw [List.take_length] at i3
  exact ⟨own, t, w, i3, i4, i5, by have : own.length ≤ _ := i6; omega⟩
/-- The end of the reference's play. -/
theorem ends2 (h : Gr n k l pa kn K rf past knows known wrote pl) (hn : n ≤ 6) (hk : k ≤ l.length) (hk60 : k ≤ 60) {pool : List (List Int)} (hp : ∀ v ∈ pool, v.length = n) : ∃ out t, whileM (F6_L2 (n : Int) l past knows) ([], pool, 0) = some (.brk (out, pool ++ t)) ∧ out.length = n ∧ (∀ v ∈ pool ++ t, v.length = n) ∧
    ∀ i, i < n → ∃ row, out[i]? = some row ∧ Row (pool ++ t) row (((kn i).filter (topB pa kn i)).map (kk n l pa)) := by
  obtain ⟨s, w, i1, i2, i3, i4⟩ := while_ex (body := F6_L2 (n : Int) l past knows) (fun q (s : List (List Kw) × List (List Int)) => (s.1, s.2, (q : Int))) n (fun s => s) (fun q s => ∃ t, s.2 = pool ++ t ∧ s.1.length = q ∧ (∀ v ∈ s.2, v.length = n) ∧ ∀ i, i < q → ∃ row, s.1[i]? = some row ∧ Row s.2 row (((kn i).filter (topB pa kn i)).map (kk n l pa))) (fun q s hq => by
      rintro ⟨t, e2, hlen, hv, hrow⟩
      obtain ⟨out, pool'⟩ := s
      simp only at e2 hlen hv hrow
      subst e2
      have hd : decide ((q : Int) < (n : Int)) = true := by rw [decide_eq_true_eq]; omega
      have ik : idx knows (q : Int) = some (cst (kn q)) := by rw [h.hk]; exact tbl_idx hq
      have ho : ∀ y ∈ out, ∀ x ∈ y, x.2 < (pool ++ t).length := fun y hy x hx => by
        obtain ⟨i, hi⟩ := List.mem_iff_getElem?.1 hy
        have := get_lt hi
        obtain ⟨row, r1, r2⟩ := hrow i (by omega)
        rw [hi] at r1
        obtain rfl := Option.some.inj r1
        exact r2.ok x hx
      obtain ⟨own, t2, r1, r2, r3, r4, r5⟩ := row2 h hn hk hk60 hq hv ho
      obtain ⟨row, s1, s2⟩ := insert_all hn r4 r5 r3
      rw [r2] at s2
      have ap := app1 24 (by decide) out row (by omega)
      refine ⟨(out ++ [row], pool ++ t ++ t2), ?_, t ++ t2, by simp, by simp [hlen], r4, fun i hi => ?_⟩
      · simp only [F6_L2, hd, cond_true, ik, r1, Ctl.on, s1, ap, Option.bind_some, w64_succ hq (by omega)]
      · by_cases e : i = q
        · subst e
          exact ⟨row, by show (out ++ [row])[i]? = _; rw [List.getElem?_append_right (by omega), hlen, Nat.sub_self]; rfl, s2⟩
        · obtain ⟨row', q1, q2⟩ := hrow i (by omega)
          exact ⟨row', by show (out ++ [row])[i]? = _; rw [List.getElem?_append_left (by omega)]; exact q1, q2.app⟩) (fun s _ => by
      have hd : decide ((n : Int) < (n : Int)) = false := by simp
      simp only [F6_L2, hd, cond_false]) ([], pool) ⟨[], by simp, rfl, hp, fun i hi => by omega⟩
  obtain ⟨out, pool'⟩ := s
  simp only at i2
  subst i2
  exact ⟨out, i1, w, i3, i4.1, i4.2⟩
theorem top_perm (h : Gr n k l pa kn K rf past knows known wrote pl) (i : Nat) : (K i).Perm ((kn i).filter (topB pa kn i)) := by
  refine (List.perm_ext_iff_of_nodup (h.kd i) ((List.filter_sublist).nodup (h.I.k2 i))).2 fun x => ?_
  rw [List.mem_filter, h.kt]
  constructor
  · intro hx; exact ⟨hx.1, (topB_iff hx.1).2 hx⟩
  · rintro ⟨h1, h2⟩; exact (topB_iff h1).1 h2
theorem gr_start (hn : n ≤ 6) : Gr n 0 l (fun _ => []) (fun _ => []) (fun _ => []) (fun _ => 0) (List.replicate l.length []) (List.replicate n []) (List.replicate n []) (List.replicate n 0) [] := by
  refine ⟨GI.start, rep_tbl, rep_tbl, rep_tbl, ?_, fun i x => ?_, fun i => List.nodup_nil, fun x hx => (by cases hx), fun v hv => (by cases hv), fun x hx => (by cases hx)⟩
  · rw [rep_tbl]; exact tbl_congr fun _ _ => by simp [cn]
  · unfold Top; simp
end
theorem law_GossipPlays (x0 : Int) (b0 : -9223372036854775808 ≤ x0 ∧ x0 ≤ 9223372036854775807) (x1 : List Mv) (l1 : x1.length ≤ 9223372036854775807) (w1 : ∀ x ∈ x1, (-9223372036854775808 ≤ x.1 ∧ x.1 ≤ 9223372036854775807) ∧ (-9223372036854775808 ≤ x.2.1 ∧ x.2.1 ≤ 9223372036854775807) ∧ (-9223372036854775808 ≤ x.2.2.1 ∧ x.2.2.1 ≤ 9223372036854775807) ∧ (-9223372036854775808 ≤ x.2.2.2 ∧ x.2.2.2 ≤ 9223372036854775807)) :
    F3 x0 x1 = some true := by
  cases c : (((decide (x0 < 1)) || (decide (x0 > 6))) || (decide ((x1.length : Int) > 60))) with
  | true =>
    have h1 := same_codes [] (by simp)
    have h2 : whileM (F3_L0 ([], []) [] []) 0 = some (.brk ()) := whileM_brk (by simp [F3_L0])
    simp [F3, F4, F5, c, h1, h2, Ctl.on]
  | false =>
    have c' := c
    simp only [Bool.or_eq_false_iff, decide_eq_false_iff_not] at c'
    obtain ⟨n, rfl⟩ := nat_of (a := x0) (by omega)
    have hn : n ≤ 6 := by omega
    have hl : x1.length ≤ 60 := by omega
    obtain ⟨cs', pa, kn, K, rf, past, knows, known, wrote, pl, r1, r2, r3, h⟩ := run_both hn hl x1.length 0 (by omega) (cs := []) rfl (gr_start (l := x1) hn)
    obtain ⟨out, t, e1, e2, e3, e4⟩ := ends1 h hn hl
    obtain ⟨out2, t2, g1, g2, g3, g4⟩ := ends2 h hn (Nat.le_refl _) hl e3
    have m24 := mkl_rep (n := n) (by omega) (show 24 ≤ 128 by decide) ([] : List Kw)
    have m24i := mkl_rep (n := n) (by omega) (show 24 ≤ 128 by decide) ([] : List Int)
    have m24l := mkl_rep (n := x1.length) hl (show 24 ≤ 128 by decide) ([] : List Int)
    have m8 := mkl_rep (n := n) (by omega) (show 8 ≤ 128 by decide) (0 : Int)
    have eF4 : F4 (n : Int) x1 [] = some ((cs', out), 0, pl ++ t) := by
      have r1' : whileM (F4_L0 x1) ([], List.replicate n [], List.replicate n 0, [], 0) = some (.brk (cs', known, wrote, pl)) := r1
      simp only [F4, c, cond_false, m24, m8, Option.bind_some, r1', Ctl.on, e1]
    have eF6 : F6 (n : Int) x1 (pl ++ t) = some ((cs', out2), pl ++ t ++ t2) := by
      have r2' : whileM (F6_L0 (n : Int) x1) ([], List.replicate x1.length [], List.replicate n [], 0) = some (.brk (cs', past, knows)) := r2
      simp only [F6, m24i, m24l, Option.bind_some, r2', Ctl.on, g1]
    have eF5 : F5 (n : Int) (x1.length : Int) = some 0 := by simp only [F5, c, cond_false]
    have h1 := same_codes cs' (by omega)
    have ok1 : ∀ y ∈ out, ∀ x ∈ y, x.2 < (pl ++ t).length := fun y hy x hx => by
      obtain ⟨i, hi⟩ := List.mem_iff_getElem?.1 hy
      have := get_lt hi
      obtain ⟨row, q1, q2⟩ := e4 i (by omega)
      rw [hi] at q1
      obtain rfl := Option.some.inj q1
      exact q2.ok x hx
    have z := zokLL_ok (r := fun x : Kw => x.2) ok1
    have hloop : whileM (F3_L0 (cs', out) out2 (pl ++ t ++ t2)) 0 = some (.brk ()) := by
      refine while_upto (fun k => (k : Int)) n (fun q hq => ?_) ?_ (by simp)
      · have hd : decide ((q : Int) < (out.length : Int)) = true := by rw [decide_eq_true_eq]; omega
        obtain ⟨ra, a1, a2⟩ := e4 q hq
        obtain ⟨rb, b1, b2⟩ := g4 q hq
        have heq := (a2.app (t := t2)).same b2 ((top_perm h q).map _)
        have hla : ra.length ≤ 60 := by
          have := a2.pe.length_eq
          simp only [List.length_map] at this
          have := h.K_len q
          omega
        have hs := same_knowns hla heq (a2.app (t := t2)).ok b2.ok (fun v hv => by rw [g3 v hv]; omega)
        simp only [F3_L0, hd, cond_true, idx_some a1, idx_some b1, hs, Bool.not_true, cond_false, Option.bind_some, w64_succ hq (by omega)]
      · have hd : decide ((n : Int) < (out.length : Int)) = false := by rw [decide_eq_false_iff_not]; omega
        simp only [F3_L0, hd, cond_false]
    have hlen : ((out.length : Int) != (out2.length : Int)) = false := by rw [e2, g2]; simp
    simp only [F3, eF4, eF5, Option.bind_some, show ((0 : Int) == 0) = true from rfl, cond_true, z, eF6, show ((0 : Int) != 0) = false from rfl, cond_false, h1, Bool.not_true, hlen, Bool.or_false, hloop, Ctl.on]
end Go.Proofs.Ytgofkfhkolkfmaa


namespace Go.Proofs.Ytgofkfhkolkfmaa
open Go Go.Bk Go.ChangeShapes Go.WideShapes Go.ChangeAt Go.RowKit
set_option linter.unusedVariables false
set_option linter.unusedSimpArgs false
theorem tkunderlying_3_some_int_i64 : Try.prog.underlying 3 = some (.int .i64) := by kernel_rfl
theorem tkunderlying_41_some_struct_fieldsOf_41 : Try.prog.underlying 41 = some (.struct (Try.prog.fieldsOf 41)) := by kernel_rfl
theorem tkcellsOf_41_4 : Try.prog.cellsOf 41 = 4 := by kernel_rfl
theorem tkfieldsOf_41_0_map_fun_f_f_type_f_offset_some_3_0 : ((Try.prog.fieldsOf 41)[0]?).map (fun f => (f.type, f.offset)) = some (3, 0) := by kernel_rfl
theorem tkcellsOf_3_1 : Try.prog.cellsOf 3 = 1 := by kernel_rfl
theorem tkfieldsOf_41_1_map_fun_f_f_type_f_offset_some_3_1 : ((Try.prog.fieldsOf 41)[1]?).map (fun f => (f.type, f.offset)) = some (3, 1) := by kernel_rfl
theorem tkfieldsOf_41_2_map_fun_f_f_type_f_offset_some_3_2 : ((Try.prog.fieldsOf 41)[2]?).map (fun f => (f.type, f.offset)) = some (3, 2) := by kernel_rfl
theorem tkfieldsOf_41_3_map_fun_f_f_type_f_offset_some_3_3 : ((Try.prog.fieldsOf 41)[3]?).map (fun f => (f.type, f.offset)) = some (3, 3) := by kernel_rfl
theorem tkunderlying_22_some_slice_41 : Try.prog.underlying 22 = some (.slice 41) := by kernel_rfl
theorem tksliceB_22_41_4_true : sliceB Try.prog 22 41 4 = true := by kernel_rfl
theorem tkunderlying_4_some_bool : Try.prog.underlying 4 = some .bool := by kernel_rfl
theorem tkownKnob_godebug_none : ownKnob Try.prog.godebug = none := by kernel_rfl
theorem tklaidOutB_true : laidOutB Try.prog = true := by kernel_rfl
theorem opens_41 {H : Type} {enc : TypeId × Value → H} {W : World} : Opens Try.prog W enc 41 cTiiii (fun y => (i64 y.1) ∧ (i64 y.2.1) ∧ (i64 y.2.2.1) ∧ (i64 y.2.2.2)) := fun n cs x h => by
  obtain ⟨xs, m, _, _, hl, hlen, hf⟩ := DataW.trod_struct tkunderlying_41_some_struct_fieldsOf_41 h
  rw [tkcellsOf_41_4] at hl
  obtain ⟨y0, e0, w0⟩ := field_open (i := 0) (opens_int tkunderlying_3_some_int_i64) hlen hf tkfieldsOf_41_0_map_fun_f_f_type_f_offset_some_3_0 tkcellsOf_3_1
  obtain ⟨y1, e1, w1⟩ := field_open (i := 1) (opens_int tkunderlying_3_some_int_i64) hlen hf tkfieldsOf_41_1_map_fun_f_f_type_f_offset_some_3_1 tkcellsOf_3_1
  obtain ⟨y2, e2, w2⟩ := field_open (i := 2) (opens_int tkunderlying_3_some_int_i64) hlen hf tkfieldsOf_41_2_map_fun_f_f_type_f_offset_some_3_2 tkcellsOf_3_1
  obtain ⟨y3, e3, w3⟩ := field_open (i := 3) (opens_int tkunderlying_3_some_int_i64) hlen hf tkfieldsOf_41_3_map_fun_f_f_type_f_offset_some_3_3 tkcellsOf_3_1
  clear hf h
  match cs, hl with
  | [c0, c1, c2, c3], _ =>
    simp [cI, cU, cB, cS] at e0
    simp [cI, cU, cB, cS] at e1
    simp [cI, cU, cB, cS] at e2
    simp [cI, cU, cB, cS] at e3
    exact ⟨(y0, y1, y2, y3), by simp [e0, e1, e2, e3], w0, w1, w2, w3⟩
set_option maxRecDepth 100000 in
theorem gossipPlays_lifted (os : Os) (started : os.Started) (H : Type) (enc : TypeId × Value → H) :
    ReturnsInHanded Rows.gossipPlaysRow.assume Try.checked os 3 .any (Rows.gossipPlaysSpec.pre6 enc Try.prog Try.f3 Rows.gossipPlaysRow.domain false) (Rows.gossipPlaysSpec.post enc Try.prog Try.f3 false true false false) := by
  refine returnsInHanded_of_change (C := Try.checked) tkownKnob_godebug_none started (by kernel_rfl) Try.func3
    (ChangeSpec.witness6 (enc := enc) (C := Try.checked) false ⟨#[], #[.int .i64 0, .slice none 0 0], []⟩ 8 (by kernel_rfl) (by kernel_rfl) (by kernel_rfl) (by kernel_rfl)) ?_
  intro W base args ds gs before hval0 hW hcnd _
  have hval : ∀ (j : Nat) t v, Try.f3.params[j]? = some t → args[j]? = some v → Value.okWide Try.prog W .any base t v := hval0
  have hW' := hW
  obtain ⟨p, q, hA0, hV, rfl, hfz, hnd⟩ := hW
  have hA : DataW.TrodAll enc Try.prog W 0 (fun _ => true) true Try.f3.params.toList args.toList ds p := hA0
  rw [Try.params3] at hA hval
  obtain ⟨v0, vs0, d0, ds0, p0, q0, hargs, rfl, rfl, h0, r0⟩ := trodAll_cons hA
  obtain ⟨v1, vs1, d1, ds1, p1, q1, rfl, rfl, rfl, h1, r1⟩ := trodAll_cons r0
  obtain ⟨rfl, rfl, rfl⟩ := trodAll_nil r1
  obtain rfl : args = #[v0, v1] := by cases args; simp_all
  obtain ⟨rfl, rfl⟩ := trodVars_none hV
  have hh1 := h1
  have hh0 := h0
  obtain ⟨x0, rfl, rfl, rfl, wx0⟩ := open_int tkunderlying_3_some_int_i64 (hval 0 3 v0 rfl rfl) h0
  obtain ⟨x1, en1, ln1, wf1⟩ := open_rd tksliceB_22_41_4_true (by decide) (okWide_slice tkunderlying_22_some_slice_41 (hval 1 22 v1 rfl rfl)) h1 opens_41
  clear hA0 hval0
  refine (C3 en1 (law_GossipPlays x0 (i64_of wx0) x1 ln1 wf1) (St.start W)).mono fun e W' ⟨he, hs⟩ => ?_
  subst he
  have bel := hs.below
  exact ⟨_, rfl, _, _, _, [], _, [], hW', trodAll_mk1 (shut_bool tkunderlying_4_some_bool _), (trodAll_cons_mk (trod_below tklaidOutB_true (by kernel_rfl) (of_decide_eq_true (by kernel_rfl)) hh0 bel) (trodAll_cons_mk (trod_below tklaidOutB_true (by kernel_rfl) (of_decide_eq_true (by kernel_rfl)) hh1 bel) trodAll_mk0)), rfl, bel.frame _, fun h => by cases h⟩

theorem gossipPlays_holds : Rows.GossipPlaysSaid :=
  OpenClaim.holds_of_wide 3 Try.f3 rfl rfl rfl rfl rfl rfl rfl ⟨rfl, rfl, rfl, rfl, rfl⟩ rfl rfl rfl rfl rfl (by kernel_rfl) Try.func3 (by kernel_rfl)
    (of_decide_eq_true (by kernel_rfl)) (by unfold Func.isWrapper; first | (rw [if_pos (by decide +kernel)]; kernel_rfl) | (rw [if_neg (by decide +kernel)]; exact ⟨rfl, rfl⟩))
    (fun os started H enc _ => gossipPlays_lifted os started H enc)
#print axioms gossipPlays_holds
end Go.Proofs.Ytgofkfhkolkfmaa
