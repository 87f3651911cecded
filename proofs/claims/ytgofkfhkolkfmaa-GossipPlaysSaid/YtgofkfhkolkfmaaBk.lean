/-
  A small separation logic over the kit's weakest preconditions: assertions on parts of the heap, environments of slots, triples for lists of operations and for code. Nothing of any program stands here.
-/
import Derived.Test.YtgofkfhkolkfmaaBk0
import Derived.WalkKit
import Derived.StillTail
import Derived.Deep.Quiet
namespace Go.Bk
open Go
set_option linter.unusedVariables false
set_option linter.unusedSimpArgs false

/-! Parts of the heap. -/
abbrev PH := Nat → Option Obj
abbrev HP := PH → Prop
def Sub (h g : PH) : Prop := ∀ b o, h b = some o → g b = some o
def Dj (h g : PH) : Prop := ∀ b, h b = none ∨ g b = none
def put (h : PH) (b : Nat) (o : Obj) : PH := fun c => if c = b then some o else h c
def hw (w : World) : PH := fun b => w.heap[b]?

def un (h g : PH) : PH := fun c => (h c).or (g c)
theorem un_some {h g : PH} {c : Nat} {u : Obj} (e : un h g c = some u) : h c = some u ∨ g c = some u := by
  unfold un at e
  cases x : h c with
  | none => right; simpa [x] using e
  | some v => left; simpa [x] using e
theorem un_none {h g : PH} {c : Nat} (x : h c = none) (y : g c = none) : un h g c = none := by simp [un, x, y]
theorem Sub.refl (h : PH) : Sub h h := fun _ _ x => x
theorem Sub.trans {a b c : PH} (x : Sub a b) (y : Sub b c) : Sub a c := fun k o h => y k o (x k o h)
theorem put_same (h : PH) (b : Nat) (o : Obj) : put h b o b = some o := by simp [put]
theorem put_ne (h : PH) {b c : Nat} (o : Obj) (hc : c ≠ b) : put h b o c = h c := by simp [put, hc]
theorem Sub.un {h g k : PH} (x : Sub h k) (y : Sub g k) : Sub (Bk.un h g) k := fun c u e => (un_some e).elim (x c u) (y c u)
theorem sub_un_left (h g : PH) : Sub h (un h g) := fun c u e => by simp [un, e]
theorem sub_un_right {h g : PH} (d : Dj h g) : Sub g (un h g) := fun c u e => by
  rcases d c with x | x
  · simp [un, x, e]
  · rw [x] at e; cases e
theorem Dj.un {h g k : PH} (x : Dj h k) (y : Dj g k) : Dj (Bk.un h g) k := fun c => by
  rcases x c with a | a
  · rcases y c with b | b
    · exact .inl (un_none a b)
    · exact .inr b
  · exact .inr a
theorem Dj.symm {h g : PH} (x : Dj h g) : Dj g h := fun c => (x c).symm
theorem Dj.sub {h g h' g' : PH} (x : Dj h g) (a : Sub h' h) (b : Sub g' g) : Dj h' g' := fun c => by
  rcases x c with e | e
  · left; cases y : h' c with
    | none => rfl
    | some u => rw [a c u y] at e; cases e
  · right; cases y : g' c with
    | none => rfl
    | some u => rw [b c u y] at e; cases e
theorem Sub.put {h g : PH} (x : Sub h g) (b : Nat) (o : Obj) : Sub (put h b o) (put g b o) := by
  intro c u hu
  by_cases hc : c = b
  · subst hc; rw [put_same] at hu ⊢; exact hu
  · rw [put_ne _ _ hc] at hu ⊢; exact x c u hu
theorem Sub.put_none {h g : PH} (x : Sub h g) {b : Nat} (hb : h b = none) (o : Obj) : Sub h (Bk.put g b o) := by
  intro c u hu
  by_cases hc : c = b
  · subst hc; rw [hb] at hu; cases hu
  · rw [put_ne _ _ hc]; exact x c u hu

def Sat : List HP → PH → Prop
  | [], _ => True
  | A :: L, h => ∃ h1 h2, Dj h1 h2 ∧ Sub h1 h ∧ Sub h2 h ∧ A h1 ∧ Sat L h2

theorem Sat.mono {L : List HP} {h g : PH} (x : Sub h g) (s : Sat L h) : Sat L g := by
  cases L with
  | nil => trivial
  | cons A L => obtain ⟨h1, h2, d, s1, s2, a, r⟩ := s; exact ⟨h1, h2, d, s1.trans x, s2.trans x, a, r⟩

def Ent (L : List HP) (A : HP) : Prop := ∀ h, Sat L h → ∃ h1, Sub h1 h ∧ A h1
theorem Ent.hd {A : HP} {L : List HP} : Ent (A :: L) A := fun _ ⟨h1, _, _, s1, _, a, _⟩ => ⟨h1, s1, a⟩
theorem Ent.tl {A B : HP} {L : List HP} (e : Ent L A) : Ent (B :: L) A := fun _ ⟨_, h2, _, _, s2, _, r⟩ =>
  let ⟨k, sk, ak⟩ := e h2 r; ⟨k, sk.trans s2, ak⟩
theorem Ent.at {A : HP} : ∀ {L : List HP} (k : Nat), L[k]? = some A → Ent L A
  | [], _, h => by simp at h
  | B :: L, 0, h => by simp at h; subst h; exact Ent.hd
  | B :: L, k + 1, h => Ent.tl (Ent.at k (by simpa using h))
theorem Ent.imp {A A' : HP} {L : List HP} (e : Ent L A) (f : ∀ h, A h → ∃ h1, Sub h1 h ∧ A' h1) : Ent L A' := fun h s =>
  let ⟨k, sk, ak⟩ := e h s; let ⟨j, sj, aj⟩ := f k ak; ⟨j, sj.trans sk, aj⟩

theorem Sat.upd {A A' : HP} {b : Nat} {o : Obj} : ∀ {L : List HP} (k : Nat) {h : PH}, L[k]? = some A → Sat L h →
    (∀ h1, Sub h1 h → A h1 → h1 b ≠ none ∧ A' (put h1 b o)) → Sat (L.set k A') (put h b o) ∧ h b ≠ none
  | [], _, _, hk, _, _ => by simp at hk
  | B :: L, 0, h, hk, ⟨h1, h2, d, s1, s2, a, r⟩, f => by
    simp at hk; subst hk
    obtain ⟨hb, ha⟩ := f h1 s1 a
    have h2b : h2 b = none := (d b).resolve_left hb
    refine ⟨⟨put h1 b o, h2, ?_, s1.put b o, s2.put_none h2b o, ha, r⟩, ?_⟩
    · intro c
      by_cases hc : c = b
      · subst hc; exact .inr h2b
      · rw [put_ne _ _ hc]; exact d c
    · intro e
      cases hx : h1 b with
      | none => exact hb hx
      | some u => rw [s1 b u hx] at e; cases e
  | B :: L, k + 1, h, hk, ⟨h1, h2, d, s1, s2, a, r⟩, f => by
    obtain ⟨ih, hb⟩ := Sat.upd (A := A) (A' := A') (b := b) (o := o) k (h := h2) (by simpa using hk) r (fun g sg ag => f g (sg.trans s2) ag)
    have h1b : h1 b = none := (d b).resolve_right hb
    refine ⟨⟨h1, put h2 b o, ?_, s1.put_none h1b o, s2.put b o, a, ih⟩, ?_⟩
    · intro c
      by_cases hc : c = b
      · subst hc; exact .inl h1b
      · rw [put_ne _ _ hc]; exact d c
    · intro e
      cases hx : h2 b with
      | none => exact hb hx
      | some u => rw [s2 b u hx] at e; cases e

theorem Sat.new {A : HP} {L : List HP} {h : PH} {b : Nat} {o : Obj} (hb : h b = none) (s : Sat L h) (ha : A (Bk.put (fun _ => none) b o)) : Sat (A :: L) (Bk.put h b o) := by
  refine ⟨Bk.put (fun _ => none) b o, h, ?_, ?_, (Sub.refl h).put_none hb o, ha, s⟩
  · intro c
    by_cases hc : c = b
    · subst hc; exact .inr hb
    · left; rw [put_ne _ _ hc]
  · intro c u hu
    by_cases hc : c = b
    · subst hc; rw [put_same] at hu ⊢; exact hu
    · rw [put_ne _ _ hc] at hu; cases hu

theorem Sat.erase {L : List HP} : ∀ (k : Nat) {h : PH}, Sat L h → Sat (L.eraseIdx k) h := by
  induction L with
  | nil => intro k h s; simpa using s
  | cons A L ih =>
    intro k h s
    cases k with
    | zero => obtain ⟨h1, h2, d, s1, s2, a, r⟩ := s; exact Sat.mono s2 r
    | succ k => obtain ⟨h1, h2, d, s1, s2, a, r⟩ := s; exact ⟨h1, h2, d, s1, s2, a, ih k r⟩

theorem Sat.swap {A B : HP} {L : List HP} {h : PH} (s : Sat (A :: B :: L) h) : Sat (B :: A :: L) h := by
  obtain ⟨h1, h2, d, s1, s2, a, g1, g2, d', t1, t2, b, r⟩ := s
  have d1 : Dj h1 g1 := d.sub (Sub.refl _) t1
  have d2 : Dj h1 g2 := d.sub (Sub.refl _) t2
  exact ⟨g1, un h1 g2, (d1.un d'.symm).symm, t1.trans s2, s1.un (t2.trans s2), b, h1, g2, d2, sub_un_left _ _, sub_un_right d2, a, r⟩

/-- Assertion number k to the front. -/
theorem Sat.front {A : HP} : ∀ {L : List HP} (k : Nat) {h : PH}, L[k]? = some A → Sat L h → Sat (A :: L.eraseIdx k) h
  | [], _, _, hk, _ => by simp at hk
  | B :: L, 0, h, hk, s => by simp at hk; subst hk; simpa using s
  | B :: L, k + 1, h, hk, s => by
    obtain ⟨h1, h2, d, s1, s2, a, r⟩ := s
    have := Sat.front k (by simpa using hk) r
    exact Sat.swap (A := B) (B := A) ⟨h1, h2, d, s1, s2, a, this⟩

theorem Sat.imp1 {A A' : HP} {L : List HP} {h : PH} (f : ∀ g, A g → ∃ g1, Sub g1 g ∧ A' g1) (s : Sat (A :: L) h) : Sat (A' :: L) h := by
  obtain ⟨h1, h2, d, s1, s2, a, r⟩ := s
  obtain ⟨g1, t, a'⟩ := f h1 a
  exact ⟨g1, h2, d.sub t (Sub.refl _), t.trans s1, s2, a', r⟩

/-- The star of a list of assertions, as one assertion. -/
def Stars (M : List HP) : HP := fun h => Sat M h

theorem Sat.merge {A B : HP} {L : List HP} {h : PH} (s : Sat (A :: B :: L) h) : Sat (Stars [A, B] :: L) h := by
  obtain ⟨h1, h2, d, s1, s2, a, g1, g2, d', t1, t2, b, r⟩ := s
  have d1 : Dj h1 g1 := d.sub (Sub.refl _) t1
  have d2 : Dj h1 g2 := d.sub (Sub.refl _) t2
  exact ⟨un h1 g1, g2, d2.un d', s1.un (t1.trans s2), t2.trans s2, ⟨h1, g1, d1, sub_un_left _ _, sub_un_right d1, a, g1, fun _ => none, fun _ => .inr rfl, Sub.refl _, fun _ _ e => (by cases e), b, trivial⟩, r⟩

theorem Sat.split {A B : HP} {L : List HP} {h : PH} (s : Sat (Stars [A, B] :: L) h) : Sat (A :: B :: L) h := by
  obtain ⟨h1, h2, d, s1, s2, ⟨g1, g2, e, t1, t2, a, k1, k2, e', u1, u2, b, _⟩, r⟩ := s
  have hk : Sub k1 h1 := u1.trans t2
  have dk : Dj k1 h2 := d.sub hk (Sub.refl _)
  exact ⟨g1, un k1 h2, ((e.sub (Sub.refl _) u1).symm.un (d.sub t1 (Sub.refl _)).symm).symm, t1.trans s1, (hk.trans s1).un s2, a, k1, h2, dk, sub_un_left _ _, sub_un_right dk, b, r⟩

/-! Worlds: what stays for the whole of a proof; the assertions. -/
structure St (B : World) (L : List HP) (w : World) : Prop where
  os : w.os = B.os ∧ DrawnOk B w
  tape : w.tape = B.tape
  output : w.output = B.output
  sat : Sat L (hw w)

theorem hw_alloc (w : World) (o : Obj) : hw (w.alloc o) = put (hw w) w.heap.size o := by
  funext c
  show (w.heap.push o)[c]? = _
  by_cases hc : c = w.heap.size
  · subst hc; simp [put]
  · rw [put_ne _ _ hc]; simp [hw, Array.getElem?_push, hc]
theorem hw_new (w : World) : hw w w.heap.size = none := by simp [hw]
theorem hw_set (w : World) (b : Nat) (o u : Obj) (h : hw w b = some u) : hw { w with heap := w.heap.setIfInBounds b o } = put (hw w) b o := by
  funext c
  have hb : b < w.heap.size := by simp only [hw] at h; exact (Array.getElem?_eq_some_iff.1 h).1
  by_cases hc : c = b
  · subst hc; simp [hw, put, hb]
  · rw [put_ne _ _ hc]; simp [hw, Ne.symm hc]

theorem St.drew {B : World} {L : List HP} {w : World} (s : St B L w) : St B L w.drew := ⟨⟨s.os.1, s.os.2.drew⟩, s.tape, s.output, s.sat⟩
theorem St.mono {B : World} {L L' : List HP} {w : World} (f : ∀ h, Sat L h → Sat L' h) (s : St B L w) : St B L' w := ⟨s.os, s.tape, s.output, f _ s.sat⟩
theorem St.new {B : World} {L : List HP} {w : World} {A : HP} {o : Obj} (s : St B L w) (ha : A (put (fun _ => none) w.heap.size o)) : St B (A :: L) (w.alloc o) :=
  ⟨s.os, s.tape, s.output, by rw [hw_alloc]; exact Sat.new (hw_new w) s.sat ha⟩

/-! Environments. -/
abbrev Env := List (Nat × Value)
def lk : Env → Nat → Option Value
  | [], _ => none
  | (j, v) :: E, i => bif Nat.beq i j then some v else lk E i
structure EnvOk (N : Nat) (E : Env) (a : Act) : Prop where
  size : a.tmps.size = N
  defers : a.defers = []
  env : ∀ i v, lk E i = some v → a.tmps[i]? = some v

def opv (E : Env) : Operand → Option Value
  | .tmp t => lk E t
  | .const v => some v
  | .global g => some (.pointer (some ⟨g, 0, none⟩))
  | .func f => some (.func (.func f) #[] #[])

theorem EnvOk.eval {N : Nat} {E : Env} {a : Act} (e : EnvOk N E a) {x : Operand} {v : Value} (h : opv E x = some v) : a.eval x = v := by
  cases x with
  | tmp t => simp only [opv] at h; have := e.env t v h; simp [Act.eval, this]
  | const u => simp [opv] at h; simp [Act.eval, h]
  | global g => simp [opv] at h; simp [Act.eval, h]
  | func f => simp [opv] at h; simp [Act.eval, h]

theorem EnvOk.put {N : Nat} {E : Env} {a : Act} (e : EnvOk N E a) {d : Nat} (hd : Nat.blt d N = true) (v : Value) : EnvOk N ((d, v) :: E) (a.put (some d) v) := by
  have hd' : d < N := by simpa [Nat.blt_eq] using hd
  refine ⟨by simp [Act.put, e.size], by simp [Act.put, e.defers], fun i u h => ?_⟩
  simp only [lk] at h
  by_cases hi : i = d
  · subst hi
    simp at h
    subst h
    simp [Act.put, e.size, hd']
  · have : Nat.beq i d = false := by cases x : Nat.beq i d with | false => rfl | true => exact absurd (Nat.eq_of_beq_eq_true x) hi
    rw [this] at h
    have := e.env i u (by simpa using h)
    simp [Act.put, Ne.symm hi, this]

theorem EnvOk.sub {N : Nat} {E E' : Env} {a : Act} (e : EnvOk N E a) (h : ∀ i v, lk E' i = some v → lk E i = some v) : EnvOk N E' a :=
  ⟨e.size, e.defers, fun i v hv => e.env i v (h i v hv)⟩

/-- Every entry of a list of slots stands in an environment. -/
def allIn (E : Env) : Env → Prop
  | [] => True
  | (i, v) :: E' => lk E i = some v ∧ allIn E E'
theorem lk_of_allIn {E : Env} : ∀ {E' : Env}, allIn E E' → ∀ i v, lk E' i = some v → lk E i = some v
  | [], _, i, v, h => by simp [lk] at h
  | (j, u) :: E', ⟨h1, h2⟩, i, v, h => by
    simp only [lk] at h
    cases x : Nat.beq i j with
    | false => rw [x] at h; exact lk_of_allIn h2 i v (by simpa using h)
    | true => rw [x] at h; simp at h; subst h; rw [Nat.eq_of_beq_eq_true x]; exact h1

/-! Lists of operations. -/
section ops
variable {P : Program} {N : Nat} {B : World} {ops : Array Oper}

def TO (P : Program) (N : Nat) (B : World) (ops : Array Oper) (l : List Oper) (E : Env) (L : List HP) (Q : Act → World → Prop) : Prop :=
  ∀ a w, EnvOk N E a → St B L w → wpList P ops (fun e a w => e = .normal ∧ Q a w) l a w

/-- One operation: from an environment and assertions to a value and assertions. -/
def StepW (P : Program) (N : Nat) (B : World) (o : Oper) (E : Env) (L : List HP) (R : Value → List HP → Prop) : Prop :=
  ∀ a w, EnvOk N E a → St B L w → ∀ (K : Act → World → Prop) (Q : Exit → Act → World → Prop),
    (∀ v L' w', R v L' → St B L' w' → K (a.put o.dst v) w') → o.wp P a w K Q

theorem StepW.of_run {o : Oper} {E : Env} {L : List HP} {R : Value → List HP → Prop}
    (h : ∀ a w, EnvOk N E a → St B L w → ∃ v L' w', (execOp a.eval o).run P w = .ok (.value v) w' ∧ R v L' ∧ St B L' w') : StepW P N B o E L R := by
  intro a w e s K Q k
  obtain ⟨v, L', w', hr, r, s'⟩ := h a w e s
  unfold Oper.wp
  rw [hr]
  exact k v L' w' r s'
theorem StepW.of_skip {o : Oper} {E : Env} {L : List HP} {R : Value → List HP → Prop}
    (h : ∀ a w, EnvOk N E a → St B L w → ∃ L' w', (execOp a.eval o).run P w = .ok .skip w' ∧ R undef L' ∧ St B L' w') : StepW P N B o E L R := by
  intro a w e s K Q k
  obtain ⟨L', w', hr, r, s'⟩ := h a w e s
  unfold Oper.wp
  rw [hr]
  exact k undef L' w' r s'

theorem TO.nil {E : Env} {L : List HP} {Q : Act → World → Prop} (h : ∀ a w, EnvOk N E a → St B L w → Q a w) : TO P N B ops [] E L Q :=
  fun a w e s => ⟨rfl, h a w e s⟩

theorem TO.step {o : Oper} {rest : List Oper} {E : Env} {L : List HP} {Q : Act → World → Prop} {R : Value → List HP → Prop} {d : Nat}
    (hg : o.guard = none) (hdst : o.dst = some d) (hd : Nat.blt d N = true) (hs : StepW P N B o E L R)
    (h : ∀ v L', R v L' → TO P N B ops rest ((d, v) :: E) L' Q) : TO P N B ops (o :: rest) E L Q := by
  intro a w e s
  refine wpList_plain hg fun K hK => hs a w e s K _ fun v L' w' r s' => hK _ _ ?_
  rw [hdst]
  exact h v L' r _ _ (e.put hd v) s'

theorem TO.step0 {o : Oper} {rest : List Oper} {E : Env} {L : List HP} {Q : Act → World → Prop} {R : Value → List HP → Prop}
    (hg : o.guard = none) (hdst : o.dst = none) (hs : StepW P N B o E L R)
    (h : ∀ v L', R v L' → TO P N B ops rest E L' Q) : TO P N B ops (o :: rest) E L Q := by
  intro a w e s
  refine wpList_plain hg fun K hK => hs a w e s K _ fun v L' w' r s' => hK _ _ ?_
  rw [hdst]
  exact h v L' r _ _ e s'

/-- A guarded operation that runs. -/
theorem TO.want {o : Oper} {rest : List Oper} {E : Env} {L : List HP} {Q : Act → World → Prop} {R : Value → List HP → Prop} {d j dj : Nat} {want b : Bool}
    (hg : o.guard = some (j, want)) (hj : (ops[j]?).bind (·.dst) = some dj) (hE : lk E dj = some (.bool b)) (hb : b = want)
    (hdst : o.dst = some d) (hd : Nat.blt d N = true) (hs : StepW P N B o E L R)
    (h : ∀ v L', R v L' → TO P N B ops rest ((d, v) :: E) L' Q) : TO P N B ops (o :: rest) E L Q := by
  intro a w e s
  subst hb
  refine wpList_step fun K hK => ?_
  have : Region.wanted o (yielded ops a.tmps) = true := by simp [Region.wanted, hg, yielded, hj, e.env dj _ hE]
  rw [if_pos this]
  refine hs a w e s K _ fun v L' w' r s' => hK _ _ ?_
  rw [hdst]
  exact h v L' r _ _ (e.put hd v) s'

/-- A guarded operation that is passed over. -/
theorem TO.skip {o : Oper} {rest : List Oper} {E : Env} {L : List HP} {Q : Act → World → Prop} {d j dj : Nat} {want : Bool} {u : Value}
    (hg : o.guard = some (j, want)) (hj : (ops[j]?).bind (·.dst) = some dj) (hE : lk E dj = some u) (hb : u ≠ .bool want)
    (hdst : o.dst = some d) (hd : Nat.blt d N = true)
    (h : TO P N B ops rest ((d, undef) :: E) L Q) : TO P N B ops (o :: rest) E L Q := by
  intro a w e s
  refine wpList_step fun K hK => ?_
  have : Region.wanted o (yielded ops a.tmps) = false := by
    simp only [Region.wanted, hg, yielded, hj, Option.bind_some, e.env dj _ hE]
    cases u <;> simp_all
  rw [if_neg (by simp [this])]
  refine hK _ _ ?_
  rw [hdst]
  exact h _ _ (e.put hd undef) s

theorem Oper.wp_mono2 {o : Oper} {a : Act} {w : World} {K K' : Act → World → Prop} {Q Q' : Exit → Act → World → Prop} (h : ∀ a w, K a w → K' a w)
    (hq : ∀ e a w, e ≠ .normal → Q e a w → Q' e a w) (hh : o.wp P a w K Q) : o.wp P a w K' Q' := by
  unfold Oper.wp at *
  generalize (execOp a.eval o).run P w = r at *
  cases r with
  | ok n w' =>
    cases n <;> simp only [Oper.upon] at hh ⊢ <;>
      first
        | exact h _ _ hh
        | exact Calls.mono hh (fun e w'' he => by
            cases e with
            | returned v => exact h _ _ he
            | panicked c => exact hq _ _ _ (by simp) he
            | outgrown => obtain ⟨a0, w0, h0⟩ := he; exact ⟨a0, w0, hq _ _ _ (by simp) h0⟩)
        | exact Rows.mono hh (fun _ _ he => h _ _ he)
  | halt x w' => cases x <;> simp only [Oper.upon] at hh ⊢ <;> first | exact hh | exact hq _ _ _ (by simp) hh

theorem wpList_monoQ {Q Q' : Act → World → Prop} (hq : ∀ a w, Q a w → Q' a w) : ∀ (l : List Oper) (a : Act) (w : World),
    wpList P ops (fun e a w => e = .normal ∧ Q a w) l a w → wpList P ops (fun e a w => e = .normal ∧ Q' a w) l a w
  | [], a, w, h => ⟨rfl, hq _ _ h.2⟩
  | o :: l, a, w, h => by
    unfold wpList at h ⊢
    split
    · rename_i hw
      rw [if_pos hw] at h
      rcases h with h | ⟨_, a0, w0, h0, _⟩
      · exact .inl (Oper.wp_mono2 (fun a w h => wpList_monoQ hq l a w h) (fun e a w ne h => absurd h.1 ne) h)
      · cases h0
    · rename_i hw
      rw [if_neg hw] at h
      exact wpList_monoQ hq l _ w h

theorem wpList_app (Q : Act → World → Prop) : ∀ (l1 l2 : List Oper) (a : Act) (w : World),
    wpList P ops (fun e a w => e = .normal ∧ wpList P ops (fun e a w => e = .normal ∧ Q a w) l2 a w) l1 a w → wpList P ops (fun e a w => e = .normal ∧ Q a w) (l1 ++ l2) a w
  | [], l2, a, w, h => h.2
  | o :: l1, l2, a, w, h => by
    rw [List.cons_append]
    unfold wpList at h ⊢
    split
    · rename_i hw
      rw [if_pos hw] at h
      rcases h with h | ⟨_, a0, w0, h0, _⟩
      · exact .inl (Oper.wp_mono2 (fun a w h => wpList_app Q l1 l2 a w h) (fun e a w ne h => absurd h.1 ne) h)
      · cases h0
    · rename_i hw
      rw [if_neg hw] at h
      exact wpList_app Q l1 l2 _ w h

theorem TO.cut {l : List Oper} {E : Env} {L : List HP} {Q : Act → World → Prop} (n : Nat) (M : Act → World → Prop)
    (h1 : TO P N B ops (l.take n) E L M) (h2 : ∀ a w, M a w → wpList P ops (fun e a w => e = .normal ∧ Q a w) (l.drop n) a w) : TO P N B ops l E L Q := by
  intro a w e s
  rw [← List.take_append_drop n l]
  refine wpList_app Q _ _ a w ?_
  have := h1 a w e s
  revert this
  generalize l.take n = l1
  intro this
  exact wpList_monoQ (fun a w h => h2 a w h) l1 a w this
end ops
end Go.Bk
