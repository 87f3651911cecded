/-
  Triples for code, for regions that draw their order, for loops and for calls. Nothing of any program stands here.
-/
import Derived.Test.YtgofkfhkolkfmaaBk
import Derived.LoopN
namespace Go.Bk
open Go
set_option linter.unusedVariables false
set_option linter.unusedSimpArgs false

section
variable {P : Program} {N : Nat} {B : World} {ops : Array Oper}

/-- One operation that leaves the world as it is. -/
def StepS (P : Program) (N : Nat) (B : World) (o : Oper) (E : Env) (L : List HP) (v : Value) : Prop :=
  ∀ a w, EnvOk N E a → St B L w → (execOp a.eval o).run P w = .ok (.value v) w

theorem StepS.w {o : Oper} {E : Env} {L : List HP} {v : Value} (h : StepS P N B o E L v) : StepW P N B o E L (fun u M => u = v ∧ M = L) :=
  StepW.of_run fun a w e s => ⟨v, L, w, h a w e s, ⟨rfl, rfl⟩, s⟩

theorem TO.s {o : Oper} {rest : List Oper} {E : Env} {L : List HP} {Q : Act → World → Prop} {v : Value} {d : Nat}
    (hg : o.guard = none) (hdst : o.dst = some d) (hd : Nat.blt d N = true) (hs : StepS P N B o E L v)
    (h : TO P N B ops rest ((d, v) :: E) L Q) : TO P N B ops (o :: rest) E L Q :=
  TO.step hg hdst hd hs.w (fun u M ⟨hu, hM⟩ => by subst hu; subst hM; exact h)
theorem TO.sw {o : Oper} {rest : List Oper} {E : Env} {L : List HP} {Q : Act → World → Prop} {v : Value} {d j dj : Nat} {want b : Bool}
    (hg : o.guard = some (j, want)) (hj : (ops[j]?).bind (·.dst) = some dj) (hE : lk E dj = some (.bool b)) (hb : b = want)
    (hdst : o.dst = some d) (hd : Nat.blt d N = true) (hs : StepS P N B o E L v)
    (h : TO P N B ops rest ((d, v) :: E) L Q) : TO P N B ops (o :: rest) E L Q :=
  TO.want hg hj hE hb hdst hd hs.w (fun u M ⟨hu, hM⟩ => by subst hu; subst hM; exact h)

/-! Regions that draw: the head reads. -/
def TS (P : Program) (N : Nat) (B : World) (ops : Array Oper) (l : List Oper) (E : Env) (L : List HP) (Q : Act → World → Prop) : Prop :=
  ∀ a w, EnvOk N E a → St B L w → wpStill P ops w (fun a' => Q a' w) l a

theorem TS.nil {E : Env} {L : List HP} {Q : Act → World → Prop} (h : ∀ a w, EnvOk N E a → St B L w → Q a w) : TS P N B ops [] E L Q :=
  fun a w e s => h a w e s
theorem Oper.still_of {o : Oper} {a : Act} {w : World} {v : Value} {K : Act → Prop} (h : (execOp a.eval o).run P w = .ok (.value v) w) (hk : K (a.put o.dst v)) : o.still P a w K := by
  unfold Oper.still; rw [h, Oper.stillUpon_value]; exact hk
theorem TS.s {o : Oper} {rest : List Oper} {E : Env} {L : List HP} {Q : Act → World → Prop} {v : Value} {d : Nat}
    (hg : o.guard = none) (hdst : o.dst = some d) (hd : Nat.blt d N = true) (hs : StepS P N B o E L v)
    (h : TS P N B ops rest ((d, v) :: E) L Q) : TS P N B ops (o :: rest) E L Q := by
  intro a w e s
  unfold wpStill
  rw [if_pos (by simp [Region.wanted, hg])]
  refine Oper.still_of (hs a w e s) ?_
  rw [hdst]
  exact h _ _ (e.put hd v) s
theorem TS.sw {o : Oper} {rest : List Oper} {E : Env} {L : List HP} {Q : Act → World → Prop} {v : Value} {d j dj : Nat} {want b : Bool}
    (hg : o.guard = some (j, want)) (hj : (ops[j]?).bind (·.dst) = some dj) (hE : lk E dj = some (.bool b)) (hb : b = want)
    (hdst : o.dst = some d) (hd : Nat.blt d N = true) (hs : StepS P N B o E L v)
    (h : TS P N B ops rest ((d, v) :: E) L Q) : TS P N B ops (o :: rest) E L Q := by
  intro a w e s
  subst hb
  unfold wpStill
  rw [if_pos (by simp [Region.wanted, hg, yielded, hj, e.env dj _ hE])]
  refine Oper.still_of (hs a w e s) ?_
  rw [hdst]
  exact h _ _ (e.put hd v) s
theorem TS.skip {o : Oper} {rest : List Oper} {E : Env} {L : List HP} {Q : Act → World → Prop} {d j dj : Nat} {want : Bool} {u : Value}
    (hg : o.guard = some (j, want)) (hj : (ops[j]?).bind (·.dst) = some dj) (hE : lk E dj = some u) (hb : u ≠ .bool want)
    (hdst : o.dst = some d) (hd : Nat.blt d N = true)
    (h : TS P N B ops rest ((d, undef) :: E) L Q) : TS P N B ops (o :: rest) E L Q := by
  intro a w e s
  unfold wpStill
  have : Region.wanted o (yielded ops a.tmps) = false := by
    simp only [Region.wanted, hg, yielded, hj, Option.bind_some, e.env dj _ hE]
    cases u <;> simp_all
  rw [if_neg (by simp [this]), hdst]
  exact h _ _ (e.put hd undef) s

theorem wpStill_mono {w : World} {K K' : Act → Prop} (hk : ∀ a, K a → K' a) : ∀ (l : List Oper) (a : Act), wpStill P ops w K l a → wpStill P ops w K' l a
  | [], a, h => hk _ h
  | o :: l, a, h => by
    unfold wpStill at h ⊢
    split
    · rename_i hw; rw [if_pos hw] at h; exact Oper.still_mono (fun a h => wpStill_mono hk l a h) h
    · rename_i hw; rw [if_neg hw] at h; exact wpStill_mono hk l _ h
theorem wpStill_app {w : World} {K : Act → Prop} : ∀ (l1 l2 : List Oper) (a : Act), wpStill P ops w (fun a => wpStill P ops w K l2 a) l1 a → wpStill P ops w K (l1 ++ l2) a
  | [], l2, a, h => h
  | o :: l1, l2, a, h => by
    rw [List.cons_append]
    unfold wpStill at h ⊢
    split
    · rename_i hw; rw [if_pos hw] at h; exact Oper.still_mono (fun a h => wpStill_app l1 l2 a h) h
    · rename_i hw; rw [if_neg hw] at h; exact wpStill_app l1 l2 _ h
theorem TS.cut {l : List Oper} {E : Env} {L : List HP} {Q : Act → World → Prop} (n : Nat) (M : Act → World → Prop)
    (h1 : TS P N B ops (l.take n) E L M) (h2 : ∀ a w, M a w → wpStill P ops w (fun a => Q a w) (l.drop n) a) : TS P N B ops l E L Q := by
  intro a w e s
  rw [← List.take_append_drop n l]
  exact wpStill_app _ _ a (wpStill_mono (fun a h => h2 a w h) _ a (h1 a w e s))

/-! Regions that draw, with calls: every operation gives one value in every world that meets the assertions. -/
def TQ (P : Program) (N : Nat) (B : World) (ops : Array Oper) (L : List HP) (l : List Oper) (E : Env) (Q : Act → Prop) : Prop :=
  ∀ a, EnvOk N E a → wpQuiet P ops (St B L) Q l a

/-- One value in every world of the assertions, which hold behind it, too. -/
def StepQ (P : Program) (N : Nat) (B : World) (o : Oper) (E : Env) (L : List HP) (v : Value) : Prop :=
  ∀ a, EnvOk N E a → ∀ w, St B L w → o.quietAt P a (St B L) w v
theorem StepS.q {o : Oper} {E : Env} {L : List HP} {v : Value} (h : StepS P N B o E L v) : StepQ P N B o E L v :=
  fun a e w s => by unfold Oper.quietAt; rw [h a w e s]; exact ⟨rfl, rfl⟩
theorem TQ.nil {E : Env} {L : List HP} {Q : Act → Prop} (h : ∀ a, EnvOk N E a → Q a) : TQ P N B ops L [] E Q := fun a e => h a e
theorem TQ.s {o : Oper} {rest : List Oper} {E : Env} {L : List HP} {Q : Act → Prop} {v : Value} {d : Nat}
    (hg : o.guard = none) (hdst : o.dst = some d) (hd : Nat.blt d N = true) (hs : StepQ P N B o E L v)
    (h : TQ P N B ops L rest ((d, v) :: E) Q) : TQ P N B ops L (o :: rest) E Q := by
  intro a e
  unfold wpQuiet
  rw [if_pos (by simp [Region.wanted, hg])]
  refine ⟨v, fun w s => hs a e w s, ?_⟩
  rw [hdst]
  exact h _ (e.put hd v)
theorem TQ.sw {o : Oper} {rest : List Oper} {E : Env} {L : List HP} {Q : Act → Prop} {v : Value} {d j dj : Nat} {want b : Bool}
    (hg : o.guard = some (j, want)) (hj : (ops[j]?).bind (·.dst) = some dj) (hE : lk E dj = some (.bool b)) (hb : b = want)
    (hdst : o.dst = some d) (hd : Nat.blt d N = true) (hs : StepQ P N B o E L v)
    (h : TQ P N B ops L rest ((d, v) :: E) Q) : TQ P N B ops L (o :: rest) E Q := by
  intro a e
  subst hb
  unfold wpQuiet
  rw [if_pos (by simp [Region.wanted, hg, yielded, hj, e.env dj _ hE])]
  refine ⟨v, fun w s => hs a e w s, ?_⟩
  rw [hdst]
  exact h _ (e.put hd v)
theorem TQ.skip {o : Oper} {rest : List Oper} {E : Env} {L : List HP} {Q : Act → Prop} {d j dj : Nat} {want : Bool} {u : Value}
    (hg : o.guard = some (j, want)) (hj : (ops[j]?).bind (·.dst) = some dj) (hE : lk E dj = some u) (hb : u ≠ .bool want)
    (hdst : o.dst = some d) (hd : Nat.blt d N = true)
    (h : TQ P N B ops L rest ((d, undef) :: E) Q) : TQ P N B ops L (o :: rest) E Q := by
  intro a e
  unfold wpQuiet
  have : Region.wanted o (yielded ops a.tmps) = false := by
    simp only [Region.wanted, hg, yielded, hj, Option.bind_some, e.env dj _ hE]
    cases u <;> simp_all
  rw [if_neg (by simp [this]), hdst]
  exact h _ (e.put hd undef)
theorem wpQuiet_mono {C : World → Prop} {K K' : Act → Prop} (hk : ∀ a, K a → K' a) : ∀ (l : List Oper) (a : Act), wpQuiet P ops C K l a → wpQuiet P ops C K' l a
  | [], a, h => hk _ h
  | o :: l, a, h => by
    unfold wpQuiet at h ⊢
    split
    · rename_i hw; rw [if_pos hw] at h; exact Oper.quiet_mono (fun a h => wpQuiet_mono hk l a h) h
    · rename_i hw; rw [if_neg hw] at h; exact wpQuiet_mono hk l _ h
theorem wpQuiet_app {C : World → Prop} {K : Act → Prop} : ∀ (l1 l2 : List Oper) (a : Act), wpQuiet P ops C (fun a => wpQuiet P ops C K l2 a) l1 a → wpQuiet P ops C K (l1 ++ l2) a
  | [], l2, a, h => h
  | o :: l1, l2, a, h => by
    rw [List.cons_append]
    unfold wpQuiet at h ⊢
    split
    · rename_i hw; rw [if_pos hw] at h; exact Oper.quiet_mono (fun a h => wpQuiet_app l1 l2 a h) h
    · rename_i hw; rw [if_neg hw] at h; exact wpQuiet_app l1 l2 _ h
theorem TQ.cut {l : List Oper} {E E' : Env} {L : List HP} {Q : Act → Prop} (n : Nat)
    (h1 : TQ P N B ops L (l.take n) E (fun a => EnvOk N E' a)) (h2 : TQ P N B ops L (l.drop n) E' Q) : TQ P N B ops L l E Q := by
  intro a e
  rw [← List.take_append_drop n l]
  exact wpQuiet_app _ _ a (wpQuiet_mono (fun a h => h2 a h) _ a (h1 a e))
/-- The end of a piece that is cut off. -/
theorem TQ.upto {E E' : Env} {L : List HP} (h : allIn E E') : TQ P N B ops L [] E (fun a => EnvOk N E' a) := fun _ e => e.sub (lk_of_allIn h)
/-- What a cut between two pieces of a list of operations says: an environment, assertions. -/
def Mid (N : Nat) (B : World) (E : Env) (L : List HP) : Act → World → Prop := fun a w => EnvOk N E a ∧ St B L w
theorem TO.upto {E E' : Env} {L : List HP} (h : allIn E E') : TO P N B ops [] E L (Mid N B E' L) := TO.nil fun _ _ e s => ⟨e.sub (lk_of_allIn h), s⟩
theorem TS.upto {E E' : Env} {L : List HP} (h : allIn E E') : TS P N B ops [] E L (Mid N B E' L) := TS.nil fun _ _ e s => ⟨e.sub (lk_of_allIn h), s⟩
theorem TO.mid {l : List Oper} {E E' : Env} {L L' : List HP} {Q : Act → World → Prop} (n : Nat) (h1 : TO P N B ops (l.take n) E L (Mid N B E' L')) (h2 : TO P N B ops (l.drop n) E' L' Q) : TO P N B ops l E L Q :=
  TO.cut n (Mid N B E' L') h1 fun a w h => h2 a w h.1 h.2
theorem TS.mid {l : List Oper} {E E' : Env} {L L' : List HP} {Q : Act → World → Prop} (n : Nat) (h1 : TS P N B ops (l.take n) E L (Mid N B E' L')) (h2 : TS P N B ops (l.drop n) E' L' Q) : TS P N B ops l E L Q :=
  TS.cut n (Mid N B E' L') h1 fun a w h => h2 a w h.1 h.2

theorem wpList_monoX {Q : Act → World → Prop} {Q' : Exit → Act → World → Prop} (hq : ∀ a w, Q a w → Q' .normal a w) : ∀ (l : List Oper) (a : Act) (w : World),
    wpList P ops (fun e a w => e = .normal ∧ Q a w) l a w → wpList P ops Q' l a w
  | [], a, w, h => hq _ _ h.2
  | o :: l, a, w, h => by
    unfold wpList at h ⊢
    split
    · rename_i hw
      rw [if_pos hw] at h
      rcases h with h | ⟨_, a0, w0, h0, _⟩
      · exact .inl (Oper.wp_mono2 (fun a w h => wpList_monoX hq l a w h) (fun e a w ne h => absurd h.1 ne) h)
      · cases h0
    · rename_i hw
      rw [if_neg hw] at h
      exact wpList_monoX hq l _ w h

theorem Sat.dropN : ∀ (n : Nat) {L : List HP} {h : PH}, Sat L h → Sat (L.drop n) h
  | 0, _, _, s => s
  | n + 1, [], _, s => s
  | n + 1, _ :: L, _, ⟨_, _, _, _, s2, _, r⟩ => Sat.mono s2 (Sat.dropN n r)
def freshB (new old : Env) : Bool := new.all fun p => (lk old p.1).isNone
theorem lk_fresh : ∀ {new old E : Env}, E = new ++ old → freshB new old = true → ∀ i v, lk old i = some v → lk E i = some v
  | [], old, E, hE, _, i, v, h => by subst hE; exact h
  | (j, u) :: new, old, E, hE, hf, i, v, h => by
    subst hE
    simp only [freshB, List.all_cons, Bool.and_eq_true] at hf
    have hij : Nat.beq i j = false := by
      cases x : Nat.beq i j with
      | false => rfl
      | true => have := Nat.eq_of_beq_eq_true x; subst this; have := hf.1; simp [h] at this
    rw [List.cons_append, lk, hij]
    exact lk_fresh rfl hf.2 i v h
theorem EnvOk.up1 {a : Act} {E1 E0 : Env} (k : Nat) {d : Nat} {v : Value} (hk : E1.drop k = E0) (hf : freshB (E1.take k) E0 = true) (hv : lk E1 d = some v) (e : EnvOk N E1 a) : EnvOk N ((d, v) :: E0) a := by
  refine e.sub fun i u h => ?_
  simp only [lk] at h
  cases x : Nat.beq i d with
  | true => rw [x] at h; simp at h; subst h; rw [Nat.eq_of_beq_eq_true x]; exact hv
  | false => rw [x] at h; subst hk; exact lk_fresh (List.take_append_drop k E1).symm hf i u (by simpa using h)
/-- The end of a piece that gives one slot a value; the rest is as it was. -/
theorem TO.up1 {E1 E0 : Env} {L1 L0 : List HP} (k m : Nat) {d : Nat} {v : Value} (hk : E1.drop k = E0) (hf : freshB (E1.take k) E0 = true) (hv : lk E1 d = some v) (hL : L1.drop m = L0) :
    TO P N B ops [] E1 L1 (Mid N B ((d, v) :: E0) L0) := TO.nil fun _ _ e s => ⟨e.up1 k hk hf hv, s.mono (by subst hL; exact fun _ => Sat.dropN m)⟩
theorem TS.up1 {E1 E0 : Env} {L1 L0 : List HP} (k m : Nat) {d : Nat} {v : Value} (hk : E1.drop k = E0) (hf : freshB (E1.take k) E0 = true) (hv : lk E1 d = some v) (hL : L1.drop m = L0) :
    TS P N B ops [] E1 L1 (Mid N B ((d, v) :: E0) L0) := TS.nil fun _ _ e s => ⟨e.up1 k hk hf hv, s.mono (by subst hL; exact fun _ => Sat.dropN m)⟩
theorem TQ.up1 {E1 E0 : Env} {L : List HP} (k m : Nat) {d : Nat} {v : Value} (hk : E1.drop k = E0) (hf : freshB (E1.take k) E0 = true) (hv : lk E1 d = some v) (_hL : L.drop m = L) :
    TQ P N B ops L [] E1 (fun a => EnvOk N ((d, v) :: E0) a) := TQ.nil fun _ e => e.up1 k hk hf hv
theorem TO.mid1 {l : List Oper} {E : Env} {L : List HP} {Q : Act → World → Prop} (n d : Nat) (v : Value) (h1 : TO P N B ops (l.take n) E L (Mid N B ((d, v) :: E) L)) (h2 : TO P N B ops (l.drop n) ((d, v) :: E) L Q) : TO P N B ops l E L Q := TO.mid n h1 h2
theorem TS.mid1 {l : List Oper} {E : Env} {L : List HP} {Q : Act → World → Prop} (n d : Nat) (v : Value) (h1 : TS P N B ops (l.take n) E L (Mid N B ((d, v) :: E) L)) (h2 : TS P N B ops (l.drop n) ((d, v) :: E) L Q) : TS P N B ops l E L Q := TS.mid n h1 h2
theorem TQ.mid1 {l : List Oper} {E : Env} {L : List HP} {Q : Act → Prop} (n d : Nat) (v : Value) (h1 : TQ P N B ops L (l.take n) E (fun a => EnvOk N ((d, v) :: E) a)) (h2 : TQ P N B ops L (l.drop n) ((d, v) :: E) Q) : TQ P N B ops L l E Q := TQ.cut n h1 h2
theorem skipT {b : Bool} (h : b = true) : Value.bool b ≠ .bool false := by subst h; simp
theorem skipF {b : Bool} (h : b = false) : Value.bool b ≠ .bool true := by subst h; simp
theorem skipU {b : Bool} : undef ≠ .bool b := by simp [undef]
theorem bcase {G : Prop} (b : Bool) (h1 : b = true → G) (h2 : b = false → G) : G := by cases b; exact h2 rfl; exact h1 rfl
theorem cond_t {α : Type} {c : Bool} {x y : α} {r : α} (hc : c = true) (h : cond c x y = r) : x = r := by subst hc; exact h
theorem cond_f {α : Type} {c : Bool} {x y : α} {r : α} (hc : c = false) (h : cond c x y = r) : y = r := by subst hc; exact h

/-! Code. -/
structure Post where
  nrm : Act → World → Prop
  ret : Act → World → Prop
  ex : List (Nat × (Act → World → Prop))
def lkx : List (Nat × (Act → World → Prop)) → Nat → Option (Act → World → Prop)
  | [], _ => none
  | (j, v) :: E, i => bif Nat.beq i j then some v else lkx E i
def Post.q (X : Post) : Exit → Act → World → Prop
  | .normal, a, w => X.nrm a w
  | .ret, a, w => X.ret a w
  | .exit id, a, w => ∃ M, lkx X.ex id = some M ∧ M a w
  | _, _, _ => False

def TC (P : Program) (N : Nat) (B : World) (c : Code) (E : Env) (L : List HP) (X : Post) : Prop :=
  ∀ a w, EnvOk N E a → St B L w → c.wp P X.q a w

variable {E : Env} {L : List HP} {X : Post} {c x y z : Code}

theorem TC.weaken {E' : Env} {L' : List HP} (hE : allIn E E') (hL : ∀ h, Sat L h → Sat L' h) (h : TC P N B c E' L' X) : TC P N B c E L X :=
  fun a w e s => h a w (e.sub (lk_of_allIn hE)) (s.mono hL)
theorem TC.seq (M : Act → World → Prop) (h : TC P N B x E L { X with nrm := M }) (h2 : ∀ a w, M a w → y.wp P X.q a w) : TC P N B (.seq x y) E L X := by
  intro a w e s
  refine wp_seq (wp_mono (h a w e s) ?_)
  intro e a w q
  cases e <;> first | exact h2 a w q | exact q
/-- What follows stands in the post. -/
theorem TC.k (h : TC P N B x E L { X with nrm := fun a w => y.wp P X.q a w }) : TC P N B (.seq x y) E L X := TC.seq _ h fun _ _ h => h
theorem TO.code (h : TC P N B y E L X) : TO P N B ops [] E L (fun a w => y.wp P X.q a w) := TO.nil h
theorem TS.code (h : TC P N B y E L X) : TS P N B ops [] E L (fun a w => y.wp P X.q a w) := TS.nil h
theorem TQ.code (h : TC P N B y E L X) : TQ P N B ops L [] E (fun a => ∀ w, St B L w → y.wp P X.q a w) := TQ.nil fun a e w s => h a w e s
theorem TC.skip (h : ∀ a w, EnvOk N E a → St B L w → X.nrm a w) : TC P N B .skip E L X := fun a w e s => wp_skip (h a w e s)
theorem TC.exit {id : Nat} {M : Act → World → Prop} (hM : lkx X.ex id = some M) (h : ∀ a w, EnvOk N E a → St B L w → M a w) : TC P N B (.exit id) E L X :=
  fun a w e s => wp_exit ⟨M, hM, h a w e s⟩
theorem TC.ret (h : ∀ a w, EnvOk N E a → St B L w → X.ret a w) : TC P N B .ret E L X := fun a w e s => wp_ret (h a w e s)
theorem TC.skipk {R : Act → World → Prop} {Y : List (Nat × (Act → World → Prop))} (h : TC P N B y E L X) : TC P N B .skip E L ⟨fun a w => y.wp P X.q a w, R, Y⟩ := TC.skip fun a w e s => h a w e s
theorem TC.exitk {id : Nat} {Z : Post} (hM : lkx Z.ex id = some (fun a w => y.wp P X.q a w)) (h : TC P N B y E L X) : TC P N B (.exit id) E L Z := TC.exit hM fun a w e s => h a w e s
theorem TC.use {a : Act} {w : World} (h : TC P N B c E L X) (e : EnvOk N E a) (s : St B L w) : c.wp P X.q a w := h a w e s
/-- A cut: what holds between two pieces. -/
theorem TC.cutM (M : Act → World → Prop) {K : Act → World → Prop} (h : TC P N B x E L { X with nrm := M }) (h2 : ∀ a w, M a w → K a w) : TC P N B x E L { X with nrm := K } := by
  intro a w e s
  refine wp_mono (h a w e s) ?_
  intro e a w q
  cases e <;> first | exact h2 a w q | exact q
theorem TC.cond {o : Operand} {b : Bool} (ho : opv E o = some (.bool b)) (ht : b = true → TC P N B x E L X) (hf : b = false → TC P N B y E L X) : TC P N B (.cond o x y) E L X :=
  fun a w e s => wp_cond_split (e.eval ho) (fun h => ht h a w e s) (fun h => hf h a w e s)
theorem TC.block {id : Nat} (h : TC P N B c E L { X with ex := (id, X.nrm) :: X.ex }) : TC P N B (.block id c) E L X := by
  intro a w e s
  refine wp_block (wp_mono (h a w e s) ?_)
  intro ex a w q
  cases ex with
  | exit id' =>
    obtain ⟨M, hM, m⟩ := q
    simp only [Exit.inBlock]
    simp only [lkx] at hM
    by_cases hid : id' = id
    · subst hid
      simp at hM
      subst hM
      rw [if_pos rfl]
      exact m
    · rw [if_neg hid]
      have : Nat.beq id' id = false := by cases x : Nat.beq id' id with | false => rfl | true => exact absurd (Nat.eq_of_beq_eq_true x) hid
      rw [this] at hM
      exact ⟨M, by simpa using hM, m⟩
  | normal => exact q
  | ret => exact q
  | goto l => exact q
  | panic ch => exact q
  | outgrown => exact q
theorem TC.region {id : Nat} {l : List Oper} (h : TO P N B l.toArray l E L X.nrm) : TC P N B (.region id l.toArray false) E L X := by
  intro a w e s
  refine wp_region_lit ?_
  have := h a w e s
  exact wpList_monoX (fun a w h => h) l a w this
theorem TC.region_tail {id : Nat} {l : List Oper} (n : Nat) (hm : P.follows .mixedOrders = true) (hB : Region.lexTailB .any l.toArray n = true)
    (h : TS P N B l.toArray (l.take n) E L (fun a w => wpList P l.toArray (fun e a w => e = .normal ∧ X.nrm a w) (l.drop n) a w)) : TC P N B (.region id l.toArray true) E L X := by
  intro a w e s
  refine wp_region_still_tail n hm hB ?_
  have := h a _ e s.drew
  refine wpStill_mono (fun a h => ?_) _ a this
  exact wpList_monoX (fun a w h => h) _ a _ h
theorem TC.region_still {id : Nat} {l : List Oper} (hm : P.follows .mixedOrders = true) (hB : Region.lexB .any l.toArray = true)
    (h : TS P N B l.toArray l E L X.nrm) : TC P N B (.region id l.toArray true) E L X := by
  intro a w e s
  exact wp_region_still_lit hm hB (wpStill_mono (fun a h => h) _ a (h a _ e s.drew))
theorem TC.region_quiet {id : Nat} {l : List Oper} (hm : P.follows .mixedOrders = true) (hB : Region.lexB .any l.toArray = true)
    (h : TQ P N B l.toArray L l E (fun a => ∀ w, St B L w → X.nrm a w)) : TC P N B (.region id l.toArray true) E L X := by
  intro a w e s
  refine wp_region_quiet (C := St B L) hm hB s.drew ?_
  simpa [Post.q] using h a e
end

/-! Loops. -/
inductive Ctl (σ β ρ : Type) where
  | nxt (s : σ)
  | brk (b : β)
  | ret (r : ρ)
/-- What follows a loop. -/
@[reducible] def Ctl.on {σ β ρ ω : Type} (o : Ctl σ β ρ) (f : β → Option ω) (g : ρ → Option ω) : Option ω := match o with
  | .brk b => f b
  | .ret r => g r
  | .nxt _ => none

def iterM {σ β ρ : Type} (body : σ → Option (Ctl σ β ρ)) : Nat → σ → Option (Ctl σ β ρ)
  | 0, _ => none
  | n + 1, s => match body s with
    | some (.nxt s') => iterM body n s'
    | r => r
theorem iterM_more {σ β ρ : Type} (body : σ → Option (Ctl σ β ρ)) : ∀ (n : Nat) (s : σ) (c : Ctl σ β ρ), iterM body n s = some c → iterM body (n + 1) s = some c
  | 0, _, _, h => by simp [iterM] at h
  | n + 1, s, c, h => by
    rw [iterM] at h ⊢
    cases x : body s with
    | none => rw [x] at h; cases h
    | some d =>
      cases d with
      | nxt s' => rw [x] at h; exact iterM_more body n s' c h
      | brk s' => rw [x] at h; exact h
      | ret r => rw [x] at h; exact h
theorem iterM_add {σ β ρ : Type} (body : σ → Option (Ctl σ β ρ)) (n : Nat) (s : σ) (c : Ctl σ β ρ) (h : iterM body n s = some c) : ∀ k, iterM body (n + k) s = some c
  | 0 => h
  | k + 1 => iterM_more body (n + k) s c (iterM_add body n s c h k)
theorem iterM_one {σ β ρ : Type} (body : σ → Option (Ctl σ β ρ)) {n m : Nat} {s : σ} {c d : Ctl σ β ρ} (h : iterM body n s = some c) (k : iterM body m s = some d) : c = d := by
  rcases Nat.le_total n m with x | x
  · obtain ⟨j, rfl⟩ := Nat.exists_eq_add_of_le x
    rw [iterM_add body n s c h j] at k; exact Option.some.inj k
  · obtain ⟨j, rfl⟩ := Nat.exists_eq_add_of_le x
    rw [iterM_add body m s d k j] at h; exact (Option.some.inj h).symm

open Classical in
/-- 'for': the body again and again, till it leaves the loop; none, if it never does or if a round fails. -/
noncomputable def whileM {σ β ρ : Type} (body : σ → Option (Ctl σ β ρ)) (s : σ) : Option (Ctl σ β ρ) :=
  if h : ∃ n c, iterM body n s = some c then some (Classical.choose (Classical.choose_spec h)) else none
theorem whileM_iter {σ β ρ : Type} {body : σ → Option (Ctl σ β ρ)} {s : σ} {c : Ctl σ β ρ} : whileM body s = some c ↔ ∃ n, iterM body n s = some c := by
  unfold whileM
  constructor
  · intro h
    split at h
    · rename_i hx
      refine ⟨Classical.choose hx, ?_⟩
      rw [← Option.some.inj h]
      exact Classical.choose_spec (Classical.choose_spec hx)
    · cases h
  · rintro ⟨n, h⟩
    have hx : ∃ n c, iterM body n s = some c := ⟨n, c, h⟩
    rw [dif_pos hx]
    exact congrArg some (iterM_one body (Classical.choose_spec (Classical.choose_spec hx)) h)
theorem whileM_nxt {σ β ρ : Type} {body : σ → Option (Ctl σ β ρ)} {s s' : σ} (h : body s = some (.nxt s')) : whileM body s = whileM body s' := by
  have key : ∀ c, whileM body s = some c ↔ whileM body s' = some c := by
    intro c
    rw [whileM_iter, whileM_iter]
    constructor
    · rintro ⟨n, hn⟩
      cases n with
      | zero => simp [iterM] at hn
      | succ n => rw [iterM, h] at hn; exact ⟨n, hn⟩
    · rintro ⟨n, hn⟩; exact ⟨n + 1, by rw [iterM, h]; exact hn⟩
  cases x : whileM body s' with
  | none =>
    cases y : whileM body s with
    | none => rfl
    | some c => rw [(key c).1 y] at x; cases x
  | some c => exact (key c).2 x
theorem whileM_brk {σ β ρ : Type} {body : σ → Option (Ctl σ β ρ)} {s : σ} {s' : β} (h : body s = some (.brk s')) : whileM body s = some (.brk s') :=
  whileM_iter.2 ⟨1, by rw [iterM, h]⟩
theorem whileM_ret {σ β ρ : Type} {body : σ → Option (Ctl σ β ρ)} {s : σ} {r : ρ} (h : body s = some (.ret r)) : whileM body s = some (.ret r) :=
  whileM_iter.2 ⟨1, by rw [iterM, h]⟩
theorem whileM_not_nxt {σ β ρ : Type} {body : σ → Option (Ctl σ β ρ)} {s s' : σ} (h : whileM body s = some (.nxt s')) : False := by
  obtain ⟨n, hn⟩ := whileM_iter.1 h
  revert s
  induction n with
  | zero => intro s _ hn; simp [iterM] at hn
  | succ n ih =>
    intro s _ hn
    rw [iterM] at hn
    cases x : body s with
    | none => rw [x] at hn; cases hn
    | some d =>
      cases d with
      | nxt s1 => rw [x] at hn; exact ih (whileM_iter.2 ⟨n, hn⟩) hn
      | brk s1 => rw [x] at hn; cases hn
      | ret r => rw [x] at hn; cases hn

section
variable {P : Program} {N : Nat} {B : World}
/-- What a round of a loop must come to: the next round; out of the loop's block; out of the function. -/
@[reducible] def loopPost {σ β ρ : Type} (id : Nat) (Pre : σ → Act → World → Prop) (Aft : β → Act → World → Prop) (Ret : ρ → Act → World → Prop) : Ctl σ β ρ → Post
  | .nxt s => { nrm := Pre s, ret := fun _ _ => False, ex := [] }
  | .brk s => { nrm := fun _ _ => False, ret := fun _ _ => False, ex := [(id, Aft s)] }
  | .ret r => { nrm := fun _ _ => False, ret := Ret r, ex := [] }

theorem wp_loopM {σ β ρ : Type} {id : Nat} {c : Code} (body : σ → Option (Ctl σ β ρ)) (Pre : σ → Act → World → Prop) (Aft : β → Act → World → Prop) (Ret : ρ → Act → World → Prop)
    (hb : ∀ s o, body s = some o → ∀ a w, Pre s a w → c.wp P (loopPost id Pre Aft Ret o).q a w) :
    ∀ (n : Nat) (s : σ) (o : Ctl σ β ρ), iterM body n s = some o → ∀ a w, Pre s a w → (Code.loop c).wp P (loopPost id Pre Aft Ret o).q a w := by
  intro n s o hn a w hp
  refine wp_loop_rounds n ?_
  revert s a w
  induction n with
  | zero => intro s hn; simp [iterM] at hn
  | succ n ih =>
    intro s hn a w hp
    rw [rounds_succ]
    rw [iterM] at hn
    cases x : body s with
    | none => rw [x] at hn; cases hn
    | some d =>
      cases d with
      | nxt s' =>
        rw [x] at hn
        refine wp_mono (hb s _ x a w hp) ?_
        intro e a w q
        cases e with
        | normal => exact ih s' hn a w q
        | exit i => obtain ⟨M, hM, _⟩ := q; simp [loopPost, lkx] at hM
        | ret => exact q.elim
        | goto l => exact q.elim
        | panic c => exact q.elim
        | outgrown => exact q.elim
      | brk s' =>
        rw [x] at hn
        obtain rfl := Option.some.inj hn
        refine wp_mono (hb s _ x a w hp) ?_
        intro e a w q
        cases e with
        | normal => exact q.elim
        | exit i => exact q
        | ret => exact q
        | goto l => exact q
        | panic c => exact q
        | outgrown => exact q
      | ret r =>
        rw [x] at hn
        obtain rfl := Option.some.inj hn
        refine wp_mono (hb s _ x a w hp) ?_
        intro e a w q
        cases e with
        | normal => exact q.elim
        | exit i => exact q
        | ret => exact q
        | goto l => exact q
        | panic c => exact q
        | outgrown => exact q

variable {E : Env} {L : List HP} {X : Post}
/-- A loop in its block. -/
theorem TC.loop {σ β ρ : Type} {id : Nat} {c : Code} {body : σ → Option (Ctl σ β ρ)} {s : σ} {o : Ctl σ β ρ} (hm : whileM body s = some o) (Pre : σ → Act → World → Prop) (Aft : β → Act → World → Prop) (Ret : ρ → Act → World → Prop)
    (hb : ∀ s o, body s = some o → ∀ a w, Pre s a w → c.wp P (loopPost id Pre Aft Ret o).q a w)
    (h0 : ∀ a w, EnvOk N E a → St B L w → Pre s a w) (hbrk : ∀ b, o = .brk b → ∀ a w, Aft b a w → X.nrm a w) (hret : ∀ r, o = .ret r → ∀ a w, Ret r a w → X.ret a w) : TC P N B (.block id (.loop c)) E L X := by
  obtain ⟨n, hn⟩ := whileM_iter.1 hm
  refine TC.block fun a w e st => wp_mono (wp_loopM body Pre Aft Ret hb n s _ hn a w (h0 a w e st)) ?_
  intro e a w q
  cases o with
  | nxt s' => exact (whileM_not_nxt hm).elim
  | brk s' =>
    cases e with
    | normal => exact q.elim
    | exit i =>
      obtain ⟨M, hM, m⟩ := q
      simp only [loopPost, lkx] at hM
      cases hi : Nat.beq i id with
      | false => rw [hi] at hM; cases hM
      | true => rw [hi] at hM; simp at hM; subst hM; exact ⟨_, by simp [lkx, hi], hbrk s' rfl a w m⟩
    | ret => exact q.elim
    | goto l => exact q.elim
    | panic c => exact q.elim
    | outgrown => exact q.elim
  | ret r =>
    cases e with
    | normal => exact q.elim
    | exit i => obtain ⟨M, hM, m⟩ := q; simp [loopPost, lkx] at hM
    | ret => exact hret r rfl a w q
    | goto l => exact q.elim
    | panic c => exact q.elim
    | outgrown => exact q.elim

/-! Calls. -/
def argsEnv : List Value → Nat → Env
  | [], _ => []
  | v :: l, i => (i, v) :: argsEnv l (i + 1)
theorem lk_argsEnv : ∀ (l : List Value) (k i : Nat) (v : Value), lk (argsEnv l k) i = some v → k ≤ i ∧ l[i - k]? = some v
  | [], _, _, _, h => by simp [argsEnv, lk] at h
  | u :: l, k, i, v, h => by
    simp only [argsEnv, lk] at h
    cases x : Nat.beq i k with
    | true => rw [x] at h; simp at h; subst h; have := Nat.eq_of_beq_eq_true x; subst this; simp
    | false =>
      rw [x] at h
      obtain ⟨h1, h2⟩ := lk_argsEnv l (k + 1) i v (by simpa using h)
      refine ⟨by omega, ?_⟩
      rw [show i - k = (i - (k + 1)) + 1 by omega]
      simpa using h2

/-- What stands at a function's end: its results. -/
@[irreducible] def FRet (P : Program) (fn : Func) (R : Ending → World → Prop) (a : Act) (w : World) : Prop := bodyPost P fn R .ret a w
theorem FRet.eq {fn : Func} {R : Ending → World → Prop} {a : Act} {w : World} : FRet P fn R a w = bodyPost P fn R .ret a w := by unfold FRet; rfl
theorem EnvOk.getD {a : Act} (e : EnvOk N E a) {t : Nat} {v : Value} (h : lk E t = some v) : a.tmps.getD t undef = v := by simp [e.env t v h]
theorem FRet.mk0 {fn : Func} {a : Act} {w : World} {R : Ending → World → Prop} (e : EnvOk N E a) (hrs : fn.results = #[]) (hR : R (.returned (.tuple #[])) w) : FRet P fn R a w := by
  rw [FRet.eq]; exact ⟨e.defers, _, results_none hrs _ _ _, hR⟩
theorem FRet.mk1 {fn : Func} {a : Act} {w : World} {R : Ending → World → Prop} (e : EnvOk N E a) {t : Tmp} (hrs : fn.results = #[.tmp t]) {v : Value} (hv : lk E t = some v) (hR : R (.returned v) w) : FRet P fn R a w := by
  rw [FRet.eq]; exact ⟨e.defers, _, by rw [results_tmp hrs, e.getD hv], hR⟩
theorem FRet.mk2 {fn : Func} {a : Act} {w : World} {R : Ending → World → Prop} (e : EnvOk N E a) {t u : Tmp} (hrs : fn.results = #[.tmp t, .tmp u]) {v x : Value} (hv : lk E t = some v) (hx : lk E u = some x)
    (hR : R (.returned (.tuple #[v, x])) w) : FRet P fn R a w := by
  rw [FRet.eq]; exact ⟨e.defers, _, by rw [results_tmp2 hrs, e.getD hv, e.getD hx], hR⟩
theorem FRet.mk3 {fn : Func} {a : Act} {w : World} {R : Ending → World → Prop} (e : EnvOk N E a) {t u s : Tmp} (hrs : fn.results = #[.tmp t, .tmp u, .tmp s]) {v x y : Value} (hv : lk E t = some v) (hx : lk E u = some x)
    (hy : lk E s = some y) (hR : R (.returned (.tuple #[v, x, y])) w) : FRet P fn R a w := by
  rw [FRet.eq]
  refine ⟨e.defers, .tuple #[a.tmps.getD t undef, a.tmps.getD u undef, a.tmps.getD s undef], by simp [results, hrs], ?_⟩
  rw [e.getD hv, e.getD hx, e.getD hy]
  exact hR

theorem calls_of {f : FuncId} {fn : Func} {c : Code} {args : List Value} {w : World} {R : Ending → World → Prop}
    (hf : P.funcs[f]? = some fn) (hb : fn.body = some c) (hn : fn.ntmps = N) (hsz : Nat.ble args.length N = true)
    (h : TC P N B c (argsEnv args 0) L { nrm := FRet P fn R, ret := FRet P fn R, ex := [] }) (s : St B L w) : Calls P f args.toArray w R := by
  have hsz' : args.length ≤ N := by simpa [Nat.ble_eq] using hsz
  refine calls_of_wp hf hb ?_
  refine wp_mono (h _ w ⟨?_, rfl, ?_⟩ s) ?_
  · simp [hn]; omega
  · intro i v hv
    obtain ⟨_, hv⟩ := lk_argsEnv args 0 i v hv
    have hi : i < args.length := by
      rcases Nat.lt_or_ge i args.length with x | x
      · exact x
      · rw [List.getElem?_eq_none (by simpa using x)] at hv; cases hv
    simp only [Nat.sub_zero] at hv
    simp [Array.getElem?_append, hi] at hv ⊢
    exact hv
  · intro e a w q
    cases e with
    | normal => simp only [Post.q, FRet.eq] at q; exact q
    | ret => simp only [Post.q, FRet.eq] at q; exact q
    | exit i => obtain ⟨M, hM, _⟩ := q; cases hM
    | goto l => exact q.elim
    | panic c => exact q.elim
    | outgrown => exact q.elim
end
end Go.Bk
