/-
  Maps whose values are slices: the map, and what it owns. Nothing of any program stands here.
-/
import Derived.Test.YtgofkfhkolkfmaaBk29
namespace Go.Bk
open Go
set_option linter.unusedVariables false
set_option linter.unusedSimpArgs false

section
variable {κ α : Type} {kf : κ → Value} {e sz : Nat} {f : α → List Value} {r : Nat} {hd : κ → Value} {m : κ → Option (List α)} {L : List HP}
/-- The headers in the map. -/
def mhs (hd : κ → Value) (m : κ → Option (List α)) : κ → Option Value := fun k => (m k).map fun _ => hd k
/-- What a look at a key gives. -/
def mhd (hd : κ → Value) (m : κ → Option (List α)) (k : κ) : Value := (mhs hd m k).getD nilv
def mrows (e sz : Nat) (f : α → List Value) (hd : κ → Value) (p : List (κ × List α)) : List HP := p.map fun x => OwnS e sz (hd x.1) (x.2.map f)
def MS (kf : κ → Value) (e sz : Nat) (f : α → List Value) (r : Nat) (hd : κ → Value) (m : κ → Option (List α)) : HP := fun h =>
  ∃ p : List (κ × List α), Enum m p ∧ Stars (MF kf (fun v : Value => v) r (mhs hd m) :: mrows e sz f hd p) h
theorem MS.flat {h : PH} (s : Sat (MS kf e sz f r hd m :: L) h) : ∃ p, Enum m p ∧ Sat (MF kf (fun v : Value => v) r (mhs hd m) :: (mrows e sz f hd p ++ L)) h := by
  obtain ⟨k1, k2, d, s1, s2, ⟨p, hp, a⟩, q⟩ := s
  exact ⟨p, hp, Sat.flat (M := MF kf (fun v : Value => v) r (mhs hd m) :: mrows e sz f hd p) ⟨k1, k2, d, s1, s2, a, q⟩⟩
theorem MS.bag {h : PH} {p : List (κ × List α)} (hp : Enum m p) (s : Sat (MF kf (fun v : Value => v) r (mhs hd m) :: (mrows e sz f hd p ++ L)) h) : Sat (MS kf e sz f r hd m :: L) h := by
  obtain ⟨k1, k2, d, s1, s2, a, q⟩ := Sat.bag (M := MF kf (fun v : Value => v) r (mhs hd m) :: mrows e sz f hd p) s
  exact ⟨k1, k2, d, s1, s2, ⟨p, hp, a⟩, q⟩
theorem MS.mf (en : Ent L (MS kf e sz f r hd m)) : Ent L (MF kf (fun v : Value => v) r (mhs hd m)) := en.imp fun h ⟨p, hp, k1, k2, d, s1, s2, a, _⟩ => ⟨k1, s1, a⟩
theorem mrows_get {p : List (κ × List α)} {i : Nat} {k : κ} {l : List α} (h : p[i]? = some (k, l)) : (mrows e sz f hd p)[i]? = some (OwnS e sz (hd k) (l.map f)) := by simp [mrows, h]
theorem MS.own {k : κ} {l : List α} (en : Ent L (MS kf e sz f r hd m)) (hk : m k = some l) : Ent L (OwnS e sz (hd k) (l.map f)) := en.imp fun h ⟨p, hp, s⟩ => by
  obtain ⟨i, hi⟩ := List.mem_iff_getElem?.1 ((hp.2 k l).2 hk)
  exact Ent.at (A := OwnS e sz (hd k) (l.map f)) (i + 1) (by rw [List.getElem?_cons_succ]; exact mrows_get hi) h s
/-- What stands at a key may be read. -/
theorem MS.row {k : κ} (en : Ent L (MS kf e sz f r hd m)) : Ent L (Rd sz (mhd hd m k) (((m k).getD []).map f)) := by
  unfold mhd mhs
  cases hk : m k with
  | none => exact Ent.nil
  | some l => show Ent L (Rd sz (hd k) (l.map f)); exact OwnS.rd (MS.own en hk)
theorem mhs_zero : mhs hd (mzero : κ → Option (List α)) = mzero := rfl
theorem Sat.mkMS {h : PH} (s : Sat (MF kf (fun v : Value => v) r (mzero : κ → Option Value) :: L) h) : Sat (MS kf e sz f r hd (mzero : κ → Option (List α)) :: L) h :=
  MS.bag Enum.zero s
end
section
variable {κ α : Type} [DecidableEq κ] {kf : κ → Value} {e sz : Nat} {f : α → List Value} {r : Nat} {hd : κ → Value} {m : κ → Option (List α)} {L : List HP}
/-- One of which what stands at a key is out. -/
def MSh (kf : κ → Value) (e sz : Nat) (f : α → List Value) (r : Nat) (hd : κ → Value) (m : κ → Option (List α)) (k : κ) : HP := fun h =>
  ∃ p : List (κ × List α), Enum (mdel m k) p ∧ Stars (MF kf (fun v : Value => v) r (mhs hd m) :: mrows e sz f hd p) h
theorem MSh.flat {h : PH} {k : κ} (s : Sat (MSh kf e sz f r hd m k :: L) h) : ∃ p, Enum (mdel m k) p ∧ Sat (MF kf (fun v : Value => v) r (mhs hd m) :: (mrows e sz f hd p ++ L)) h := by
  obtain ⟨k1, k2, d, s1, s2, ⟨p, hp, a⟩, q⟩ := s
  exact ⟨p, hp, Sat.flat (M := MF kf (fun v : Value => v) r (mhs hd m) :: mrows e sz f hd p) ⟨k1, k2, d, s1, s2, a, q⟩⟩
theorem MSh.mf {k : κ} (en : Ent L (MSh kf e sz f r hd m k)) : Ent L (MF kf (fun v : Value => v) r (mhs hd m)) := en.imp fun h ⟨p, hp, k1, k2, d, s1, s2, a, _⟩ => ⟨k1, s1, a⟩
theorem Enum.at_del {m : κ → Option (List α)} {p q : List (κ × List α)} {k : κ} {l : List α} (h : Enum m (p ++ (k, l) :: q)) : Enum (mdel m k) (p ++ q) := by
  have h1 := h.1
  rw [List.map_append, List.map_cons] at h1
  have h2 : k ∉ (p ++ q).map (·.1) := by
    rw [List.map_append, List.mem_append]
    have := (List.perm_middle.nodup_iff).1 h1
    rw [List.nodup_cons, List.mem_append] at this
    exact this.1
  refine ⟨?_, fun j w => ?_⟩
  · have := (List.perm_middle.nodup_iff).1 h1
    rw [List.nodup_cons] at this
    rw [List.map_append]; exact this.2
  · unfold mdel
    have hm := h.2 j w
    by_cases c : j = k
    · subst c
      rw [if_pos rfl]
      constructor
      · intro hx; exact absurd (List.mem_map.2 ⟨_, hx, rfl⟩) h2
      · intro hx; cases hx
    · rw [if_neg c, ← hm]
      simp [c]
/-- What stands at a key is taken out. -/
theorem Sat.openMS {h : PH} (k : κ) (s : Sat (MS kf e sz f r hd m :: L) h) : Sat (OwnS e sz (mhd hd m k) (((m k).getD []).map f) :: MSh kf e sz f r hd m k :: L) h := by
  obtain ⟨p, hp, s⟩ := MS.flat s
  unfold mhd mhs
  cases hk : m k with
  | none =>
    have hd0 : mdel m k = m := by
      funext j; unfold mdel
      by_cases c : j = k
      · subst c; rw [if_pos rfl, hk]
      · rw [if_neg c]
    refine Sat.nilS (f := f) ?_
    obtain ⟨k1, k2, d, s1, s2, a, q⟩ := Sat.bag (M := MF kf (fun v : Value => v) r (mhs hd m) :: mrows e sz f hd p) s
    exact ⟨k1, k2, d, s1, s2, ⟨p, by rw [hd0]; exact hp, a⟩, q⟩
  | some l =>
    obtain ⟨p1, p2, rfl⟩ := List.append_of_mem ((hp.2 k l).2 hk)
    have hp' := hp.at_del
    have hr : mrows e sz f hd (p1 ++ (k, l) :: p2) ++ L = mrows e sz f hd p1 ++ OwnS e sz (hd k) (l.map f) :: (mrows e sz f hd p2 ++ L) := by simp [mrows]
    rw [hr, ← List.cons_append] at s
    have hf := Sat.front (A := OwnS e sz (hd k) (l.map f)) (MF kf (fun v : Value => v) r (mhs hd m) :: mrows e sz f hd p1).length (by simp) s
    rw [List.eraseIdx_append_of_length_le (Nat.le_refl _)] at hf
    simp only [Nat.sub_self, List.eraseIdx_cons_zero] at hf
    obtain ⟨g1, g2, d', t1, t2, a', q'⟩ := hf
    refine ⟨g1, g2, d', t1, t2, a', ?_⟩
    have q2 : Sat ((MF kf (fun v : Value => v) r (mhs hd m) :: mrows e sz f hd (p1 ++ p2)) ++ L) g2 := by
      have : (MF kf (fun v : Value => v) r (mhs hd m) :: mrows e sz f hd (p1 ++ p2)) ++ L = (MF kf (fun v : Value => v) r (mhs hd m) :: mrows e sz f hd p1) ++ (mrows e sz f hd p2 ++ L) := by simp [mrows]
      rw [this]; exact q'
    obtain ⟨k1, k2, d, s1, s2, a, q⟩ := Sat.bag q2
    exact ⟨k1, k2, d, s1, s2, ⟨p1 ++ p2, hp', a⟩, q⟩
end

section
variable {P : Program} {N : Nat} {B : World} {E : Env} {L : List HP} {ops : Array Oper} {rest : List Oper} {Q : Act → World → Prop}
variable {d : Nat} {dd : Option Tmp} {ty : TypeId} {ps : String} {af : Array Edge} {gd : Option (Nat × Bool)}
variable {κ α : Type} [DecidableEq κ] {kf : κ → Value} {e sz : Nat} {f : α → List Value} {r : Nat} {hd : κ → Value} {m : κ → Option (List α)}
omit [DecidableEq κ] in
theorem TO.mkMS {t : TypeId} (hdt : Nat.blt d N = true) (h : ∀ r hd, TO P N B ops rest ((d, .map (some r)) :: E) (MS kf e sz f r hd (mzero : κ → Option (List α)) :: L) Q) : TO P N B ops (⟨some d, .makeMap t none, ty, ps, af, none⟩ :: rest) E L Q :=
  TO.mkMF (kf := kf) (vf := fun v : Value => v) hdt fun r => TO.ghost (fun _ s => Sat.mkMS s) (h r fun _ => nilv)
theorem StepS.lookMS {t ke te : Nat} {x y : Operand} {k : κ} (ht : mapGB P t ke te = true) (hK : KeyOk P ke kf) (hz : (P.info? te).bind (·.zero) = some (.slice none 0 0)) (hx : opv E x = some (.map (some r))) (en : Ent L (MS kf e sz f r hd m)) (hy : opv E y = some (kf k)) :
    StepS P N B ⟨dd, .lookup t x y false, ty, ps, af, gd⟩ E L (mhd hd m k) := by
  refine StepS.lookF (z := nilv) ht hK hz hx (MS.mf en) hy ?_
  unfold mhd
  cases mhs hd m k <;> rfl
theorem Enum.add {m : κ → Option (List α)} {p : List (κ × List α)} {k : κ} {l : List α} (h : Enum (mdel m k) p) : Enum (mupd m k l) (p ++ [(k, l)]) ∧ ∀ x ∈ p, x.1 ≠ k := by
  have hne : ∀ x ∈ p, x.1 ≠ k := fun x hx e => by
    have := (h.2 x.1 x.2).1 hx
    unfold mdel at this
    rw [if_pos e] at this; cases this
  refine ⟨⟨?_, fun j w => ?_⟩, hne⟩
  · rw [List.map_append, List.nodup_append]
    refine ⟨h.1, by simp, fun a ha b hb e => ?_⟩
    simp at hb; subst hb; subst e
    obtain ⟨x, hx, rfl⟩ := List.mem_map.1 ha
    exact hne x hx rfl
  · have hm := h.2 j w
    unfold mdel at hm
    unfold mupd
    rw [List.mem_append, hm]
    by_cases c : j = k
    · subst c; simp [eq_comm]
    · simp [c]
theorem Sat.updMS {g : PH} {k : κ} {v : Value} {ys : List α} {p : List (κ × List α)} (hp : Enum (mdel m k) p) (s : Sat (MF kf (fun v : Value => v) r (mupd (mhs hd m) k v) :: (mrows e sz f hd p ++ OwnS e sz v (ys.map f) :: L)) g) :
    Sat (MS kf e sz f r (fun j => if j = k then v else hd j) (mupd m k ys) :: L) g := by
  obtain ⟨h1, h2⟩ := Enum.add (l := ys) hp
  refine MS.bag h1 ?_
  have e1 : mhs (fun j => if j = k then v else hd j) (mupd m k ys) = mupd (mhs hd m) k v := by
    funext j; unfold mhs mupd
    by_cases c : j = k
    · simp [c]
    · simp [c]
  have e2 : mrows e sz f (fun j => if j = k then v else hd j) (p ++ [(k, ys)]) ++ L = mrows e sz f hd p ++ OwnS e sz v (ys.map f) :: L := by
    unfold mrows
    rw [List.map_append, List.append_assoc]
    congr 1
    · apply List.map_congr_left
      intro x hx
      simp [h2 x hx]
    · simp
  rw [e1, e2]; exact s
/-- m[k] = a slice that the call owns, where what stood there is out. -/
theorem TO.msetS {t ke te : Nat} {x y z : Operand} {k : κ} {v : Value} {ys : List α} (ht : mapGB P t ke te = true) (hK : KeyOk P ke kf) (hx : opv E x = some (.map (some r))) (hy : opv E y = some (kf k)) (hz : opv E z = some v)
    (h : ∀ hd', TO P N B ops rest E (MS kf e sz f r hd' (mupd m k ys) :: L) Q) : TO P N B ops (⟨none, .mapUpdate t x y z, ty, ps, af, none⟩ :: rest) E (MSh kf e sz f r hd m k :: OwnS e sz v (ys.map f) :: L) Q := by
  intro a w e' s
  obtain ⟨p, hp, s1⟩ := MSh.flat s.sat
  have key : TO P N B ops (⟨none, .mapUpdate t x y z, ty, ps, af, none⟩ :: rest) E (MF kf (fun v : Value => v) r (mhs hd m) :: (mrows e sz f hd p ++ OwnS e sz v (ys.map f) :: L)) Q := by
    refine TO.msetF (kf := kf) (vf := fun v : Value => v) (m := mhs hd m) (k := k) (v := v) 0 ht hK hx rfl hy hz ?_
    exact TO.ghost (fun g s => Sat.updMS hp s) (h _)
  exact key a w e' ⟨s.os, s.tape, s.output, s1⟩
/-! Going through. -/
set_option linter.unusedSectionVars false
def mq (hd : κ → Value) (q : List (κ × List α)) : List (κ × Value) := q.map fun x => (x.1, hd x.1)
def MSR (kf : κ → Value) (e sz : Nat) (f : α → List Value) (it r : Nat) (hd : κ → Value) (m : κ → Option (List α)) (q : List (κ × List α)) : HP := fun h =>
  (∀ x ∈ q, m x.1 = some x.2) ∧ ∃ p : List (κ × List α), Enum m p ∧ Stars (MFR kf (fun v : Value => v) it r (mhs hd m) (mq hd q) :: mrows e sz f hd p) h
theorem MSR.flat {g : PH} {it : Nat} {q : List (κ × List α)} (s : Sat (MSR kf e sz f it r hd m q :: L) g) : (∀ x ∈ q, m x.1 = some x.2) ∧ ∃ p, Enum m p ∧ Sat (MFR kf (fun v : Value => v) it r (mhs hd m) (mq hd q) :: (mrows e sz f hd p ++ L)) g := by
  obtain ⟨k1, k2, d, s1, s2, ⟨hq, p, hp, a⟩, q'⟩ := s
  exact ⟨hq, p, hp, Sat.flat (M := MFR kf (fun v : Value => v) it r (mhs hd m) (mq hd q) :: mrows e sz f hd p) ⟨k1, k2, d, s1, s2, a, q'⟩⟩
theorem MSR.bag {g : PH} {it : Nat} {q p : List (κ × List α)} (hq : ∀ x ∈ q, m x.1 = some x.2) (hp : Enum m p) (s : Sat (MFR kf (fun v : Value => v) it r (mhs hd m) (mq hd q) :: (mrows e sz f hd p ++ L)) g) : Sat (MSR kf e sz f it r hd m q :: L) g := by
  obtain ⟨k1, k2, d, s1, s2, a, q'⟩ := Sat.bag (M := MFR kf (fun v : Value => v) it r (mhs hd m) (mq hd q) :: mrows e sz f hd p) s
  exact ⟨k1, k2, d, s1, s2, ⟨hq, p, hp, a⟩, q'⟩
theorem Sat.unrangeMS {it : Nat} {q : List (κ × List α)} {g : PH} (s : Sat (MSR kf e sz f it r hd m q :: L) g) : Sat (MS kf e sz f r hd m :: L) g := by
  obtain ⟨_, p, hp, s1⟩ := MSR.flat s
  exact MS.bag hp (Sat.unrange s1)
theorem MSR.row {it : Nat} {q : List (κ × List α)} {k : κ} {l : List α} (en : Ent L (MSR kf e sz f it r hd m q)) (hk : m k = some l) : Ent L (Rd sz (hd k) (l.map f)) := OwnS.rd (e := e) (en.imp fun h ⟨_, p, hp, s⟩ => by
  obtain ⟨i, hi⟩ := List.mem_iff_getElem?.1 ((hp.2 k l).2 hk)
  exact Ent.at (A := OwnS e sz (hd k) (l.map f)) (i + 1) (by rw [List.getElem?_cons_succ]; exact mrows_get hi) h s)
theorem TO.rangeMS {t ke te : Nat} {x : Operand} (ht : mapGB P t ke te = true) (hx : opv E x = some (.map (some r))) (hdt : Nat.blt d N = true)
    (h : ∀ it, TO P N B ops rest ((d, .pointer (some ⟨it, 0, none⟩)) :: E) (MSR kf e sz f it r hd m [] :: L) Q) : TO P N B ops (⟨some d, .range t x, ty, ps, af, none⟩ :: rest) E (MS kf e sz f r hd m :: L) Q := by
  intro a w e' s
  obtain ⟨p, hp, s1⟩ := MS.flat s.sat
  have key : TO P N B ops (⟨some d, .range t x, ty, ps, af, none⟩ :: rest) E (MF kf (fun v : Value => v) r (mhs hd m) :: (mrows e sz f hd p ++ L)) Q := by
    refine TO.range (kf := kf) (vf := fun v : Value => v) ht hx hdt fun it => ?_
    exact TO.ghost (fun g s => MSR.bag (fun x hx => by cases hx) hp s) (h it)
  exact key a w e' ⟨s.os, s.tape, s.output, s1⟩
theorem TO.nextMS {it : Nat} {x : Operand} {q : List (κ × List α)} (hx : opv E x = some (.pointer (some ⟨it, 0, none⟩))) (hdt : Nat.blt d N = true)
    (h0 : (∀ k v, m k = some v → (k, v) ∈ q) → TO P N B ops rest ((d, .tuple #[.bool false]) :: E) (MSR kf e sz f it r hd m q :: L) Q)
    (h1 : ∀ k v, m k = some v → k ∉ q.map (·.1) → TO P N B ops rest ((d, .tuple #[.bool true, kf k, hd k]) :: E) (MSR kf e sz f it r hd m (q ++ [(k, v)]) :: L) Q) :
    TO P N B ops (⟨some d, .next x false, ty, ps, af, none⟩ :: rest) E (MSR kf e sz f it r hd m q :: L) Q := by
  intro a w e' s
  obtain ⟨hq, p, hp, s1⟩ := MSR.flat s.sat
  have key : TO P N B ops (⟨some d, .next x false, ty, ps, af, none⟩ :: rest) E (MFR kf (fun v : Value => v) it r (mhs hd m) (mq hd q) :: (mrows e sz f hd p ++ L)) Q := ?_
  exact key a w e' ⟨s.os, s.tape, s.output, s1⟩
  refine TO.next (kf := kf) (vf := fun v : Value => v) (m := mhs hd m) 0 hx rfl hdt (fun hall => ?_) (fun k v hk hn => ?_)
  · refine TO.ghost (fun g s => MSR.bag hq hp s) (h0 fun k v hk => ?_)
    have := hall k (hd k) (by simp [mhs, hk])
    obtain ⟨y, hy, hye⟩ := List.mem_map.1 this
    have hk2 : y.1 = k := congrArg Prod.fst hye
    have h3 := hq y hy
    rw [hk2, hk] at h3
    have : y = (k, v) := by rw [← hk2, Option.some.inj h3]
    rw [← this]; exact hy
  · unfold mhs at hk
    cases hm : m k with
    | none => rw [hm] at hk; cases hk
    | some l =>
      rw [hm] at hk
      obtain rfl := Option.some.inj hk
      have hn' : k ∉ q.map (·.1) := by
        unfold mq at hn
        rw [List.map_map] at hn
        exact hn
      refine TO.ghost (fun g s => MSR.bag (q := q ++ [(k, l)]) (fun x hx => ?_) hp ?_) (h1 k l hm hn')
      · rcases List.mem_append.1 hx with hx | hx
        · exact hq x hx
        · simp at hx; subst hx; exact hm
      · unfold mq; rw [List.map_append]; exact s
end
section
variable {P : Program} {N : Nat} {B : World} {E : Env} {L : List HP} {ops : Array Oper} {rest : List Oper} {Q : Act → World → Prop}
variable {d : Nat} {dd : Option Tmp} {ty : TypeId} {ps : String} {af : Array Edge} {gd : Option (Nat × Bool)}
/-- A call of a closure that turns what it captured. -/
theorem TO.callOC {k : Nat} (hk : callB P k = true) {f : Operand} {as : List Operand} {ts : Array TypeId} {vs : List Value} {fs cs al : Array Value} {R : Value → List HP → Prop} (hf : opv E f = some (.func (.func k) fs cs)) (ha : opvs E as = some vs) (hal : fs ++ vs.toArray ++ cs = al) (hd : Nat.blt d N = true)
    (hc : ∀ w, St B L w → Calls P k al w (fun e w' => ∃ v M, e = .returned v ∧ R v M ∧ St B M w')) (h : ∀ v M, R v M → TO P N B ops rest ((d, v) :: E) M Q) :
    TO P N B ops (⟨some d, .call ⟨.value f, as.toArray, ts⟩, ty, ps, af, none⟩ :: rest) E L Q :=
  TO.step rfl rfl hd (StepW.call hk hf ha hal hc) h
theorem TO.callOC0 {k : Nat} (hk : callB P k = true) {f : Operand} {as : List Operand} {ts : Array TypeId} {vs : List Value} {fs cs al : Array Value} {R : Value → List HP → Prop} (hf : opv E f = some (.func (.func k) fs cs)) (ha : opvs E as = some vs) (hal : fs ++ vs.toArray ++ cs = al)
    (hc : ∀ w, St B L w → Calls P k al w (fun e w' => ∃ v M, e = .returned v ∧ R v M ∧ St B M w')) (h : ∀ v M, R v M → TO P N B ops rest E M Q) :
    TO P N B ops (⟨none, .call ⟨.value f, as.toArray, ts⟩, ty, ps, af, none⟩ :: rest) E L Q :=
  TO.step0 rfl rfl (StepW.call hk hf ha hal hc) h
/-- append of a row that the call owns. -/
theorem TO.appSS {α : Type} {e ee sz bytes : Nat} {f : α → List Value} {v : Value} {hs : List Value} {xss zs : List (List α)} {t : Nat} {x y : Operand} {u hv : Value} {row : List α} {L0 : List HP} (hL : L0 = OwnS ee sz hv (row.map f) :: SS e ee sz f v hs xss :: L) (ht : elemB P t e 1 bytes = true) (hx : opv E x = some v)
    (hy : opv E y = some u) (en : Ent L (Rd 1 u [[hv]])) (hm : appl bytes xss [row] = some zs) {ts : Array TypeId} (hts : ts = #[t, t]) (hd : Nat.blt d N = true)
    (h : ∀ v' hs', TO P N B ops rest ((d, v') :: E) (SS e ee sz f v' hs' zs :: L) Q) : TO P N B ops (⟨some d, .call ⟨.builtin .append, #[x, y], ts⟩, ty, ps, af, none⟩ :: rest) E L0 Q := by
  subst hL
  obtain ⟨q1, q2, rfl⟩ := appl_spec hm
  refine TO.pure (φ := hv.oneCell' = true) (fun h s => ?_) fun h1 => ?_
  · obtain ⟨_, _, _, _, _, a, _⟩ := s; exact OwnS.one a
  refine TO.ghost (L' := SS e ee sz f v hs xss :: OwnS ee sz hv (row.map f) :: L) (fun h s => Sat.swap s) ?_
  refine TO.pure (φ := hs.length = xss.length) (fun h s => (SS.flat s).1) fun hlen => ?_
  refine TO.ghost (fun h s => (SS.flat s).2) ?_
  have en2 : Ent (OwnS e 1 v (hs.map hd1) :: (rows ee sz f hs xss ++ OwnS ee sz hv (row.map f) :: L)) (Rd 1 u (([hv]).map hd1)) := by
    refine Ent.tl ?_
    generalize rows ee sz f hs xss = M
    induction M with
    | nil => exact Ent.tl en
    | cons A M ih => exact Ent.tl ih
  refine TO.appM (k := 0) (f := hd1) (l := hs) (m := [hv]) (r := hs ++ [hv]) ht (by decide) hx rfl hy en2 ?_ ?_ hts hd fun v' => ?_
  · unfold appl
    rw [if_pos]
    rw [hlen]
    exact ⟨q1, q2⟩
  · intro a ha c' hc'
    simp at ha; subst ha
    simp [hd1] at hc'; subst hc'
    exact h1
  · refine TO.ghost (fun g s => ?_) (h v' (hs ++ [hv]))
    have e2 : rows ee sz f (hs ++ [hv]) (xss ++ [row]) = rows ee sz f hs xss ++ [OwnS ee sz hv (row.map f)] := by
      unfold rows; rw [List.zipWith_append hlen]; rfl
    refine SS.bag (by simp [hlen]) ?_
    rw [e2, List.append_assoc]
    exact s
/-- A slice of one header. -/
theorem TO.lit1H {t e bytes s0 : Nat} {x : Operand} {h0 : Value} {c0 : List (List Value)} (hx : opv E x = some h0) (e0 : Ent L (Rd s0 h0 c0)) (ht : elemB P t e 1 bytes = true) (hd : Nat.blt d N = true)
    (h : ∀ v, TO P N B ops rest ((d, v) :: E) (OwnS e 1 v ([()].map (fun (_ : Unit) => [h0])) :: L) Q) : TO P N B ops (⟨some d, .buildSlice t 1 #[(0, x)], ty, ps, af, none⟩ :: rest) E L Q := by
  obtain ⟨hu, i, z, hi, hz, hs, hb, hzs⟩ := elemB_spec ht
  refine TO.step (R := fun v L' => ∃ v0, v = v0 ∧ L' = OwnS e 1 v0 ([()].map (fun (_ : Unit) => [h0])) :: L) rfl rfl hd (StepW.of_run fun a w en s => ?_) (fun v L' ⟨v0, hv, hL⟩ => by subst hv; subst hL; exact h v)
  have q0 := Rd.cells s e0
  have hm : (Array.map (fun (i, x) => (i, a.eval x)) #[(0, x)]).toList = [(0, h0)] := by simp [en.eval hx]
  have hsz : ((Array.range (1 * i.size)).map (z.cells[· % z.cells.size]!)).size = 1 := by simp [hs]
  have hf : Instr.fill (fun j => some (j * i.size, i.size)) ((Array.range (1 * i.size)).map (z.cells[· % z.cells.size]!)) [(0, h0)] = some #[h0] := by
    generalize (Array.range (1 * i.size)).map (z.cells[· % z.cells.size]!) = arr at hsz
    rw [hs]
    obtain ⟨l⟩ := arr
    match l, hsz with
    | [u], _ => simp [Instr.fill, q0]
  have hr := run_buildSlice (P := P) w t e 1 (Array.map (fun (i, x) => (i, a.eval x)) #[(0, x)]) _ i z hu hi hz (by omega) (by omega) (by rw [hm]; exact hf)
  have hr' : (execOp a.eval ⟨some d, .buildSlice t 1 #[(0, x)], ty, ps, af, none⟩).run P w = .ok (.value (.slice (some ⟨w.heap.size, 0, none⟩) 1 1)) (w.alloc (.cells #[h0] e)) := by
    simp only [execOp, Sem.run_bind, hr, Result.andThen_ok, Sem.run_pure]
  refine ⟨_, _, _, hr', ⟨_, rfl, rfl⟩, s.new ?_⟩
  exact ⟨fun c hc => by simp at hc; subst hc; rfl, .inr ⟨w.heap.size, 0, 1, #[h0], rfl, Nat.le_refl _, by unfold maxLen; omega, put_same _ _ _, Nat.le_refl _, rfl⟩⟩
end
section
variable {P : Program} {N : Nat} {B : World} {E : Env} {L : List HP} {ops : Array Oper} {rest : List Oper} {Q : Act → World → Prop}
variable {d : Nat} {dd : Option Tmp} {ty : TypeId} {ps : String} {af : Array Edge} {gd : Option (Nat × Bool)}
variable {κ α : Type} [DecidableEq κ] {kf : κ → Value} {e sz : Nat} {f : α → List Value} {r : Nat} {hd : κ → Value} {m : κ → Option (List α)}
/-- One of which what stands at a key is out, and the key's stamp is known. -/
def MSs (kf : κ → Value) (e sz : Nat) (f : α → List Value) (r : Nat) (hd : κ → Value) (m : κ → Option (List α)) (k : κ) (b : Nat) : HP := fun h =>
  ∃ p : List (κ × List α), Enum (mdel m k) p ∧ Stars (MFS kf (fun v : Value => v) r (mupd (mhs hd m) k (mhd hd m k)) k b :: mrows e sz f hd p) h
theorem TO.mentS {t ke te : Nat} {x y : Operand} {k : κ} (ht : mapGB P t ke te = true) (hK : KeyOk P ke kf) (hz : (P.info? te).bind (·.zero) = some (.slice none 0 0)) (hx : opv E x = some (.map (some r))) (hy : opv E y = some (kf k)) (hdt : Nat.blt d N = true)
    (h : ∀ b : Nat, TO P N B ops rest ((d, .tuple #[mhd hd m k, I (b : Int)]) :: E) (OwnS e sz (mhd hd m k) (((m k).getD []).map f) :: MSs kf e sz f r hd m k b :: L) Q) : TO P N B ops (⟨some d, .mapEntry t x y, ty, ps, af, none⟩ :: rest) E (MS kf e sz f r hd m :: L) Q := by
  intro a w e' s
  have s2 := Sat.swap (Sat.openMS k s.sat)
  obtain ⟨p, hp, s1⟩ := MSh.flat s2
  have key : TO P N B ops (⟨some d, .mapEntry t x y, ty, ps, af, none⟩ :: rest) E (MF kf (fun v : Value => v) r (mhs hd m) :: (mrows e sz f hd p ++ OwnS e sz (mhd hd m k) (((m k).getD []).map f) :: L)) Q := by
    refine TO.ment (kf := kf) (vf := fun v : Value => v) (m := mhs hd m) (k := k) (z := nilv) 0 ht hK hz hx rfl hy hdt fun b => ?_
    refine TO.ghost (fun g s => ?_) (h b)
    refine Sat.swap ?_
    obtain ⟨k1, k2, d, t1, t2, a, q⟩ := Sat.bag (M := MFS kf (fun v : Value => v) r (mupd (mhs hd m) k (mhd hd m k)) k b :: mrows e sz f hd p) s
    exact ⟨k1, k2, d, t1, t2, ⟨p, hp, a⟩, q⟩
  exact key a w e' ⟨s.os, s.tape, s.output, s1⟩
theorem TO.mestS {t b : Nat} {x y z : Operand} {k : κ} {v : Value} {ys : List α} (hx : opv E x = some (.map (some r))) (hy : opv E y = some (I (b : Int))) (hz : opv E z = some v)
    (h : ∀ hd', TO P N B ops rest E (MS kf e sz f r hd' (mupd m k ys) :: L) Q) : TO P N B ops (⟨none, .entryStore t x y z, ty, ps, af, none⟩ :: rest) E (MSs kf e sz f r hd m k b :: OwnS e sz v (ys.map f) :: L) Q := by
  intro a w e' s
  obtain ⟨k1, k2, d, t1, t2, ⟨p, hp, ha⟩, q⟩ := s.sat
  have s1 := Sat.flat (M := MFS kf (fun v : Value => v) r (mupd (mhs hd m) k (mhd hd m k)) k b :: mrows e sz f hd p) ⟨k1, k2, d, t1, t2, ha, q⟩
  have key : TO P N B ops (⟨none, .entryStore t x y z, ty, ps, af, none⟩ :: rest) E (MFS kf (fun v : Value => v) r (mupd (mhs hd m) k (mhd hd m k)) k b :: (mrows e sz f hd p ++ OwnS e sz v (ys.map f) :: L)) Q := by
    refine TO.mest (kf := kf) (vf := fun v : Value => v) (k := k) (v := v) 0 hx rfl hy hz ?_
    rw [mupd_mupd]
    exact TO.ghost (fun g s => Sat.updMS hp s) (h _)
  exact key a w e' ⟨s.os, s.tape, s.output, s1⟩
theorem StepS.lookMSs {t ke te b : Nat} {x y : Operand} {k : κ} (ht : mapGB P t ke te = true) (hK : KeyOk P ke kf) (hz : (P.info? te).bind (·.zero) = some (.slice none 0 0)) (hx : opv E x = some (.map (some r))) (en : Ent L (MSs kf e sz f r hd m k b)) (hy : opv E y = some (kf k)) :
    StepS P N B ⟨dd, .lookup t x y false, ty, ps, af, gd⟩ E L (mhd hd m k) := by
  have en2 : Ent L (MF kf (fun v : Value => v) r (mupd (mhs hd m) k (mhd hd m k))) := en.imp fun h ⟨p, hp, k1, k2, d, s1, s2, ⟨l, c, v, hm, _, hh⟩, _⟩ => ⟨k1, s1, l, c, hm, hh⟩
  refine StepS.lookF (z := nilv) ht hK hz hx en2 hy ?_
  simp [mupd]
omit [DecidableEq κ] in
theorem StepS.entryMS {it : Nat} {x : Operand} {q : List (κ × List α)} {k : κ} {l : List α} (hx : opv E x = some (.pointer (some ⟨it, 0, none⟩))) (en : Ent L (MSR kf e sz f it r hd m (q ++ [(k, l)]))) :
    StepS P N B ⟨dd, .entry x, ty, ps, af, gd⟩ E L (.tuple #[kf k, hd k]) := by
  refine StepS.entryF (kf := kf) (vf := fun v : Value => v) (m := mhs hd m) (q := mq hd q) (r := r) hx (en.imp fun h ⟨_, p, _, k1, k2, d, s1, s2, a, _⟩ => ⟨k1, s1, ?_⟩)
  unfold mq at a ⊢
  rw [List.map_append] at a
  exact a
end

/-! Operations in any order: what is said of a set of those that came is said once. -/
section
variable {P : Program} {N : Nat} {B : World} {E : Env} {L : List HP} {ops : Array Oper} {Q : Act → World → Prop} {L0 : List HP} {n fuel : Nat} {listed : Array Bool}
theorem TA.lem {γ : Type} (fuel' : Nat) (listed' : Array Bool) (E' : γ → Env) (L' : γ → List HP) (h1 : ∀ g, TA P N B ops L0 n fuel' listed' (E' g) (L' g) Q) (h2 : (∀ g, TA P N B ops L0 n fuel' listed' (E' g) (L' g) Q) → TA P N B ops L0 n fuel listed E L Q) : TA P N B ops L0 n fuel listed E L Q := h2 h1
theorem TA.jump {γ : Type} {fuel' : Nat} {listed' : Array Bool} {E' : γ → Env} {L' : γ → List HP} (hS : ∀ g, TA P N B ops L0 n fuel' listed' (E' g) (L' g) Q) (g : γ) (hf : fuel = fuel') (hl : listed = listed') (he : allIn E (E' g)) (hL : ∀ h, Sat L h → Sat (L' g) h) : TA P N B ops L0 n fuel listed E L Q := by
  subst hf; subst hl
  exact fun a w e s => hS g a w (e.sub (lk_of_allIn he)) (s.mono hL)
end
section
variable {P : Program} {N : Nat} {B : World} {E : Env} {L : List HP} {ops : Array Oper} {rest : List Oper} {Q : Act → World → Prop}
variable {d : Nat} {ty : TypeId} {ps : String} {af : Array Edge}
theorem TO.mkSSg {α : Type} {e ee sz : Nat} {f : α → List Value} {t bytes : Nat} {x y : Operand} {n : Int} {l : List (List α)} (ht : elemB P t e 1 bytes = true) (hz : (P.info? e).bind (·.zero) = some (.slice none 0 0))
    (hx : opv E x = some (I n)) (hy : opv E y = some (I n)) (hm : mkl n bytes ([] : List α) = some l) (hd : Nat.blt d N = true)
    (h : ∀ v hs, TO P N B ops rest ((d, v) :: E) (SS e ee sz f v hs l :: L) Q) : TO P N B ops (⟨some d, .makeSlice t x y, ty, ps, af, none⟩ :: rest) E L Q :=
  TO.mkSS ht hz hx hy hm hd fun v => h v _
end
end Go.Bk
