/-
  Slices that nobody writes any more: many may hold them. Nothing of any program stands here.
-/
import Derived.Test.YtgofkfhkolkfmaaBk34
namespace Go.Bk
open Go
set_option linter.unusedVariables false
set_option linter.unusedSimpArgs false

section
variable {α : Type} {e sz : Nat} {f : α → List Value} {L : List HP}
/-- A store of slices that nobody writes. -/
def FZ (e sz : Nat) (f : α → List Value) (zs : List (Value × List α)) : HP := fun h => Sat (zs.map fun p => OwnS e sz p.1 (p.2.map f)) h
/-- It is in the store, or nil. -/
def InZ (zs : List (Value × List α)) (v : Value) (xs : List α) : Prop := (v, xs) ∈ zs ∨ (v = nilv ∧ xs = [])
theorem InZ.hd {zs : List (Value × List α)} {v : Value} {xs : List α} : InZ ((v, xs) :: zs) v xs := .inl (by simp)
theorem InZ.nil {zs : List (Value × List α)} : InZ zs nilv ([] : List α) := .inr ⟨rfl, rfl⟩
theorem InZ.tl {zs : List (Value × List α)} {v u : Value} {xs ys : List α} (h : InZ zs v xs) : InZ ((u, ys) :: zs) v xs := h.imp (fun h => by simp [h]) id
theorem FZ.rd {zs : List (Value × List α)} {v : Value} {xs : List α} (en : Ent L (FZ e sz f zs)) (hz : InZ zs v xs) : Ent L (Rd sz v (xs.map f)) := by
  rcases hz with hz | ⟨rfl, rfl⟩
  · obtain ⟨i, hi⟩ := List.mem_iff_getElem?.1 hz
    refine OwnS.rd (e := e) (en.imp fun h s => ?_)
    exact Ent.at (A := OwnS e sz v (xs.map f)) i (by simp [hi]) h s
  · exact Ent.nil
theorem Sat.freeze {h : PH} {zs : List (Value × List α)} {v : Value} {xs : List α} (s : Sat (OwnS e sz v (xs.map f) :: FZ e sz f zs :: L) h) : Sat (FZ e sz f ((v, xs) :: zs) :: L) h := by
  obtain ⟨h1, h2, d, s1, s2, a, r⟩ := s
  have r2 : Sat (zs.map (fun p => OwnS e sz p.1 (p.2.map f)) ++ L) h2 := Sat.spread r
  exact Sat.gather (M := ((v, xs) :: zs).map fun p => OwnS e sz p.1 (p.2.map f)) ⟨h1, h2, d, s1, s2, a, r2⟩
theorem Sat.nilZ {h : PH} (s : Sat L h) : Sat (FZ e sz f [] :: L) h := Sat.gather (M := []) s

/-- A slice of such slices. -/
def SF (e : Nat) (v : Value) (hs : List Value) (xss : List (List α)) (zs : List (Value × List α)) : HP := fun h =>
  (hs.length = xss.length ∧ ∀ (i : Nat) (hv : Value) (row : List α), hs[i]? = some hv → xss[i]? = some row → InZ zs hv row) ∧ OwnS e 1 v (hs.map hd1) h
variable {ee : Nat} {v : Value} {hs : List Value} {xss : List (List α)} {zs : List (Value × List α)}
theorem SF.own (en : Ent L (SF e v hs xss zs)) : Ent L (OwnS e 1 v (hs.map hd1)) := en.imp fun h ⟨_, o⟩ => ⟨h, Sub.refl h, o⟩
theorem SF.pure {h : PH} (en : Ent L (SF e v hs xss zs)) (s : Sat L h) : hs.length = xss.length ∧ ∀ (i : Nat) (hv : Value) (row : List α), hs[i]? = some hv → xss[i]? = some row → InZ zs hv row := by
  obtain ⟨_, _, p, _⟩ := en h s; exact p
theorem SF.rr (en : Ent L (SF e v hs xss zs)) (ez : Ent L (FZ ee sz f zs)) : Ent L (RR sz f v hs xss) := fun h s =>
  ⟨h, Sub.refl h, (SF.pure en s).1, (OwnS.rd (SF.own en)) h s, fun i hv row h1 h2 => FZ.rd ez ((SF.pure en s).2 i hv row h1 h2) h s⟩
theorem SF.grow {zs' : List (Value × List α)} (hz : ∀ v xs, InZ zs v xs → InZ zs' v xs) : ∀ g, SF e v hs xss zs g → SF e v hs xss zs' g := fun g ⟨⟨h1, h2⟩, o⟩ => ⟨⟨h1, fun i hv row a b => hz _ _ (h2 i hv row a b)⟩, o⟩
theorem SF.row {h : PH} {i : Int} {row : List α} (en : Ent L (SF e v hs xss zs)) (hx : idx xss i = some row) (s : Sat L h) : InZ zs (rowv hs i.toNat) row := by
  obtain ⟨hl, hp⟩ := SF.pure en s
  obtain ⟨_, q⟩ := idx_spec hx
  have hlt := (List.getElem?_eq_some_iff.1 q).1
  have hh : hs[i.toNat]? = some (hs[i.toNat]'(by omega)) := List.getElem?_eq_getElem _
  have hrv : rowv hs i.toNat = hs[i.toNat]'(by omega) := by unfold rowv; rw [hh]; rfl
  rw [hrv]; exact hp _ _ _ hh q
end

section
variable {P : Program} {N : Nat} {B : World} {E : Env} {L : List HP} {ops : Array Oper} {rest : List Oper} {Q : Act → World → Prop}
variable {d : Nat} {dd : Option Tmp} {ty : TypeId} {ps : String} {af : Array Edge} {gd : Option (Nat × Bool)}
variable {α : Type} {e ee sz : Nat} {f : α → List Value} {v : Value} {hs : List Value} {xss : List (List α)} {zs : List (Value × List α)}
theorem Sat.toSF {h : PH} {l : List (List α)} (hl : ∀ x ∈ l, x = []) (s : Sat (OwnS e 1 v ((l.map fun _ => nilv).map hd1) :: L) h) : Sat (SF e v (l.map fun _ => nilv) l zs :: L) h :=
  Sat.imp1 (fun g o => ⟨g, Sub.refl g, ⟨by simp, fun i hv row h1 h2 => by
    rw [List.getElem?_map] at h1
    cases q : l[i]? with
    | none => rw [q] at h1; cases h1
    | some x =>
      rw [q] at h1 h2
      obtain rfl := Option.some.inj h2
      have : nilv = hv := by simpa using h1
      rw [← this, hl x (List.mem_iff_getElem?.2 ⟨i, q⟩)]; exact InZ.nil⟩, o⟩) s
theorem TO.mkSF {t bytes : Nat} {x y : Operand} {n : Int} {l : List (List α)} (ht : elemB P t e 1 bytes = true) (hz : (P.info? e).bind (·.zero) = some (.slice none 0 0))
    (hx : opv E x = some (I n)) (hy : opv E y = some (I n)) (hm : mkl n bytes ([] : List α) = some l) (hd : Nat.blt d N = true)
    (h : ∀ v hs, TO P N B ops rest ((d, v) :: E) (SF e v hs l zs :: L) Q) : TO P N B ops (⟨some d, .makeSlice t x y, ty, ps, af, none⟩ :: rest) E L Q := by
  obtain ⟨h1, h2, h3, rfl⟩ := mkl_spec hm
  refine TO.mkS (f := hd1) (za := nilv) (l := (List.replicate n.toNat ([] : List α)).map fun _ => nilv) ht hz rfl (by decide) hx hy ?_ hd fun v => ?_
  · unfold mkl; rw [if_pos ⟨h1, h2, h3⟩]; simp
  · exact (TO.ghost fun _ s => Sat.toSF (fun x hx => (List.mem_replicate.1 hx).2) s) (h v _)
/-- t[i] = a slice of the store -/
theorem TO.stSF {t : Nat} {x y : Operand} {i : Int} {row xs : List α} {hv : Value} (hx : opv E x = some (ptr v (i.toNat * 1))) (hy : opv E y = some hv) (hr : idx xss i = some row) (hz : InZ zs hv xs) (h1 : hv.oneCell' = true ∧ hv.cells = #[hv]) (ht : sizeB P t 1 = true)
    (h : ∀ hs', TO P N B ops rest E (SF e v hs' (xss.set i.toNat xs) zs :: L) Q) : TO P N B ops (⟨none, .store t x y, ty, ps, af, none⟩ :: rest) E (SF e v hs xss zs :: L) Q := by
  refine TO.pure (φ := hs.length = xss.length ∧ ∀ (i : Nat) (hv : Value) (row : List α), hs[i]? = some hv → xss[i]? = some row → InZ zs hv row) (fun h s => SF.pure Ent.hd s) fun ⟨hl, hp⟩ => ?_
  refine TO.ghost (L' := OwnS e 1 v (hs.map hd1) :: L) (fun h s => Sat.imp1 (fun g ⟨_, o⟩ => ⟨g, Sub.refl g, o⟩) s) ?_
  obtain ⟨_, q⟩ := idx_spec hr
  have hlt := (List.getElem?_eq_some_iff.1 q).1
  have hh : hs[i.toNat]? = some (hs[i.toNat]'(by omega)) := List.getElem?_eq_getElem _
  refine TO.stO (f := hd1) (us := [hv]) (i := i.toNat) (off := 0) 0 hv hx hy rfl ht h1.2 rfl rfl hh rfl (by simpa using h1.1) rfl ?_
  refine TO.ghost (fun g s => ?_) (h (hs.set i.toNat hv))
  have s' : Sat (OwnS e 1 v ((hs.set i.toNat hv).map hd1) :: L) g := s
  refine Sat.imp1 (fun g o => ⟨g, Sub.refl g, ⟨by simp [hl], fun j hv' row' a b => ?_⟩, o⟩) s'
  rw [List.getElem?_set] at a b
  by_cases c : i.toNat = j
  · rw [if_pos c, if_pos (by omega)] at a
    rw [if_pos c, if_pos (by omega)] at b
    rw [← Option.some.inj a, ← Option.some.inj b]; exact hz
  · rw [if_neg c] at a b; exact hp j hv' row' a b
/-- append of a slice of the store -/
theorem TO.appSF {t bytes : Nat} {x y : Operand} {u hv : Value} {row : List α} {zss : List (List α)} (ht : elemB P t e 1 bytes = true) (hx : opv E x = some v) (hy : opv E y = some u)
    (en : Ent L (Rd 1 u [[hv]])) (hz : InZ zs hv row) (h1 : hv.oneCell' = true) (hm : appl bytes xss [row] = some zss) {ts : Array TypeId} (hts : ts = #[t, t]) (hd : Nat.blt d N = true)
    (h : ∀ v' hs', TO P N B ops rest ((d, v') :: E) (SF e v' hs' zss zs :: L) Q) : TO P N B ops (⟨some d, .call ⟨.builtin .append, #[x, y], ts⟩, ty, ps, af, none⟩ :: rest) E (SF e v hs xss zs :: L) Q := by
  obtain ⟨q1, q2, rfl⟩ := appl_spec hm
  refine TO.pure (φ := hs.length = xss.length ∧ ∀ (i : Nat) (hv : Value) (row : List α), hs[i]? = some hv → xss[i]? = some row → InZ zs hv row) (fun h s => SF.pure Ent.hd s) fun ⟨hl, hp⟩ => ?_
  refine TO.ghost (L' := OwnS e 1 v (hs.map hd1) :: L) (fun h s => Sat.imp1 (fun g ⟨_, o⟩ => ⟨g, Sub.refl g, o⟩) s) ?_
  refine TO.appM (k := 0) (f := hd1) (l := hs) (m := [hv]) (r := hs ++ [hv]) ht (by decide) hx rfl hy (en.tl) ?_ ?_ hts hd fun v' => ?_
  · unfold appl
    rw [if_pos]
    rw [hl]
    exact ⟨q1, q2⟩
  · intro x hx' c hc
    simp at hx'
    subst hx'
    simp [hd1] at hc
    subst hc
    exact h1
  · refine TO.ghost (fun g s => ?_) (h v' (hs ++ [hv]))
    have s' : Sat (OwnS e 1 v' ((hs ++ [hv]).map hd1) :: L) g := s
    refine Sat.imp1 (fun g o => ⟨g, Sub.refl g, ⟨by simp [hl], fun j hv' row' a b => ?_⟩, o⟩) s'
    rw [List.getElem?_append] at a b
    by_cases c : j < hs.length
    · rw [if_pos c] at a
      rw [if_pos (by omega)] at b
      exact hp j hv' row' a b
    · rw [if_neg c] at a
      rw [if_neg (by omega)] at b
      have e0 : j - hs.length = 0 := by
        rcases Nat.eq_zero_or_pos (j - hs.length) with z | z
        · exact z
        · rw [List.getElem?_eq_none (by simp; omega)] at a; cases a
      rw [e0] at a
      rw [show j - xss.length = 0 by omega] at b
      have a' : hv = hv' := by simpa using a
      have b' : row = row' := by simpa using b
      rw [← a', ← b']; exact hz
end

/-! Maps to such slices. -/
section
variable {κ α : Type} {kf : κ → Value} {r : Nat} {hd : κ → Value} {m : κ → Option (List α)} {L : List HP} {zs : List (Value × List α)}
def MZ (kf : κ → Value) (r : Nat) (hd : κ → Value) (m : κ → Option (List α)) (zs : List (Value × List α)) : HP := fun h => (∀ k row, m k = some row → InZ zs (hd k) row) ∧ MF kf (fun v : Value => v) r (mhs hd m) h
theorem MZ.mf (en : Ent L (MZ kf r hd m zs)) : Ent L (MF kf (fun v : Value => v) r (mhs hd m)) := en.imp fun h ⟨_, o⟩ => ⟨h, Sub.refl h, o⟩
theorem MZ.pure {h : PH} (en : Ent L (MZ kf r hd m zs)) (s : Sat L h) : ∀ k row, m k = some row → InZ zs (hd k) row := by obtain ⟨_, _, p, _⟩ := en h s; exact p
theorem MZ.row {h : PH} {k : κ} (en : Ent L (MZ kf r hd m zs)) (s : Sat L h) : InZ zs (mhd hd m k) ((m k).getD []) := by
  have hp := MZ.pure en s k
  unfold mhd mhs
  cases hk : m k with
  | none => exact InZ.nil
  | some l => exact hp l hk
theorem MZ.rd {e sz : Nat} {f : α → List Value} {k : κ} (en : Ent L (MZ kf r hd m zs)) (ez : Ent L (FZ e sz f zs)) : Ent L (Rd sz (mhd hd m k) (((m k).getD []).map f)) := fun h s => FZ.rd ez (MZ.row en s) h s
theorem MZ.grow {zs' : List (Value × List α)} (hz : ∀ v xs, InZ zs v xs → InZ zs' v xs) : ∀ g, MZ kf r hd m zs g → MZ kf r hd m zs' g := fun g ⟨h1, o⟩ => ⟨fun k row a => hz _ _ (h1 k row a), o⟩
variable {P : Program} {N : Nat} {B : World} {E : Env} {ops : Array Oper} {rest : List Oper} {Q : Act → World → Prop}
variable {d : Nat} {dd : Option Tmp} {ty : TypeId} {ps : String} {af : Array Edge} {gd : Option (Nat × Bool)}
theorem TO.mkMZ {t : TypeId} (hdt : Nat.blt d N = true) (h : ∀ r hd, TO P N B ops rest ((d, .map (some r)) :: E) (MZ kf r hd (mzero : κ → Option (List α)) zs :: L) Q) : TO P N B ops (⟨some d, .makeMap t none, ty, ps, af, none⟩ :: rest) E L Q :=
  TO.mkMF (kf := kf) (vf := fun v : Value => v) hdt fun r => TO.ghost (fun _ s => Sat.imp1 (fun g o => ⟨g, Sub.refl g, fun k row a => (by cases a), o⟩) s) (h r fun _ => nilv)
variable [DecidableEq κ]
theorem StepS.lookMZ {t ke te : Nat} {x y : Operand} {k : κ} (ht : mapGB P t ke te = true) (hK : KeyOk P ke kf) (hz : (P.info? te).bind (·.zero) = some (.slice none 0 0)) (hx : opv E x = some (.map (some r))) (en : Ent L (MZ kf r hd m zs)) (hy : opv E y = some (kf k)) :
    StepS P N B ⟨dd, .lookup t x y false, ty, ps, af, gd⟩ E L (mhd hd m k) := by
  refine StepS.lookF (z := nilv) ht hK hz hx (MZ.mf en) hy ?_
  unfold mhd
  cases mhs hd m k <;> rfl
theorem TO.msetZ {t ke te : Nat} {x y z : Operand} {k : κ} {v : Value} {ys : List α} (ht : mapGB P t ke te = true) (hK : KeyOk P ke kf) (hx : opv E x = some (.map (some r))) (hy : opv E y = some (kf k)) (hz : opv E z = some v) (hv : InZ zs v ys)
    (h : ∀ hd', TO P N B ops rest E (MZ kf r hd' (mupd m k ys) zs :: L) Q) : TO P N B ops (⟨none, .mapUpdate t x y z, ty, ps, af, none⟩ :: rest) E (MZ kf r hd m zs :: L) Q := by
  refine TO.pure (φ := ∀ k row, m k = some row → InZ zs (hd k) row) (fun h s => MZ.pure Ent.hd s) fun hp => ?_
  refine TO.ghost (L' := MF kf (fun v : Value => v) r (mhs hd m) :: L) (fun h s => Sat.imp1 (fun g ⟨_, o⟩ => ⟨g, Sub.refl g, o⟩) s) ?_
  refine TO.msetF (kf := kf) (vf := fun v : Value => v) (m := mhs hd m) (k := k) (v := v) 0 ht hK hx rfl hy hz ?_
  refine TO.ghost (fun g s => ?_) (h (fun j => if j = k then v else hd j))
  have s' : Sat (MF kf (fun v : Value => v) r (mupd (mhs hd m) k v) :: L) g := s
  have e1 : mhs (fun j => if j = k then v else hd j) (mupd m k ys) = mupd (mhs hd m) k v := by
    funext j; unfold mhs mupd
    by_cases c : j = k
    · simp [c]
    · simp [c]
  refine Sat.imp1 (fun g o => ⟨g, Sub.refl g, fun j row a => ?_, by rw [e1]; exact o⟩) s'
  unfold mupd at a
  by_cases c : j = k
  · rw [if_pos c] at a; rw [← Option.some.inj a]; simp only [c, if_true]; exact hv
  · rw [if_neg c] at a; simp only [c, if_false]; exact hp j row a
end
end Go.Bk
