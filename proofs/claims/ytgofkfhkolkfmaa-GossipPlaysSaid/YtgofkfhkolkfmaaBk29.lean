/-
  Slices of structs that hold slices, maps: each element with what it owns. Nothing of any program stands here.
-/
import Derived.Test.YtgofkfhkolkfmaaBk27
namespace Go.Bk
open Go
set_option linter.unusedVariables false
set_option linter.unusedSimpArgs false

/-- How an element lies: its cells; what it owns. Both by its model and by ghosts (headers and so on). -/
structure NT (α : Type) where
  k : α → List Value → List Value
  d : α → List Value → List HP
def cv (c : List Value) (j : Nat) : Value := (c[j]?).getD undef
/-- The ghosts of an element. -/
def gr (gs : List (List Value)) (i : Nat) : List Value := (gs[i]?).getD []
/-- The number of a map. -/
def mv : Value → Nat
  | .map (some r) => r
  | _ => 0
section
variable {α : Type} {e sz : Nat} {T : NT α} {v : Value} {gs : List (List Value)} {xs : List α} {L : List HP}
def cellsN (T : NT α) (gs : List (List Value)) (xs : List α) : List (List Value) := List.zipWith T.k xs gs
def piecesN (T : NT α) (gs : List (List Value)) (xs : List α) : List HP := List.zipWith (fun x c => G (T.d x c)) xs gs
/-- A slice that the call owns, with all that its elements own. -/
def SN (e sz : Nat) (T : NT α) (v : Value) (gs : List (List Value)) (xs : List α) : HP := fun h =>
  gs.length = xs.length ∧ Stars (OwnS e sz v (cellsN T gs xs) :: piecesN T gs xs) h
/-- One of which element i is out: it has the cells cs. -/
def SNh (e sz : Nat) (T : NT α) (v : Value) (gs : List (List Value)) (xs : List α) (i : Nat) (cs : List Value) : HP := fun h =>
  gs.length = xs.length ∧ Stars (OwnS e sz v ((cellsN T gs xs).set i cs) :: (piecesN T gs xs).set i hpT) h

theorem SN.flat {h : PH} (s : Sat (SN e sz T v gs xs :: L) h) : gs.length = xs.length ∧ Sat (OwnS e sz v (cellsN T gs xs) :: (piecesN T gs xs ++ L)) h := by
  obtain ⟨k1, k2, d, s1, s2, ⟨hl, a⟩, r⟩ := s
  exact ⟨hl, Sat.flat (M := OwnS e sz v (cellsN T gs xs) :: piecesN T gs xs) ⟨k1, k2, d, s1, s2, a, r⟩⟩
theorem SN.bag {h : PH} (hl : gs.length = xs.length) (s : Sat (OwnS e sz v (cellsN T gs xs) :: (piecesN T gs xs ++ L)) h) : Sat (SN e sz T v gs xs :: L) h := by
  obtain ⟨k1, k2, d, s1, s2, a, r⟩ := Sat.bag (M := OwnS e sz v (cellsN T gs xs) :: piecesN T gs xs) s
  exact ⟨k1, k2, d, s1, s2, ⟨hl, a⟩, r⟩
theorem SNh.flat {h : PH} {i : Nat} {cs : List Value} (s : Sat (SNh e sz T v gs xs i cs :: L) h) : gs.length = xs.length ∧ Sat (OwnS e sz v ((cellsN T gs xs).set i cs) :: ((piecesN T gs xs).set i hpT ++ L)) h := by
  obtain ⟨k1, k2, d, s1, s2, ⟨hl, a⟩, r⟩ := s
  exact ⟨hl, Sat.flat (M := OwnS e sz v ((cellsN T gs xs).set i cs) :: (piecesN T gs xs).set i hpT) ⟨k1, k2, d, s1, s2, a, r⟩⟩
theorem SNh.bag {h : PH} {i : Nat} {cs : List Value} (hl : gs.length = xs.length) (s : Sat (OwnS e sz v ((cellsN T gs xs).set i cs) :: ((piecesN T gs xs).set i hpT ++ L)) h) : Sat (SNh e sz T v gs xs i cs :: L) h := by
  obtain ⟨k1, k2, d, s1, s2, a, r⟩ := Sat.bag (M := OwnS e sz v ((cellsN T gs xs).set i cs) :: (piecesN T gs xs).set i hpT) s
  exact ⟨k1, k2, d, s1, s2, ⟨hl, a⟩, r⟩
theorem gr_get {i : Nat} (h : i < gs.length) : gs[i]? = some (gr gs i) := by simp [gr, h]
theorem cells_get {i : Int} {x : α} (hl : gs.length = xs.length) (hx : idx xs i = some x) : (cellsN T gs xs)[i.toNat]? = some (T.k x (gr gs i.toNat)) := by
  obtain ⟨_, q⟩ := idx_spec hx
  have hlt := (List.getElem?_eq_some_iff.1 q).1
  have hg := gr_get (gs := gs) (i := i.toNat) (by omega)
  simp [cellsN, List.getElem?_zipWith, q, hg]
theorem pieces_get {i : Int} {x : α} (hl : gs.length = xs.length) (hx : idx xs i = some x) : (piecesN T gs xs)[i.toNat]? = some (G (T.d x (gr gs i.toNat))) := by
  obtain ⟨_, q⟩ := idx_spec hx
  have hlt := (List.getElem?_eq_some_iff.1 q).1
  have hg := gr_get (gs := gs) (i := i.toNat) (by omega)
  simp [piecesN, List.getElem?_zipWith, q, hg]
theorem cells_len (hl : gs.length = xs.length) : (cellsN T gs xs).length = xs.length := by simp [cellsN, hl]
theorem pieces_len (hl : gs.length = xs.length) : (piecesN T gs xs).length = xs.length := by simp [piecesN, hl]
theorem zip_set {β γ δ : Type} (f : β → γ → δ) (l : List β) (m : List γ) (i : Nat) (x : β) (y : γ) : (List.zipWith f l m).set i (f x y) = List.zipWith f (l.set i x) (m.set i y) := by
  apply List.ext_getElem?
  intro j
  rw [List.getElem?_set, List.getElem?_zipWith, List.getElem?_zipWith, List.getElem?_set, List.getElem?_set]
  simp only [List.length_zipWith]
  by_cases c : i = j
  · subst c
    by_cases c1 : i < l.length <;> by_cases c2 : i < m.length <;> simp [c1, c2, Nat.lt_min]
  · simp [c]
theorem SN.top (en : Ent L (SN e sz T v gs xs)) : Ent L (Rd sz v (cellsN T gs xs)) :=
  OwnS.rd (e := e) (en.imp fun h ⟨_, k1, k2, d, s1, s2, a, _⟩ => ⟨k1, s1, a⟩)
theorem SN.len (en : Ent L (SN e sz T v gs xs)) {h : PH} (s : Sat L h) : gs.length = xs.length := by
  obtain ⟨_, _, q, _⟩ := en h s; exact q
theorem SNh.top {i : Nat} {cs : List Value} (en : Ent L (SNh e sz T v gs xs i cs)) : Ent L (Rd sz v ((cellsN T gs xs).set i cs)) :=
  OwnS.rd (e := e) (en.imp fun h ⟨_, k1, k2, d, s1, s2, a, _⟩ => ⟨k1, s1, a⟩)
theorem SNh.len {i : Nat} {cs : List Value} (en : Ent L (SNh e sz T v gs xs i cs)) {h : PH} (s : Sat L h) : gs.length = xs.length := by
  obtain ⟨_, _, q, _⟩ := en h s; exact q
theorem G.at {M : List HP} {A : HP} (m : Nat) (hm : M[m]? = some A) (en : Ent L (G M)) : Ent L A := fun h s => by
  obtain ⟨h1, s1, g⟩ := en h s
  obtain ⟨h2, s2, a⟩ := Ent.at m hm h1 g
  exact ⟨h2, s2.trans s1, a⟩
/-- What an element owns may be read. -/
theorem SN.piece {A : HP} {i : Int} {x : α} (en : Ent L (SN e sz T v gs xs)) (hx : idx xs i = some x) (m : Nat) (hm : (T.d x (gr gs i.toNat))[m]? = some A) : Ent L A :=
  G.at m hm (en.imp fun h ⟨hl, s⟩ => by
    have := pieces_get (T := T) hl hx
    exact Ent.at (A := G (T.d x (gr gs i.toNat))) (i.toNat + 1) (by rw [List.getElem?_cons_succ]; exact this) h s)
theorem Sat.nilSN {h : PH} (s : Sat L h) : Sat (SN e sz T nilv [] ([] : List α) :: L) h := by
  refine SN.bag rfl ?_
  have := Sat.nilS (e := e) (sz := sz) (f := fun c : List Value => c) s
  exact this
/-- An element is taken out. -/
theorem Sat.openN {h : PH} {i : Int} {x : α} (hx : idx xs i = some x) (s : Sat (SN e sz T v gs xs :: L) h) :
    Sat (T.d x (gr gs i.toNat) ++ SNh e sz T v gs xs i.toNat (T.k x (gr gs i.toNat)) :: L) h := by
  obtain ⟨hl, s⟩ := SN.flat s
  obtain ⟨k1, k2, d, s1, s2, a, r⟩ := s
  have r2 := Sat.takeSet (A := G (T.d x (gr gs i.toNat))) (i := i.toNat) (pieces_get hl hx) r
  have r3 := Sat.swap (A := OwnS e sz v (cellsN T gs xs)) ⟨k1, k2, d, s1, s2, a, r2⟩
  refine Sat.spread ?_
  obtain ⟨g1, g2, d', t1, t2, a', m⟩ := r3
  refine ⟨g1, g2, d', t1, t2, a', SNh.bag hl ?_⟩
  rw [set_same (cells_get hl hx)]
  exact m
/-- An element is put back. -/
theorem Sat.closeN {h : PH} {i : Nat} {cs : List Value} (c : List Value) (y : α) (hk : T.k y c = cs) (hi : i < xs.length) (s : Sat (T.d y c ++ SNh e sz T v gs xs i cs :: L) h) :
    Sat (SN e sz T v (gs.set i c) (xs.set i y) :: L) h := by
  subst hk
  have s1 := Sat.swap (Sat.gather s)
  obtain ⟨hl, s2⟩ := SNh.flat s1
  obtain ⟨k1, k2, d, t1, t2, a, r⟩ := s2
  have r2 := Sat.setApp i (by rw [List.length_set, pieces_len hl]; exact hi) r
  rw [List.set_set] at r2
  refine SN.bag (by simp [hl]) ?_
  have e1 : cellsN T (gs.set i c) (xs.set i y) = (cellsN T gs xs).set i (T.k y c) := (zip_set T.k xs gs i y c).symm
  have e2 : piecesN T (gs.set i c) (xs.set i y) = (piecesN T gs xs).set i (G (T.d y c)) := (zip_set (fun x c => G (T.d x c)) xs gs i y c).symm
  rw [e1, e2]
  exact ⟨k1, k2, d, t1, t2, a, r2⟩
end

section
variable {P : Program} {N : Nat} {B : World} {E : Env} {L : List HP} {ops : Array Oper} {rest : List Oper} {Q : Act → World → Prop}
variable {d : Nat} {dd : Option Tmp} {ty : TypeId} {ps : String} {af : Array Edge} {gd : Option (Nat × Bool)}
variable {α : Type} {e sz : Nat} {T : NT α} {v : Value} {gs : List (List Value)} {xs : List α}

theorem TO.exi {β : Type} {l : List Oper} {L' : β → List HP} (hs : ∀ h, Sat L h → ∃ z, Sat (L' z) h) (h : ∀ z, TO P N B ops l E (L' z) Q) : TO P N B ops l E L Q := fun a w e s => by
  obtain ⟨z, hz⟩ := hs _ s.sat
  exact h z a w e ⟨s.os, s.tape, s.output, hz⟩
theorem TC.exi {β : Type} {c : Code} {X : Post} {L' : β → List HP} (hs : ∀ h, Sat L h → ∃ z, Sat (L' z) h) (h : ∀ z, TC P N B c E (L' z) X) : TC P N B c E L X := fun a w e s => by
  obtain ⟨z, hz⟩ := hs _ s.sat
  exact h z a w e ⟨s.os, s.tape, s.output, hz⟩
theorem TO.openN {L0 L' : List HP} {l : List Oper} {i : Int} {x : α} (hL : L0 = SN e sz T v gs xs :: L) (hx : idx xs i = some x) (hL' : T.d x (gr gs i.toNat) ++ SNh e sz T v gs xs i.toNat (T.k x (gr gs i.toNat)) :: L = L')
    (h : TO P N B ops l E L' Q) : TO P N B ops l E L0 Q := by subst hL; subst hL'; exact TO.ghost (fun _ s => Sat.openN hx s) h
theorem TO.closeN {L0 : List HP} {l : List Oper} {i : Int} {x : α} {cs : List Value} (c : List Value) (y : α) (hL : L0 = T.d y c ++ SNh e sz T v gs xs i.toNat cs :: L) (hk : T.k y c = cs) (hx : idx xs i = some x) {ys : List α} (hY : xs.set i.toNat y = ys)
    (h : ∀ gs', TO P N B ops l E (SN e sz T v gs' ys :: L) Q) : TO P N B ops l E L0 Q := by
  subst hL; subst hY
  obtain ⟨_, q⟩ := idx_spec hx
  exact TO.ghost (fun _ s => Sat.closeN c y hk (List.getElem?_eq_some_iff.1 q).1 s) (h _)

theorem StepS.idxN {t : Nat} {x y : Operand} {k : IntKind} {i : Int} {z : α} (hx : opv E x = some v) (hy : opv E y = some (.int k i)) (en : Ent L (SN e sz T v gs xs)) (ht : sliceB P t e sz = true)
    (hr : Go.Bk.idx xs i = some z) : StepS P N B ⟨dd, .indexAddr t x y, ty, ps, af, gd⟩ E L (ptr v (i.toNat * sz)) := by
  intro a w en' s
  have hl := SN.len en s.sat
  have hlt := idx_lt hr
  exact StepS.idx hx hy (SN.top en) ht (idx_spec hr).1 (by rw [cells_len hl]; exact hlt) a w en' s
theorem StepS.idxNh {t j : Nat} {cs : List Value} {x y : Operand} {k : IntKind} {i : Int} {z : α} (hx : opv E x = some v) (hy : opv E y = some (.int k i)) (en : Ent L (SNh e sz T v gs xs j cs)) (ht : sliceB P t e sz = true)
    (hr : Go.Bk.idx xs i = some z) : StepS P N B ⟨dd, .indexAddr t x y, ty, ps, af, gd⟩ E L (ptr v (i.toNat * sz)) := by
  intro a w en' s
  have hl := SNh.len en s.sat
  have hlt := idx_lt hr
  exact StepS.idx hx hy (SNh.top en) ht (idx_spec hr).1 (by rw [List.length_set, cells_len hl]; exact hlt) a w en' s
theorem StepS.lenN {t : Nat} {x : Operand} (hx : opv E x = some v) (en : Ent L (SN e sz T v gs xs)) (ht : sliceB P t e sz = true) {ts : Array TypeId} (hts : ts = #[t]) :
    StepS P N B ⟨dd, .call ⟨.builtin .len, #[x], ts⟩, ty, ps, af, gd⟩ E L (.int .i64 (xs.length : Int)) := by
  intro a w en' s
  have hl := SN.len en s.sat
  have := StepS.len (P := P) (N := N) (B := B) (dd := dd) (ty := ty) (ps := ps) (af := af) (gd := gd) hx (SN.top en) ht hts a w en' s
  rw [cells_len hl] at this
  exact this
theorem StepS.lenNh {t j : Nat} {cs : List Value} {x : Operand} (hx : opv E x = some v) (en : Ent L (SNh e sz T v gs xs j cs)) (ht : sliceB P t e sz = true) {ts : Array TypeId} (hts : ts = #[t]) :
    StepS P N B ⟨dd, .call ⟨.builtin .len, #[x], ts⟩, ty, ps, af, gd⟩ E L (.int .i64 (xs.length : Int)) := by
  intro a w en' s
  have hl := SNh.len en s.sat
  have := StepS.len (P := P) (N := N) (B := B) (dd := dd) (ty := ty) (ps := ps) (af := af) (gd := gd) hx (SNh.top en) ht hts a w en' s
  rw [List.length_set, cells_len hl] at this
  exact this
/-- A cell of an element. -/
theorem StepS.ldN {t j kk : Nat} {x : Operand} {i : Int} {z : α} {u : Value} (hx : opv E x = some (ptr v kk)) (en : Ent L (SN e sz T v gs xs)) (ht : scalB P t = true)
    (hr : Go.Bk.idx xs i = some z) (hk : kk = i.toNat * sz + j) (hj : (T.k z (gr gs i.toNat))[j]? = some u) : StepS P N B ⟨dd, .load t x, ty, ps, af, gd⟩ E L u := by
  intro a w en' s
  have hl := SN.len en s.sat
  exact StepS.ld1 hx (SN.top en) ht hk (cells_get hl hr) hj a w en' s
/-- A whole element. -/
theorem StepS.ldNE {t kk : Nat} {x : Operand} {i : Int} {z : α} {cs : List Value} (hx : opv E x = some (ptr v kk)) (en : Ent L (SN e sz T v gs xs)) (ht : aggB P t sz = true)
    (hr : Go.Bk.idx xs i = some z) (hk : kk = i.toNat * sz) (hj : T.k z (gr gs i.toNat) = cs) : StepS P N B ⟨dd, .load t x, ty, ps, af, gd⟩ E L (.agg cs.toArray) := by
  intro a w en' s
  have hl := SN.len en s.sat
  subst hj
  exact StepS.ldE hx (SN.top en) ht hk (cells_get hl hr) a w en' s
/-- A cell of an element that is out. -/
theorem StepS.ldNh {t j kk : Nat} {x : Operand} {i : Int} {z : α} {u : Value} {cs : List Value} (hx : opv E x = some (ptr v kk)) (en : Ent L (SNh e sz T v gs xs i.toNat cs)) (ht : scalB P t = true)
    (hr : Go.Bk.idx xs i = some z) (hk : kk = i.toNat * sz + j) (hj : cs[j]? = some u) : StepS P N B ⟨dd, .load t x, ty, ps, af, gd⟩ E L u := by
  intro a w en' s
  have hl := SNh.len en s.sat
  obtain ⟨_, q⟩ := idx_spec hr
  have hlt := (List.getElem?_eq_some_iff.1 q).1
  exact StepS.ld1 hx (SNh.top en) ht hk (by rw [List.getElem?_set_self (by rw [cells_len hl]; exact hlt)]) hj a w en' s
/-- A store into the cells of an element that is out. -/
theorem TO.stNh {t n off kk : Nat} {x y : Operand} {u : Value} {us cs cs' : List Value} {i : Int} {z : α} (hx : opv E x = some (ptr v kk)) (hy : opv E y = some u) (ht : sizeB P t n = true)
    (hv : u.cells = us.toArray) (hl : us.length = n) (hkk : kk = i.toNat * sz + off) (hr : Go.Bk.idx xs i = some z) (hfit : Nat.ble (off + us.length) cs.length = true) (h1 : ∀ u ∈ us, u.oneCell' = true) (hcs : splice cs off us = cs')
    (h : TO P N B ops rest E (SNh e sz T v gs xs i.toNat cs' :: L) Q) : TO P N B ops (⟨none, .store t x y, ty, ps, af, none⟩ :: rest) E (SNh e sz T v gs xs i.toNat cs :: L) Q := by
  refine TO.pure (φ := gs.length = xs.length) (fun h s => (SNh.flat s).1) fun hlen => ?_
  refine TO.ghost (fun h s => (SNh.flat s).2) ?_
  obtain ⟨_, q⟩ := idx_spec hr
  have hlt := (List.getElem?_eq_some_iff.1 q).1
  refine TO.stO (e := e) (f := fun c : List Value => c) (l := (cellsN T gs xs).set i.toNat cs) (us := us) (i := i.toNat) (off := off) 0 cs' hx hy (by rw [List.map_id']; rfl) ht hv hl hkk (List.getElem?_set_self (by rw [cells_len hlen]; exact hlt)) hfit h1 hcs ?_
  rw [List.map_id', List.set_set]
  exact TO.ghost (fun g s => SNh.bag hlen s) h
/-- append of an element. -/
theorem TO.appN {t bytes : Nat} {x y : Operand} {u : Value} {z : α} {zs : List α} {L0 : List HP} (c : List Value) (hL : L0 = T.d z c ++ SN e sz T v gs xs :: L) (ht : elemB P t e sz bytes = true) (hsz : 0 < sz) (hx : opv E x = some v)
    (hy : opv E y = some u) (en : Ent L (Rd sz u [T.k z c])) (hm : appl bytes xs [z] = some zs) (h1 : ∀ c' ∈ T.k z c, c'.oneCell' = true) {ts : Array TypeId} (hts : ts = #[t, t]) (hd : Nat.blt d N = true)
    (h : ∀ v' gs', TO P N B ops rest ((d, v') :: E) (SN e sz T v' gs' zs :: L) Q) : TO P N B ops (⟨some d, .call ⟨.builtin .append, #[x, y], ts⟩, ty, ps, af, none⟩ :: rest) E L0 Q := by
  subst hL
  obtain ⟨q1, q2, rfl⟩ := appl_spec hm
  refine TO.ghost (L' := SN e sz T v gs xs :: G (T.d z c) :: L) (fun h s => Sat.swap (Sat.gather s)) ?_
  refine TO.pure (φ := gs.length = xs.length) (fun h s => (SN.flat s).1) fun hlen => ?_
  refine TO.ghost (fun h s => (SN.flat s).2) ?_
  have en2 : Ent (OwnS e sz v (cellsN T gs xs) :: (piecesN T gs xs ++ G (T.d z c) :: L)) (Rd sz u (([T.k z c]).map fun c : List Value => c)) := by
    rw [List.map_id']
    refine Ent.tl ?_
    generalize piecesN T gs xs = M
    induction M with
    | nil => exact Ent.tl en
    | cons A M ih => exact Ent.tl ih
  refine TO.appM (k := 0) (f := fun c : List Value => c) (l := cellsN T gs xs) (m := [T.k z c]) (r := cellsN T gs xs ++ [T.k z c]) ht hsz hx (by rw [List.map_id']; rfl) hy en2 ?_ ?_ hts hd fun v' => ?_
  · unfold appl
    rw [if_pos]
    rw [cells_len hlen]
    exact ⟨q1, q2⟩
  · intro a ha c' hc'
    simp at ha; subst ha
    exact h1 c' hc'
  · rw [List.map_id']
    refine TO.ghost (fun g s => ?_) (h v' (gs ++ [c]))
    have e1 : cellsN T (gs ++ [c]) (xs ++ [z]) = cellsN T gs xs ++ [T.k z c] := by
      unfold cellsN; rw [List.zipWith_append hlen.symm]; rfl
    have e2 : piecesN T (gs ++ [c]) (xs ++ [z]) = piecesN T gs xs ++ [G (T.d z c)] := by
      unfold piecesN; rw [List.zipWith_append hlen.symm]; rfl
    refine SN.bag (by simp [hlen]) ?_
    rw [e1, e2, List.append_assoc]
    exact s
/-- make, of elements that own nothing as yet. -/
theorem TO.mkN {t bytes : Nat} {x y : Operand} {n : Int} {z : Value} {l : List α} (c0 : List Value) (x0 : α) (ht : elemB P t e sz bytes = true) (hz : (P.info? e).bind (·.zero) = some z) (hcz : z.cells = (T.k x0 c0).toArray) (hsz : 0 < sz)
    (hx : opv E x = some (I n)) (hy : opv E y = some (I n)) (hm : mkl n bytes x0 = some l) (hd : Nat.blt d N = true) (h0 : ∀ (M : List HP) (g : PH), Sat M g → Sat (T.d x0 c0 ++ M) g)
    (h : ∀ v gs, TO P N B ops rest ((d, v) :: E) (SN e sz T v gs l :: L) Q) : TO P N B ops (⟨some d, .makeSlice t x y, ty, ps, af, none⟩ :: rest) E L Q := by
  obtain ⟨h1, h2, h3, rfl⟩ := mkl_spec hm
  refine TO.mkS (f := fun c : List Value => c) (za := T.k x0 c0) (l := List.replicate n.toNat (T.k x0 c0)) ht hz hcz hsz hx hy ?_ hd fun v => ?_
  · unfold mkl; rw [if_pos ⟨h1, h2, h3⟩]
  · refine TO.ghost (fun g s => ?_) (h v (List.replicate n.toNat c0))
    rw [List.map_id'] at s
    refine SN.bag (by simp) ?_
    have e1 : cellsN T (List.replicate n.toNat c0) (List.replicate n.toNat x0) = List.replicate n.toNat (T.k x0 c0) := by simp [cellsN, List.zipWith_replicate]
    have e2 : piecesN T (List.replicate n.toNat c0) (List.replicate n.toNat x0) = List.replicate n.toNat (G (T.d x0 c0)) := by simp [piecesN, List.zipWith_replicate]
    rw [e1, e2]
    obtain ⟨k1, k2, dj, s1, s2, a, r⟩ := s
    refine ⟨k1, k2, dj, s1, s2, a, ?_⟩
    have : ∀ (k : Nat) (g : PH), Sat L g → Sat (List.replicate k (G (T.d x0 c0)) ++ L) g := by
      intro k
      induction k with
      | zero => intro g s; exact s
      | succ k ih => intro g s; exact Sat.gather (h0 _ _ (ih g s))
    exact this _ _ r
end
end Go.Bk
