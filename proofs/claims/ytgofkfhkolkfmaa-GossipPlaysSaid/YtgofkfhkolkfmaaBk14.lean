/-
  Slices of slices. Nothing of any program stands here.
-/
import Derived.Test.YtgofkfhkolkfmaaBk13
namespace Go.Bk
open Go
set_option linter.unusedVariables false
set_option linter.unusedSimpArgs false

/-- A list of assertions as one, in front of others. -/
theorem Sat.flat : ∀ {M L : List HP} {h : PH}, Sat (Stars M :: L) h → Sat (M ++ L) h
  | [], L, h, ⟨h1, h2, d, s1, s2, a, r⟩ => Sat.mono s2 r
  | A :: M, L, h, ⟨h1, h2, d, s1, s2, ⟨g1, g2, e, t1, t2, a, m⟩, r⟩ => by
    have dk : Dj g2 h2 := d.sub t2 (Sub.refl _)
    refine ⟨g1, un g2 h2, ((e.symm).un (d.sub t1 (Sub.refl _)).symm).symm, t1.trans s1, (t2.trans s1).un s2, a, Sat.flat (M := M) ⟨g2, h2, dk, sub_un_left _ _, sub_un_right dk, m, r⟩⟩
theorem Sat.bag : ∀ {M L : List HP} {h : PH}, Sat (M ++ L) h → Sat (Stars M :: L) h
  | [], L, h, s => ⟨fun _ => none, h, fun _ => .inl rfl, fun _ _ e => (by cases e), Sub.refl h, trivial, s⟩
  | A :: M, L, h, ⟨h1, h2, d, s1, s2, a, r⟩ => by
    obtain ⟨k1, k2, d', t1, t2, m, r'⟩ := Sat.bag (M := M) r
    have d1 : Dj h1 k1 := d.sub (Sub.refl _) t1
    have d2 : Dj h1 k2 := d.sub (Sub.refl _) t2
    exact ⟨un h1 k1, k2, d2.un d', s1.un (t1.trans s2), t2.trans s2, ⟨h1, k1, d1, sub_un_left _ _, sub_un_right d1, a, m⟩, r'⟩
theorem Sat.setApp {C : HP} : ∀ {M L : List HP} {h : PH} (i : Nat), i < M.length → Sat (M ++ C :: L) h → Sat (M.set i C ++ L) h
  | [], L, h, i, hi, s => by simp at hi
  | A :: M, L, h, 0, hi, s => by
    have s1 : Sat (M ++ C :: L) h := Sat.erase 0 s
    have s2 := Sat.front (A := C) (M.length) (by simp) s1
    have : (M ++ C :: L).eraseIdx M.length = M ++ L := by
      rw [List.eraseIdx_append_of_length_le (Nat.le_refl _)]; simp
    rw [this] at s2
    exact s2
  | A :: M, L, h, i + 1, hi, ⟨h1, h2, d, s1, s2, a, r⟩ => ⟨h1, h2, d, s1, s2, a, Sat.setApp i (by simpa using hi) r⟩

def nilv : Value := .slice none 0 0
/-- The header of a row. -/
def rowv (hs : List Value) (i : Nat) : Value := (hs[i]?).getD nilv
section
variable {α : Type}
def rows (ee sz : Nat) (f : α → List Value) (hs : List Value) (xss : List (List α)) : List HP := List.zipWith (fun h xs => OwnS ee sz h (xs.map f)) hs xss
/-- A slice of slices that the call owns, rows and all: the header, the rows' headers, the rows. -/
def SS (e ee sz : Nat) (f : α → List Value) (v : Value) (hs : List Value) (xss : List (List α)) : HP := fun h =>
  hs.length = xss.length ∧ Stars (OwnS e 1 v (hs.map hd1) :: rows ee sz f hs xss) h
/-- A slice of slices that is read. -/
def RR (sz : Nat) (f : α → List Value) (v : Value) (hs : List Value) (xss : List (List α)) : HP := fun h =>
  hs.length = xss.length ∧ (∃ h1, Sub h1 h ∧ Rd 1 v (hs.map hd1) h1) ∧ ∀ (i : Nat) (hv : Value) (row : List α), hs[i]? = some hv → xss[i]? = some row → ∃ h1, Sub h1 h ∧ Rd sz hv (row.map f) h1
variable {e ee sz : Nat} {f : α → List Value} {v : Value} {hs : List Value} {xss : List (List α)} {L : List HP}

theorem rows_len (h : hs.length = xss.length) : (rows ee sz f hs xss).length = xss.length := by simp [rows, h]
theorem rows_get {i : Nat} {hv : Value} {row : List α} (h1 : hs[i]? = some hv) (h2 : xss[i]? = some row) : (rows ee sz f hs xss)[i]? = some (OwnS ee sz hv (row.map f)) := by
  simp [rows, List.getElem?_zipWith, h1, h2]
theorem rows_set {i : Nat} {hv : Value} {row : List α} : (rows ee sz f hs xss).set i (OwnS ee sz hv (row.map f)) = rows ee sz f (hs.set i hv) (xss.set i row) := by
  apply List.ext_getElem?
  intro j
  unfold rows
  rw [List.getElem?_set, List.getElem?_zipWith, List.getElem?_zipWith, List.getElem?_set, List.getElem?_set]
  simp only [List.length_zipWith]
  by_cases c : i = j
  · subst c
    by_cases c1 : i < hs.length <;> by_cases c2 : i < xss.length <;> simp [c1, c2, Nat.lt_min]
  · simp [c]
theorem SS.rr (en : Ent L (SS e ee sz f v hs xss)) : Ent L (RR sz f v hs xss) := en.imp fun h ⟨hl, s⟩ => ⟨h, Sub.refl h, hl,
  (OwnS.rd (Ent.at (A := OwnS e 1 v (hs.map hd1)) 0 rfl)) h s,
  fun i hv (row : List α) h1 h2 => (OwnS.rd (Ent.at (A := OwnS ee sz hv (row.map f)) (i + 1) (by simpa using rows_get h1 h2))) h s⟩
theorem RR.top (en : Ent L (RR sz f v hs xss)) : Ent L (Rd 1 v (hs.map hd1)) := en.imp fun h ⟨_, ⟨h1, s, r⟩, _⟩ => ⟨h1, s, r⟩
theorem RR.row {i : Int} {row : List α} (en : Ent L (RR sz f v hs xss)) (hx : idx xss i = some row) : Ent L (Rd sz (rowv hs i.toNat) (row.map f)) := en.imp fun h ⟨hl, _, hr⟩ => by
  obtain ⟨_, q⟩ := idx_spec hx
  have hlt := (List.getElem?_eq_some_iff.1 q).1
  have hh : hs[i.toNat]? = some (hs[i.toNat]'(by omega)) := List.getElem?_eq_getElem _
  have : rowv hs i.toNat = hs[i.toNat]'(by omega) := by unfold rowv; rw [hh]; rfl
  rw [this]
  exact hr _ _ _ hh q
theorem RR.nil : Ent L (RR sz f nilv [] []) := fun h _ => ⟨h, Sub.refl h, rfl, ⟨fun _ => none, fun _ _ e => (by cases e), fun _ h => (by cases h), .inl ⟨⟨none, rfl⟩, rfl⟩⟩, fun i hv row h1 _ => by simp at h1⟩

theorem Sat.nilSS {h : PH} (s : Sat L h) : Sat (SS e ee sz f nilv [] ([] : List (List α)) :: L) h := by
  have h1 : Sat (OwnS e 1 nilv (([] : List Value).map hd1) :: L) h := Sat.nilS s
  have h2 : Sat ((OwnS e 1 nilv (([] : List Value).map hd1) :: rows ee sz f [] []) ++ L) h := h1
  obtain ⟨k1, k2, d, s1, s2, a, r⟩ := Sat.bag h2
  exact ⟨k1, k2, d, s1, s2, ⟨rfl, a⟩, r⟩
theorem Sat.mkSS {h : PH} {l : List (List α)} (hl : ∀ x ∈ l, x = []) (s : Sat (OwnS e 1 v ((l.map fun _ => nilv).map hd1) :: L) h) : Sat (SS e ee sz f v (l.map fun _ => nilv) l :: L) h := by
  have key : ∀ (l : List (List α)) (L : List HP) (h : PH), (∀ x ∈ l, x = []) → Sat L h → Sat (rows ee sz f (l.map fun _ => nilv) l ++ L) h := by
    intro l
    induction l with
    | nil => intro L h _ s; exact s
    | cons x l ih =>
      intro L h hl s
      have hx : x = [] := hl x (by simp)
      subst hx
      have := ih L h (fun y hy => hl y (by simp [hy])) s
      exact Sat.nilS this
  have h1 : Sat ((OwnS e 1 v ((l.map fun _ => nilv).map hd1) :: rows ee sz f (l.map fun _ => nilv) l) ++ L) h := by
    obtain ⟨k1, k2, d, s1, s2, a, r⟩ := s
    exact ⟨k1, k2, d, s1, s2, a, key l L k2 hl r⟩
  obtain ⟨k1, k2, d, s1, s2, a, r⟩ := Sat.bag h1
  exact ⟨k1, k2, d, s1, s2, ⟨by simp, a⟩, r⟩
theorem SS.flat {h : PH} (s : Sat (SS e ee sz f v hs xss :: L) h) : hs.length = xss.length ∧ Sat (OwnS e 1 v (hs.map hd1) :: (rows ee sz f hs xss ++ L)) h := by
  obtain ⟨k1, k2, d, s1, s2, ⟨hl, a⟩, r⟩ := s
  exact ⟨hl, Sat.flat (M := OwnS e 1 v (hs.map hd1) :: rows ee sz f hs xss) ⟨k1, k2, d, s1, s2, a, r⟩⟩
theorem SS.bag {h : PH} (hl : hs.length = xss.length) (s : Sat (OwnS e 1 v (hs.map hd1) :: (rows ee sz f hs xss ++ L)) h) : Sat (SS e ee sz f v hs xss :: L) h := by
  obtain ⟨k1, k2, d, s1, s2, a, r⟩ := Sat.bag (M := OwnS e 1 v (hs.map hd1) :: rows ee sz f hs xss) s
  exact ⟨k1, k2, d, s1, s2, ⟨hl, a⟩, r⟩
/-- A row that is taken out. -/
theorem Sat.takeRow {h : PH} {i : Int} {row : List α} (hx : idx xss i = some row) (s : Sat (SS e ee sz f v hs xss :: L) h) : Sat (OwnS ee sz (rowv hs i.toNat) (row.map f) :: L) h := by
  obtain ⟨hl, s⟩ := SS.flat s
  obtain ⟨_, q⟩ := idx_spec hx
  have hlt := (List.getElem?_eq_some_iff.1 q).1
  have hh : hs[i.toNat]? = some (hs[i.toNat]'(by omega)) := List.getElem?_eq_getElem _
  have hr : rowv hs i.toNat = hs[i.toNat]'(by omega) := by unfold rowv; rw [hh]; rfl
  rw [hr]
  have s1 := Sat.erase 0 s
  have s2 : Sat (rows ee sz f hs xss ++ L) h := s1
  have s3 := Sat.front (A := OwnS ee sz (hs[i.toNat]'(by omega)) (row.map f)) i.toNat (by rw [List.getElem?_append_left (by rw [rows_len hl]; exact hlt)]; exact rows_get hh q) s2
  rw [List.eraseIdx_append_of_lt_length (by rw [rows_len hl]; exact hlt)] at s3
  obtain ⟨k1, k2, d, t1, t2, a, r⟩ := s3
  refine ⟨k1, k2, d, t1, t2, a, ?_⟩
  have : ∀ (M : List HP) (g : PH), Sat (M ++ L) g → Sat L g := by
    intro M
    induction M with
    | nil => intro g s; exact s
    | cons A M ih => intro g s; exact ih g (Sat.erase 0 s)
  exact this _ _ r
end

section
variable {P : Program} {N : Nat} {B : World} {E : Env} {L : List HP} {ops : Array Oper} {rest : List Oper} {Q : Act → World → Prop}
variable {d : Nat} {dd : Option Tmp} {ty : TypeId} {ps : String} {af : Array Edge} {gd : Option (Nat × Bool)}
variable {α : Type} {e ee sz : Nat} {f : α → List Value} {v : Value} {hs : List Value} {xss : List (List α)}

theorem TO.mkSS {t bytes : Nat} {x y : Operand} {n : Int} {l : List (List α)} (ht : elemB P t e 1 bytes = true) (hz : (P.info? e).bind (·.zero) = some (.slice none 0 0))
    (hx : opv E x = some (I n)) (hy : opv E y = some (I n)) (hm : mkl n bytes ([] : List α) = some l) (hd : Nat.blt d N = true)
    (h : ∀ v, TO P N B ops rest ((d, v) :: E) (SS e ee sz f v (l.map fun _ => nilv) l :: L) Q) : TO P N B ops (⟨some d, .makeSlice t x y, ty, ps, af, none⟩ :: rest) E L Q := by
  obtain ⟨h1, h2, h3, rfl⟩ := mkl_spec hm
  refine TO.mkS (f := hd1) (za := nilv) (l := (List.replicate n.toNat ([] : List α)).map fun _ => nilv) ht hz rfl (by decide) hx hy ?_ hd fun v => ?_
  · unfold mkl; rw [if_pos ⟨h1, h2, h3⟩]; simp
  · exact (TO.ghost fun _ s => Sat.mkSS (fun x hx => (List.mem_replicate.1 hx).2) s) (h v)
theorem StepS.idxRR {t : Nat} {x y : Operand} {k : IntKind} {i : Int} {row : List α} (hx : opv E x = some v) (hy : opv E y = some (.int k i)) (en : Ent L (RR sz f v hs xss)) (ht : sliceB P t e 1 = true)
    (hr : Go.Bk.idx xss i = some row) : StepS P N B ⟨dd, .indexAddr t x y, ty, ps, af, gd⟩ E L (ptr v (i.toNat * 1)) := by
  intro a w en' s
  obtain ⟨h, sh, hl, _⟩ := s.get en
  have hlt := idx_lt hr
  exact StepS.idx hx hy (RR.top en) ht (idx_spec hr).1 (by simp; omega) a w en' s
theorem StepS.ldRR {t : Nat} {x : Operand} {i : Int} {row : List α} (hx : opv E x = some (ptr v (i.toNat * 1))) (en : Ent L (RR sz f v hs xss)) (ht : scalB P t = true)
    (hr : Go.Bk.idx xss i = some row) : StepS P N B ⟨dd, .load t x, ty, ps, af, gd⟩ E L (rowv hs i.toNat) := by
  intro a w en' s
  obtain ⟨h, sh, hl, _⟩ := s.get en
  obtain ⟨_, q⟩ := idx_spec hr
  have hlt := (List.getElem?_eq_some_iff.1 q).1
  have hh : hs[i.toNat]? = some (hs[i.toNat]'(by omega)) := List.getElem?_eq_getElem _
  have hv : rowv hs i.toNat = hs[i.toNat]'(by omega) := by unfold rowv; rw [hh]; rfl
  rw [hv]
  exact StepS.ld0 hx (RR.top en) ht rfl (by rw [List.getElem?_map, hh]; rfl) rfl a w en' s
theorem StepS.lenRR {t : Nat} {x : Operand} (hx : opv E x = some v) (en : Ent L (RR sz f v hs xss)) (ht : sliceB P t e 1 = true) {ts : Array TypeId} (hts : ts = #[t]) :
    StepS P N B ⟨dd, .call ⟨.builtin .len, #[x], ts⟩, ty, ps, af, gd⟩ E L (.int .i64 (xss.length : Int)) := by
  intro a w en' s
  obtain ⟨h, sh, hl, _⟩ := s.get en
  rw [← hl]
  exact StepS.lenm hx (RR.top en) ht hts a w en' s
theorem TO.pure {φ : Prop} {l : List Oper} (h0 : ∀ h, Sat L h → φ) (h : φ → TO P N B ops l E L Q) : TO P N B ops l E L Q := fun a w e s => h (h0 _ s.sat) a w e s
/-- t[i] = a row that the call owns -/
theorem TO.stRow {t : Nat} {x y : Operand} {i : Int} {row xs : List α} {hv : Value} (hx : opv E x = some (ptr v (i.toNat * 1))) (hy : opv E y = some hv) (hr : idx xss i = some row) (ht : sizeB P t 1 = true)
    (h : TO P N B ops rest E (SS e ee sz f v (hs.set i.toNat hv) (xss.set i.toNat xs) :: L) Q) : TO P N B ops (⟨none, .store t x y, ty, ps, af, none⟩ :: rest) E (SS e ee sz f v hs xss :: OwnS ee sz hv (xs.map f) :: L) Q := by
  refine TO.pure (φ := hs.length = xss.length ∧ hv.oneCell' = true ∧ hv.cells = #[hv]) (fun h s => ?_) fun ⟨hl, h1, hc⟩ => ?_
  · obtain ⟨hl, _⟩ := SS.flat s
    obtain ⟨k1, k2, d, s1, s2, a, k3, k4, d', t1, t2, b, r⟩ := s
    refine ⟨hl, OwnS.one b, ?_⟩
    rcases b.2 with ⟨⟨ad, rfl⟩, _⟩ | ⟨_, _, _, _, rfl, _⟩ <;> rfl
  refine TO.ghost (fun h s => (SS.flat s).2) ?_
  obtain ⟨_, q⟩ := idx_spec hr
  have hlt := (List.getElem?_eq_some_iff.1 q).1
  have hh : hs[i.toNat]? = some (hs[i.toNat]'(by omega)) := List.getElem?_eq_getElem _
  refine TO.stO (f := hd1) (us := [hv]) (i := i.toNat) (off := 0) 0 hv hx hy rfl ht hc rfl rfl hh rfl (by simpa using h1) rfl ?_
  refine TO.ghost (fun g s => ?_) h
  have s' : Sat (OwnS e 1 v ((hs.set i.toNat hv).map hd1) :: (rows ee sz f hs xss ++ OwnS ee sz hv (xs.map f) :: L)) g := s
  obtain ⟨k1, k2, d, s1, s2, a, r⟩ := s'
  have r2 := Sat.setApp i.toNat (by rw [rows_len hl]; exact hlt) r
  rw [rows_set] at r2
  exact SS.bag (by simp [hl]) ⟨k1, k2, d, s1, s2, a, r2⟩
/-- t[i][j] = y -/
theorem TO.stEl {t n j off kk : Nat} {x y : Operand} {i : Int} {row : List α} {y0 : α} {u : Value} {us : List Value} (y1 : α) (hx : opv E x = some (ptr (rowv hs i.toNat) kk)) (hy : opv E y = some u) (hr : idx xss i = some row)
    (ht : sizeB P t n = true) (hv : u.cells = us.toArray) (hl : us.length = n) (hkk : kk = j * sz + off) (hi : row[j]? = some y0) (hfit : Nat.ble (off + us.length) (f y0).length = true) (h1 : ∀ u ∈ us, u.oneCell' = true) (hcs : splice (f y0) off us = f y1)
    (h : TO P N B ops rest E (SS e ee sz f v hs (xss.set i.toNat (row.set j y1)) :: L) Q) : TO P N B ops (⟨none, .store t x y, ty, ps, af, none⟩ :: rest) E (SS e ee sz f v hs xss :: L) Q := by
  refine TO.pure (φ := hs.length = xss.length) (fun h s => (SS.flat s).1) fun hlen => ?_
  refine TO.ghost (fun h s => (SS.flat s).2) ?_
  obtain ⟨_, q⟩ := idx_spec hr
  have hlt := (List.getElem?_eq_some_iff.1 q).1
  have hh : hs[i.toNat]? = some (hs[i.toNat]'(by omega)) := List.getElem?_eq_getElem _
  have hrv : rowv hs i.toNat = hs[i.toNat]'(by omega) := by unfold rowv; rw [hh]; rfl
  have hrl := rows_len (ee := ee) (sz := sz) (f := f) hlen
  refine TO.stO (e := ee) (f := f) (us := us) (i := j) (off := off) (i.toNat + 1) y1 hx hy ?_ ht hv hl hkk hi hfit h1 hcs ?_
  · rw [List.getElem?_cons_succ, List.getElem?_append_left (by rw [hrl]; exact hlt), hrv]
    exact rows_get hh q
  · refine TO.ghost (fun g s => ?_) h
    rw [List.set_cons_succ, List.set_append_left _ _ (by rw [hrl]; exact hlt), rows_set] at s
    have hset : hs.set i.toNat (rowv hs i.toNat) = hs := by
      rw [hrv]; exact List.set_getElem_self _
    rw [hset] at s
    exact SS.bag (by simp [hlen]) s
end
end Go.Bk
