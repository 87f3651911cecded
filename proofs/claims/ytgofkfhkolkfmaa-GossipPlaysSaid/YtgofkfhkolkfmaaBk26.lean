/-
  Structs compared; a row of a slice of slices taken out and put back; parts of an array's element. Nothing of any program stands here.
-/
import Derived.Test.YtgofkfhkolkfmaaBk25
namespace Go.Bk
open Go
set_option linter.unusedVariables false
set_option linter.unusedSimpArgs false

/-! Structs of numbers, truths and strings. -/
def leafEq : Option TypeDesc → Value → Value → Option Bool
  | some (.int _), .int j a, .int k b => if j = k then some (a == b) else none
  | some .bool, .bool a, .bool b => some (a == b)
  | some .string, .string a, .string b => some (a == b)
  | _, _, _ => none
def eqFs (P : Program) (xs ys : Array Value) : List Field → Option Bool
  | [] => some true
  | f :: fs => if (f.name != "_" && sizeB P f.type 1 && scalB P f.type) = true then
      match xs[f.offset]?, ys[f.offset]? with
      | some a, some b => match leafEq (P.underlying f.type) a b with
        | some r => (eqFs P xs ys fs).map (fun q => r && q)
        | none => none
      | _, _ => none
    else none
theorem run_leafEq {P : Program} {t : TypeId} {a b : Value} {r : Bool} (h : leafEq (P.underlying t) a b = some r) (d : Nat) (w : World) : (Op.equalIn (d + 1) t a b).run P w = .ok r w := by
  cases hu : P.underlying t with
  | none => rw [hu] at h; simp [leafEq] at h
  | some k =>
    rw [hu] at h
    cases k with
    | int k' =>
      cases a <;> simp [leafEq] at h
      rename_i j x
      cases b <;> simp at h
      obtain ⟨rfl, rfl⟩ := h
      simp [Op.equalIn, run_underlying hu]
    | bool =>
      cases a <;> simp [leafEq] at h
      cases b <;> simp at h
      subst h
      simp [Op.equalIn, run_underlying hu]
    | string =>
      cases a <;> simp [leafEq] at h
      cases b <;> simp at h
      subst h
      simp [Op.equalIn, run_underlying hu]
    | _ => simp [leafEq] at h
theorem run_part1 {P : Program} {t : TypeId} (hs : sizeB P t 1 = true) (ha : scalB P t = true) {xs : Array Value} {o : Nat} {a : Value} (h : xs[o]? = some a) (w : World) : (part t xs o).run P w = .ok a w := by
  have hlt := (Array.getElem?_eq_some_iff.1 h).1
  have he := (Array.getElem?_eq_some_iff.1 h).2
  have : ¬ xs.size < o + 1 := by omega
  simp [part, run_sizeB hs, run_scal ha, this, h]
theorem run_eqFields {P : Program} {xs ys : Array Value} (d : Nat) : ∀ {fs : List Field} {r : Bool}, eqFs P xs ys fs = some r → ∀ w, (Op.eqFields (d + 1) xs ys fs).run P w = .ok r w
  | [], r, h, w => by simp [eqFs] at h; subst h; simp [Op.eqFields]
  | f :: fs, r, h, w => by
    rw [eqFs] at h
    split at h
    · rename_i hc
      simp only [Bool.and_eq_true, bne_iff_ne] at hc
      cases hx : xs[f.offset]? with
      | none => rw [hx] at h; simp at h
      | some a =>
        cases hy : ys[f.offset]? with
        | none => rw [hx, hy] at h; simp at h
        | some b =>
          rw [hx, hy] at h
          simp only at h
          cases hl : leafEq (P.underlying f.type) a b with
          | none => rw [hl] at h; cases h
          | some q =>
            rw [hl] at h
            simp only [Option.map_eq_some_iff] at h
            obtain ⟨q2, h2, rfl⟩ := h
            have ih := run_eqFields d h2 w
            have h1 := run_leafEq hl d w
            have p1 := run_part1 hc.1.2 hc.2 hx w
            have p2 := run_part1 hc.1.2 hc.2 hy w
            rw [Op.eqFields, if_pos hc.1.1]
            simp only [Sem.run_bind, p1, p2, h1, Result.andThen_ok, Sem.run_ite]
            cases q <;> simp [ih]
    · cases h
section
variable {P : Program} {N : Nat} {B : World} {E : Env} {L : List HP} {ops : Array Oper} {rest : List Oper} {Q : Act → World → Prop}
variable {d : Nat} {dd : Option Tmp} {ty : TypeId} {ps : String} {af : Array Edge} {gd : Option (Nat × Bool)}
theorem run_eqSt {t : TypeId} {xs ys : Array Value} {r : Bool} (ht : P.underlying t = some (.struct (P.fieldsOf t))) (hp : P.stoodInHeld t = false) (h : eqFs P xs ys (P.fieldsOf t).toList = some r) (w : World) : (Op.equalIn 10000 t (.agg xs) (.agg ys)).run P w = .ok r w := by
  rw [run_equalIn_struct w 9999 t xs ys ht hp]
  exact run_eqFields 9998 h w
theorem StepS.eqSt {x y : Operand} {t u : TypeId} {xs ys : Array Value} {r : Bool} (ht : P.underlying t = some (.struct (P.fieldsOf t))) (hp : P.stoodInHeld t = false) (hg : P.eqGuardType P.depth t = false)
    (hx : opv E x = some (.agg xs)) (hy : opv E y = some (.agg ys)) (h : eqFs P xs ys (P.fieldsOf t).toList = some r) : StepS P N B ⟨dd, .binOp .eql t x y u, ty, ps, af, gd⟩ E L (.bool r) :=
  fun a w e' _ => by simp [execOp, e'.eval hx, e'.eval hy, run_eqGuard_agg (P := P) w .eql t x y _ _ hg, run_eql_struct, run_eqSt ht hp h]
theorem StepS.neSt {x y : Operand} {t u : TypeId} {xs ys : Array Value} {r : Bool} (ht : P.underlying t = some (.struct (P.fieldsOf t))) (hp : P.stoodInHeld t = false) (hg : P.eqGuardType P.depth t = false)
    (hx : opv E x = some (.agg xs)) (hy : opv E y = some (.agg ys)) (h : eqFs P xs ys (P.fieldsOf t).toList = some r) : StepS P N B ⟨dd, .binOp .neq t x y u, ty, ps, af, gd⟩ E L (.bool (!r)) :=
  fun a w e' _ => by simp [execOp, e'.eval hx, e'.eval hy, run_eqGuard_agg (P := P) w .neq t x y _ _ hg, run_neq_struct, run_eqSt ht hp h]

/-- What a key has between the entry and its store. -/
theorem StepS.lookS {κ ν : Type} [DecidableEq κ] {kf : κ → Value} {vf : ν → Value} {m : κ → Option ν} {t ke e r b : Nat} {x y : Operand} {k : κ} {z : ν} (ht : mapGB P t ke e = true) (hK : KeyOk P ke kf) (hz : (P.info? e).bind (·.zero) = some (vf z)) (hx : opv E x = some (.map (some r)))
    (en : Ent L (MFS kf vf r (mupd m k ((m k).getD z)) k b)) (hy : opv E y = some (kf k)) : StepS P N B ⟨dd, .lookup t x y false, ty, ps, af, gd⟩ E L (vf ((m k).getD z)) := by
  have en' : Ent L (MF kf vf r (mupd m k ((m k).getD z))) := en.imp fun h ⟨l, c, v, hm, _, hh⟩ => ⟨h, Sub.refl h, l, c, hm, hh⟩
  have := StepS.lookF (P := P) (N := N) (B := B) (dd := dd) (ty := ty) (ps := ps) (af := af) (gd := gd) ht hK hz hx en' hy (getD_vf _ _)
  have e2 : (mupd m k ((m k).getD z) k).getD z = (m k).getD z := by simp [mupd]
  rwa [e2] at this
/-- A part of an element of an array in a box. -/
theorem StepS.ldDP {t e b o sz n k : Nat} {i : Int} {x : Operand} {cs ds : List Value} (pre post : List Value) {α : Type} {f : α → List Value} {xs : List α} {y : α} (hx : opv E x = some (.pointer (some ⟨b, o, none⟩))) (en : Ent L (Bx b e cs)) (ht : aggB P t n = true)
    (hcs : cs = pre ++ ((xs.map f).flatten ++ post)) (ho : o = pre.length + (i.toNat * sz + k)) (hl : ∀ x, (f x).length = sz) (hi : Go.Bk.idx xs i = some y) (hn : k + n ≤ sz) (hd : ((f y).drop k).take n = ds) :
    StepS P N B ⟨dd, .load t x, ty, ps, af, gd⟩ E L (.agg ds.toArray) := by
  have hdl : ds.length = n := by rw [← hd, List.length_take, List.length_drop, hl]; omega
  refine StepS.ldBA hx en ht ?_ hdl
  apply List.ext_getElem?
  intro j
  rw [List.getElem?_take]
  split
  · rename_i hj
    have hy : (f y)[k + j]? = some ((f y)[k + j]'(by rw [hl]; omega)) := List.getElem?_eq_getElem _
    have h2 : ds[j]? = (f y)[k + j]? := by rw [← hd, List.getElem?_take, if_pos hj, List.getElem?_drop]
    rw [List.getElem?_drop, hcs, ho, h2, hy]
    have := chunk_get (pre := pre) (post := post) hl (idx_spec hi).2 hy
    rw [show pre.length + (i.toNat * sz + k) + j = pre.length + (i.toNat * sz + (k + j)) by omega]; exact this
  · rw [List.getElem?_eq_none]; omega
end

/-! Rows. -/
def hpT : HP := fun _ => True
theorem Sat.empc {L : List HP} {h : PH} (s : Sat L h) : Sat (hpT :: L) h := ⟨fun _ => none, h, fun _ => .inl rfl, fun _ _ e => (by cases e), Sub.refl h, trivial, s⟩
theorem Sat.takeSet {A : HP} {L : List HP} : ∀ {M : List HP} {i : Nat} {h : PH}, M[i]? = some A → Sat (M ++ L) h → Sat (A :: (M.set i hpT ++ L)) h
  | [], _, _, hk, _ => by simp at hk
  | B :: M, 0, h, hk, ⟨h1, h2, d, s1, s2, a, r⟩ => by
    simp at hk; subst hk
    exact ⟨h1, h2, d, s1, s2, a, Sat.empc r⟩
  | B :: M, i + 1, h, hk, ⟨h1, h2, d, s1, s2, a, r⟩ => Sat.swap (A := B) (B := A) ⟨h1, h2, d, s1, s2, a, Sat.takeSet (by simpa using hk) r⟩
section
variable {α : Type} {e ee sz : Nat} {f : α → List Value} {v : Value} {hs : List Value} {xss : List (List α)} {L : List HP}
/-- A slice of slices of which a row is out. -/
def SSh (e ee sz : Nat) (f : α → List Value) (v : Value) (hs : List Value) (xss : List (List α)) (i : Nat) : HP := fun h =>
  hs.length = xss.length ∧ Stars (OwnS e 1 v (hs.map hd1) :: (rows ee sz f hs xss).set i hpT) h
theorem Sat.openRow {h : PH} {i : Int} {row : List α} (hx : idx xss i = some row) (s : Sat (SS e ee sz f v hs xss :: L) h) : Sat (OwnS ee sz (rowv hs i.toNat) (row.map f) :: SSh e ee sz f v hs xss i.toNat :: L) h := by
  obtain ⟨hl, s⟩ := SS.flat s
  obtain ⟨_, q⟩ := idx_spec hx
  have hlt := (List.getElem?_eq_some_iff.1 q).1
  have hh : hs[i.toNat]? = some (hs[i.toNat]'(by omega)) := List.getElem?_eq_getElem _
  have hr : rowv hs i.toNat = hs[i.toNat]'(by omega) := by unfold rowv; rw [hh]; rfl
  rw [hr]
  obtain ⟨k1, k2, d, s1, s2, a, r⟩ := s
  have r2 := Sat.takeSet (A := OwnS ee sz (hs[i.toNat]'(by omega)) (row.map f)) (i := i.toNat) (rows_get hh q) r
  have r3 := Sat.swap (A := OwnS e 1 v (hs.map hd1)) ⟨k1, k2, d, s1, s2, a, r2⟩
  obtain ⟨g1, g2, d', t1, t2, a', m⟩ := r3
  refine ⟨g1, g2, d', t1, t2, a', ?_⟩
  obtain ⟨u1, u2, d2, w1, w2, b, c⟩ := Sat.bag (M := OwnS e 1 v (hs.map hd1) :: (rows ee sz f hs xss).set i.toNat hpT) m
  exact ⟨u1, u2, d2, w1, w2, ⟨hl, b⟩, c⟩
theorem SSh.flat {h : PH} {i : Nat} (s : Sat (SSh e ee sz f v hs xss i :: L) h) : hs.length = xss.length ∧ Sat (OwnS e 1 v (hs.map hd1) :: ((rows ee sz f hs xss).set i hpT ++ L)) h := by
  obtain ⟨k1, k2, d, s1, s2, ⟨hl, a⟩, r⟩ := s
  exact ⟨hl, Sat.flat (M := OwnS e 1 v (hs.map hd1) :: (rows ee sz f hs xss).set i hpT) ⟨k1, k2, d, s1, s2, a, r⟩⟩
variable {P : Program} {N : Nat} {B : World} {E : Env} {ops : Array Oper} {rest : List Oper} {Q : Act → World → Prop}
variable {ty : TypeId} {ps : String} {af : Array Edge}
/-- t[i] = a row, where row i is out. -/
theorem TO.stRowH {t : Nat} {x y : Operand} {i : Int} {row xs : List α} {hv : Value} (hx : opv E x = some (ptr v (i.toNat * 1))) (hy : opv E y = some hv) (hr : idx xss i = some row) (ht : sizeB P t 1 = true)
    (h : TO P N B ops rest E (SS e ee sz f v (hs.set i.toNat hv) (xss.set i.toNat xs) :: L) Q) : TO P N B ops (⟨none, .store t x y, ty, ps, af, none⟩ :: rest) E (SSh e ee sz f v hs xss i.toNat :: OwnS ee sz hv (xs.map f) :: L) Q := by
  refine TO.pure (φ := hs.length = xss.length ∧ hv.oneCell' = true ∧ hv.cells = #[hv]) (fun h s => ?_) fun ⟨hl, h1, hc⟩ => ?_
  · obtain ⟨hl, _⟩ := SSh.flat s
    obtain ⟨k1, k2, d, s1, s2, a, k3, k4, d', t1, t2, b, r⟩ := s
    refine ⟨hl, OwnS.one b, ?_⟩
    rcases b.2 with ⟨⟨ad, rfl⟩, _⟩ | ⟨_, _, _, _, rfl, _⟩ <;> rfl
  refine TO.ghost (fun h s => (SSh.flat s).2) ?_
  obtain ⟨_, q⟩ := idx_spec hr
  have hlt := (List.getElem?_eq_some_iff.1 q).1
  have hh : hs[i.toNat]? = some (hs[i.toNat]'(by omega)) := List.getElem?_eq_getElem _
  refine TO.stO (f := hd1) (us := [hv]) (i := i.toNat) (off := 0) 0 hv hx hy rfl ht hc rfl rfl hh rfl (by simpa using h1) rfl ?_
  refine TO.ghost (fun g s => ?_) h
  have s' : Sat (OwnS e 1 v ((hs.set i.toNat hv).map hd1) :: ((rows ee sz f hs xss).set i.toNat hpT ++ OwnS ee sz hv (xs.map f) :: L)) g := s
  obtain ⟨k1, k2, d, s1, s2, a, r⟩ := s'
  have r2 := Sat.setApp i.toNat (by rw [List.length_set, rows_len hl]; exact hlt) r
  rw [List.set_set, rows_set] at r2
  exact SS.bag (by simp [hl]) ⟨k1, k2, d, s1, s2, a, r2⟩
theorem Sat.closeRow {h : PH} {i : Int} {row xs : List α} (hr : idx xss i = some row) (s : Sat (SSh e ee sz f v hs xss i.toNat :: OwnS ee sz (rowv hs i.toNat) (xs.map f) :: L) h) : Sat (SS e ee sz f v hs (xss.set i.toNat xs) :: L) h := by
  obtain ⟨hl, s⟩ := SSh.flat s
  obtain ⟨_, q⟩ := idx_spec hr
  have hlt := (List.getElem?_eq_some_iff.1 q).1
  obtain ⟨k1, k2, d, s1, s2, a, r⟩ := s
  have r2 := Sat.setApp i.toNat (by rw [List.length_set, rows_len hl]; exact hlt) r
  rw [List.set_set, rows_set] at r2
  have hset : hs.set i.toNat (rowv hs i.toNat) = hs := by
    have hh : hs[i.toNat]? = some (hs[i.toNat]'(by omega)) := List.getElem?_eq_getElem _
    have hrv : rowv hs i.toNat = hs[i.toNat]'(by omega) := by unfold rowv; rw [hh]; rfl
    rw [hrv]; exact List.set_getElem_self _
  rw [hset] at r2
  exact SS.bag (by simp [hl]) ⟨k1, k2, d, s1, s2, a, r2⟩
end
end Go.Bk
