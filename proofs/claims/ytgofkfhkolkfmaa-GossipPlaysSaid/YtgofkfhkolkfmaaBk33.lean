/-
  Pointers to structs that lie in boxes or in slices; two elements of a slice at once; slices with three indexes. Nothing of any program stands here.
-/
import Derived.Test.YtgofkfhkolkfmaaBk32
namespace Go.Bk
open Go
set_option linter.unusedVariables false
set_option linter.unusedSimpArgs false

/-! Cells that are read, wherever they lie. -/
def Cel (b o : Nat) (cs : List Value) : HP := fun h => ∃ arr e fz, h b = some (.cells arr e fz) ∧ ∀ (j : Nat) (v : Value), cs[j]? = some v → arr[o + j]? = some v
section
variable {P : Program} {N : Nat} {B : World} {E : Env} {L : List HP} {ops : Array Oper} {rest : List Oper} {Q : Act → World → Prop}
variable {d : Nat} {dd : Option Tmp} {ty : TypeId} {ps : String} {af : Array Edge} {gd : Option (Nat × Bool)}
theorem Bx.cel {b e : Nat} {cs : List Value} (en : Ent L (Bx b e cs)) : Ent L (Cel b 0 cs) :=
  en.imp fun h hb => ⟨h, Sub.refl h, _, _, _, hb, fun j v hj => by simpa using hj⟩
theorem Rd.cel {sz : Nat} {v : Value} {css : List (List Value)} {i : Nat} {c : List Value} (en : Ent L (Rd sz v css)) (hc : css[i]? = some c) : Ent L (Cel (blk v) (ofs v + i * sz) c) :=
  en.imp fun h ⟨_, hr⟩ => by
    rcases hr with ⟨⟨ad, rfl⟩, rfl⟩ | ⟨b, o, cap, arr, el, fz, rfl, _, _, hb, seg⟩
    · simp at hc
    · exact ⟨h, Sub.refl h, arr, el, fz, hb, fun j v hj => by have := seg i c j v hc hj; simpa [ofs, Nat.add_assoc] using this⟩
theorem StepS.ldC {t b o j k : Nat} {x : Operand} {cs : List Value} {v : Value} (hx : opv E x = some (.pointer (some ⟨b, k, none⟩))) (en : Ent L (Cel b o cs)) (ht : scalB P t = true) (hk : k = o + j) (hv : cs[j]? = some v) :
    StepS P N B ⟨dd, .load t x, ty, ps, af, gd⟩ E L v := by
  intro a w en' s
  obtain ⟨h, sh, arr, e, fz, hb, hc⟩ := s.get en
  subst hk
  have := cell_of (sh b _ hb) (o + j)
  rw [hc j v hv] at this
  simp [execOp, en'.eval hx, run_load1 ht this]
theorem StepS.ldCA {t b o j k n : Nat} {x : Operand} {cs ds : List Value} (hx : opv E x = some (.pointer (some ⟨b, k, none⟩))) (en : Ent L (Cel b o cs)) (ht : aggB P t n = true) (hk : k = o + j) (hds : (cs.drop j).take n = ds) (hl : ds.length = n) :
    StepS P N B ⟨dd, .load t x, ty, ps, af, gd⟩ E L (.agg ds.toArray) := by
  intro a w en' s
  obtain ⟨h, sh, arr, e, fz, hb, hc⟩ := s.get en
  subst hk
  have : (Instr.loadAt t (.pointer (some ⟨b, o + j, none⟩))).run P w = .ok (.agg ds.toArray) w := by
    refine run_loadA ht hl fun i v hj => ?_
    rw [add_lit, cell_of (sh b _ hb)]
    subst hds
    rw [List.getElem?_take] at hj
    split at hj
    · rw [List.getElem?_drop] at hj; rw [Nat.add_assoc]; exact hc (j + i) v hj
    · cases hj
  simp [execOp, en'.eval hx, this]
end

/-! Elements of a slice of structs. -/
section
variable {α : Type} {e sz : Nat} {T : NT α} {v : Value} {gs : List (List Value)} {xs : List α} {L : List HP}
theorem SN.cel {i : Int} {x : α} (en : Ent L (SN e sz T v gs xs)) (hx : idx xs i = some x) : Ent L (Cel (blk v) (ofs v + i.toNat * sz) (T.k x (gr gs i.toNat))) := fun h s =>
  Rd.cel (SN.top en) (cells_get (SN.len en s) hx) h s
theorem SNh.cel {i : Int} {x : α} {cs : List Value} (en : Ent L (SNh e sz T v gs xs i.toNat cs)) (hx : idx xs i = some x) : Ent L (Cel (blk v) (ofs v + i.toNat * sz) cs) := fun h s => by
  have hl := SNh.len en s
  obtain ⟨_, q⟩ := idx_spec hx
  have hlt := (List.getElem?_eq_some_iff.1 q).1
  exact Rd.cel (SNh.top en) (List.getElem?_set_self (by rw [cells_len hl]; exact hlt)) h s
theorem SN.hd (en : Ent L (SN e sz T v gs xs)) : Ent L (Hd v xs.length) := fun h s => by
  have := Rd.hd (SN.top en) h s
  rwa [cells_len (SN.len en s)] at this
theorem toNat_ne {i j : Int} (hi : 0 ≤ i) (hj : 0 ≤ j) (h : i ≠ j) : i.toNat ≠ j.toNat := by omega
/-- What another element owns may be read. -/
theorem SNh.piece {A : HP} {i j : Int} {x : α} {cs : List Value} (en : Ent L (SNh e sz T v gs xs i.toNat cs)) (h0 : 0 ≤ i) (hne : i ≠ j) (hx : idx xs j = some x) (m : Nat) (hm : (T.d x (gr gs j.toNat))[m]? = some A) : Ent L A :=
  G.at m hm (en.imp fun h ⟨hl, s⟩ => by
    have := pieces_get (T := T) hl hx
    have hn := toNat_ne h0 (idx_spec hx).1 hne
    exact Ent.at (A := G (T.d x (gr gs j.toNat))) (j.toNat + 1) (by rw [List.getElem?_cons_succ, List.getElem?_set_ne hn]; exact this) h s)
theorem SNh.celO {i j : Int} {x : α} {cs : List Value} (en : Ent L (SNh e sz T v gs xs i.toNat cs)) (h0 : 0 ≤ i) (hne : i ≠ j) (hx : idx xs j = some x) : Ent L (Cel (blk v) (ofs v + j.toNat * sz) (T.k x (gr gs j.toNat))) := fun h s => by
  have hl := SNh.len en s
  have hn := toNat_ne h0 (idx_spec hx).1 hne
  exact Rd.cel (SNh.top en) (by rw [List.getElem?_set_ne hn]; exact cells_get hl hx) h s
theorem gr_set {i : Nat} : gs.set i (gr gs i) = gs := by
  by_cases h : i < gs.length
  · exact set_same (gr_get h)
  · exact List.set_eq_of_length_le (by omega)
theorem idx_set {α : Type} {xs : List α} {i : Int} {x : α} (hx : idx xs i = some x) : xs.set i.toNat x = xs := set_same (idx_spec hx).2
/-- An element is put back as it was. -/
theorem Sat.closeN0 {h : PH} {i : Int} {x : α} (hx : idx xs i = some x) (s : Sat (T.d x (gr gs i.toNat) ++ SNh e sz T v gs xs i.toNat (T.k x (gr gs i.toNat)) :: L) h) : Sat (SN e sz T v gs xs :: L) h := by
  have := Sat.closeN (gr gs i.toNat) x rfl (List.getElem?_eq_some_iff.1 (idx_spec hx).2).1 s
  rwa [gr_set, idx_set hx] at this
/-- Two elements are out. -/
def SNhh (e sz : Nat) (T : NT α) (v : Value) (gs : List (List Value)) (xs : List α) (i j : Nat) : HP := fun h =>
  gs.length = xs.length ∧ Stars (OwnS e sz v (cellsN T gs xs) :: ((piecesN T gs xs).set i hpT).set j hpT) h
theorem SNhh.top {i j : Nat} (en : Ent L (SNhh e sz T v gs xs i j)) : Ent L (Rd sz v (cellsN T gs xs)) :=
  OwnS.rd (e := e) (en.imp fun h ⟨_, k1, k2, d, s1, s2, a, _⟩ => ⟨k1, s1, a⟩)
theorem SNhh.len {i j : Nat} (en : Ent L (SNhh e sz T v gs xs i j)) {h : PH} (s : Sat L h) : gs.length = xs.length := by
  obtain ⟨_, _, q, _⟩ := en h s; exact q
theorem SNhh.cel {i j : Nat} {k : Int} {x : α} (en : Ent L (SNhh e sz T v gs xs i j)) (hx : idx xs k = some x) : Ent L (Cel (blk v) (ofs v + k.toNat * sz) (T.k x (gr gs k.toNat))) := fun h s =>
  Rd.cel (SNhh.top en) (cells_get (SNhh.len en s) hx) h s
theorem Sat.open2 {h : PH} {i j : Int} {x y : α} (hx : idx xs i = some x) (hy : idx xs j = some y) (hne : i ≠ j) (s : Sat (SN e sz T v gs xs :: L) h) :
    Sat (T.d x (gr gs i.toNat) ++ (T.d y (gr gs j.toNat) ++ SNhh e sz T v gs xs i.toNat j.toNat :: L)) h := by
  obtain ⟨hl, s⟩ := SN.flat s
  obtain ⟨k1, k2, d, s1, s2, a, r⟩ := s
  have hn := toNat_ne (idx_spec hx).1 (idx_spec hy).1 hne
  have r2 := Sat.takeSet (A := G (T.d x (gr gs i.toNat))) (i := i.toNat) (pieces_get hl hx) r
  have r3 := Sat.swap (A := OwnS e sz v (cellsN T gs xs)) ⟨k1, k2, d, s1, s2, a, r2⟩
  refine Sat.spread ?_
  obtain ⟨g1, g2, d', t1, t2, a', m⟩ := r3
  refine ⟨g1, g2, d', t1, t2, a', ?_⟩
  obtain ⟨k1, k2, d, s1, s2, a, r⟩ := m
  have r2 := Sat.takeSet (A := G (T.d y (gr gs j.toNat))) (i := j.toNat) (by rw [List.getElem?_set_ne hn]; exact pieces_get hl hy) r
  have r3 := Sat.swap (A := OwnS e sz v (cellsN T gs xs)) ⟨k1, k2, d, s1, s2, a, r2⟩
  refine Sat.spread ?_
  obtain ⟨g1, g2, d', t1, t2, a', m⟩ := r3
  refine ⟨g1, g2, d', t1, t2, a', ?_⟩
  obtain ⟨k1, k2, d, s1, s2, a, r⟩ := Sat.bag (M := OwnS e sz v (cellsN T gs xs) :: ((piecesN T gs xs).set i.toNat hpT).set j.toNat hpT) m
  exact ⟨k1, k2, d, s1, s2, ⟨hl, a⟩, r⟩
theorem Sat.close2 {h : PH} {i j : Int} {x y : α} (x' : α) (hx : idx xs i = some x) (hy : idx xs j = some y) (hne : i ≠ j) (hk : T.k x' (gr gs i.toNat) = T.k x (gr gs i.toNat))
    (s : Sat (T.d x' (gr gs i.toNat) ++ (T.d y (gr gs j.toNat) ++ SNhh e sz T v gs xs i.toNat j.toNat :: L)) h) : Sat (SN e sz T v gs (xs.set i.toNat x') :: L) h := by
  have hn := toNat_ne (idx_spec hx).1 (idx_spec hy).1 hne
  have s1 := Sat.gather s
  obtain ⟨g1, g2, d', t1, t2, a', m⟩ := s1
  have m1 := Sat.swap (Sat.gather m)
  have s2 : Sat (SNhh e sz T v gs xs i.toNat j.toNat :: G (T.d x' (gr gs i.toNat)) :: G (T.d y (gr gs j.toNat)) :: L) h := Sat.swap ⟨g1, g2, d', t1, t2, a', m1⟩
  obtain ⟨k1, k2, d, u1, u2, ⟨hl, a⟩, r⟩ := s2
  have ix := (List.getElem?_eq_some_iff.1 (idx_spec hx).2).1
  have iy := (List.getElem?_eq_some_iff.1 (idx_spec hy).2).1
  obtain ⟨k1, k2, d, t1, t2, a, r⟩ := Sat.flat (M := OwnS e sz v (cellsN T gs xs) :: ((piecesN T gs xs).set i.toNat hpT).set j.toNat hpT) ⟨k1, k2, d, u1, u2, a, Sat.swap r⟩
  have r2 := Sat.setApp (C := G (T.d y (gr gs j.toNat))) (M := ((piecesN T gs xs).set i.toNat hpT).set j.toNat hpT) j.toNat (by rw [List.length_set, List.length_set, pieces_len hl]; exact iy) r
  rw [List.set_set] at r2
  have e0 : ((piecesN T gs xs).set i.toNat hpT).set j.toNat (G (T.d y (gr gs j.toNat))) = (piecesN T gs xs).set i.toNat hpT := set_same (by rw [List.getElem?_set_ne hn]; exact pieces_get hl hy)
  rw [e0] at r2
  have r4 := Sat.setApp (C := G (T.d x' (gr gs i.toNat))) (M := (piecesN T gs xs).set i.toNat hpT) i.toNat (by rw [List.length_set, pieces_len hl]; exact ix) r2
  rw [List.set_set] at r4
  refine SN.bag (by simp [hl]) ?_
  have e1 : cellsN T gs (xs.set i.toNat x') = cellsN T gs xs := by
    have h1 : cellsN T (gs.set i.toNat (gr gs i.toNat)) (xs.set i.toNat x') = (cellsN T gs xs).set i.toNat (T.k x' (gr gs i.toNat)) := (zip_set T.k xs gs i.toNat x' _).symm
    rw [gr_set, hk, set_same (cells_get hl hx)] at h1; exact h1
  have e2 : piecesN T gs (xs.set i.toNat x') = (piecesN T gs xs).set i.toNat (G (T.d x' (gr gs i.toNat))) := by
    have h1 : piecesN T (gs.set i.toNat (gr gs i.toNat)) (xs.set i.toNat x') = (piecesN T gs xs).set i.toNat (G (T.d x' (gr gs i.toNat))) := (zip_set (fun x c => G (T.d x c)) xs gs i.toNat x' _).symm
    rw [gr_set] at h1; exact h1
  rw [e1, e2]
  exact ⟨k1, k2, d, t1, t2, a, r4⟩
end

/-! A map that is gone through: a key that it has gets the value that it has. -/
section
variable {P : Program} {N : Nat} {B : World} {E : Env} {L : List HP} {ops : Array Oper} {rest : List Oper} {Q : Act → World → Prop}
variable {d : Nat} {dd : Option Tmp} {ty : TypeId} {ps : String} {af : Array Edge} {gd : Option (Nat × Bool)}
variable {κ ν : Type} {kf : κ → Value} {vf : ν → Value} {m : κ → Option ν}
/-- Does a key have this value? -/
noncomputable def msame [DecidableEq ν] (m : κ → Option ν) (k : κ) (v : ν) : Option Unit := if m k = some v then some () else none
theorem msame_spec [DecidableEq ν] {k : κ} {v : ν} {u : Unit} (h : msame m k v = some u) : m k = some v := by
  unfold msame at h; split at h
  · assumption
  · cases h
theorem heap_same {w : World} {r : Nat} {o : Obj} (h : w.heap[r]? = some o) : { w with heap := w.heap.setIfInBounds r o } = w := by
  have : w.heap.setIfInBounds r o = w.heap := by
    apply Array.ext_getElem?
    intro j
    rw [Array.getElem?_setIfInBounds]
    by_cases hj : r = j
    · subst hj; rw [if_pos rfl, if_pos (Array.getElem?_eq_some_iff.1 h).1, h]
    · rw [if_neg hj]
  rw [this]
theorem StepW.msameR [DecidableEq κ] {t ke e it r kk : Nat} {q : List (κ × ν)} {x y z : Operand} {k : κ} {v : ν} (ht : mapGB P t ke e = true) (hK : KeyOk P ke kf) (hx : opv E x = some (.map (some r))) (hk : L[kk]? = some (MFR kf vf it r m q)) (hy : opv E y = some (kf k)) (hz : opv E z = some (vf v)) (hs : m k = some v) :
    StepW P N B ⟨dd, .mapUpdate t x y z, ty, ps, af, gd⟩ E L (fun u L' => u = undef ∧ L' = L) := by
  refine StepW.of_skip fun a w en s => ?_
  have hu := mapGB_spec ht
  obtain ⟨h, sh, l, qs, clock, hm, hin, hq, hr, hit⟩ := s.get (Ent.at kk hk)
  have hg : w.heap[r]? = some (.map (Ents kf vf l).toArray clock) := sh r _ hr
  have hck' := fun b => hK.chk b k w
  have hfk := hK.find vf (Ents kf vf l).toArray.toList (l.map fun x => (x.1, x.2.1)) k w (by simpa using ents_map l)
  have hsm := hK.same k
  have hfd := hm.fnd k
  have hrun : (Instr.mapUpdate t (.map (some r)) (kf k) (vf v)).run P w = .ok () w := by
    cases hf : fndG k (l.map fun x => (x.1, x.2.1)) 0 with
    | none =>
      rw [hf] at hfd
      rw [hs] at hfd
      cases hfd
    | some y =>
      rw [hf] at hfk hfd
      obtain ⟨b, hb⟩ := hm.at hf
      have hy2 : y.2 = v := by
        rw [hs] at hfd
        exact Option.some.inj hfd
      rw [hy2] at hb
      have hes := ents_set (kf := kf) (vf := vf) (v := v) hb
      rw [set_same hb] at hes
      have hw := heap_same hg
      have hkey' : (Option.map (fun x => x.key) (Ents kf vf l)[y.1]?).getD (kf k) = kf k := by simp [Ents, hb]
      simp only [Instr.mapUpdate, Sem.run_bind, run_underlying hu, Result.andThen_ok]
      simp [run_getM hg, run_setM hg, hck', hfk, Instr.keyThatStays, hsm, hkey']
      simp at hes
      first
        | rw [hes, hw]
        | (rw [show (Ents kf vf l).modify y.1 _ = Ents kf vf l from hes, run_setM hg, hw])
        | (simp only [hes, run_setM hg, hw])
  refine ⟨L, w, ?_, ⟨rfl, rfl⟩, s⟩
  simp only [execOp, en.eval hx, en.eval hy, en.eval hz, Sem.run_bind, hrun, Result.andThen_ok, Sem.run_pure]
theorem TO.msameR [DecidableEq κ] {t ke e it r : Nat} {q : List (κ × ν)} {x y z : Operand} {k : κ} {v : ν} (kk : Nat) (ht : mapGB P t ke e = true) (hK : KeyOk P ke kf) (hx : opv E x = some (.map (some r))) (hk : L[kk]? = some (MFR kf vf it r m q)) (hy : opv E y = some (kf k)) (hz : opv E z = some (vf v)) (hs : m k = some v)
    (h : TO P N B ops rest E L Q) : TO P N B ops (⟨none, .mapUpdate t x y z, ty, ps, af, none⟩ :: rest) E L Q :=
  TO.step0 rfl rfl (StepW.msameR ht hK hx hk hy hz hs) fun u L' ⟨_, hL⟩ => by subst hL; exact h
end

/-! Slices with three indexes. -/
section
variable {P : Program} {N : Nat} {B : World} {E : Env} {L : List HP} {ops : Array Oper} {rest : List Oper} {Q : Act → World → Prop}
variable {d : Nat} {dd : Option Tmp} {ty : TypeId} {ps : String} {af : Array Edge} {gd : Option (Nat × Bool)}
/-- The header of 's[:h:h]'. -/
def clipv (v : Value) (h : Int) : Value := match v with
  | .slice a _ _ => .slice a h.toNat h.toNat
  | v => v
theorem OwnS.clip {e sz : Nat} {v : Value} {α : Type} {f : α → List Value} {xs ys : List α} {i : Int} (hs : slI xs 0 i = some ys) : ∀ g, OwnS e sz v (xs.map f) g → OwnS e sz (clipv v i) (ys.map f) g := by
  obtain ⟨_, h1, h2, rfl⟩ := slI_spec hs
  intro g ⟨hl, hr⟩
  have hys : ((xs.take i.toNat).drop (0 : Int).toNat) = xs.take i.toNat := by simp
  rw [hys]
  have hall : ∀ c ∈ (xs.take i.toNat).map f, c.length = sz := fun c hc => by
    rw [List.mem_map] at hc
    obtain ⟨x, hx, rfl⟩ := hc
    exact hl _ (List.mem_map.2 ⟨x, List.mem_of_mem_take hx, rfl⟩)
  have hlen : ((xs.take i.toNat).map f).length = i.toNat := by simp; omega
  refine ⟨hall, ?_⟩
  rcases hr with ⟨⟨ad, rfl⟩, hx⟩ | ⟨b, og, cap, cur, rfl, hc, hm, hb, hsz, htk⟩
  · left
    have : xs = [] := by simpa using hx
    subst this
    simp at h2
    have : i = 0 := by omega
    subst this
    simp [clipv]
  · right
    simp at hc htk
    refine ⟨b, og, i.toNat, cur, ?_, by rw [hlen]; omega, by omega, hb, ?_, ?_⟩
    · rw [hlen]; simp [clipv]
    · have : i.toNat * sz ≤ cap * sz := Nat.mul_le_mul_right _ (by omega)
      omega
    · rw [hlen]
      have hsplit : (xs.map f).flatten = ((xs.take i.toNat).map f).flatten ++ ((xs.drop i.toNat).map f).flatten := by
        rw [← List.flatten_append, ← List.map_append, List.take_append_drop]
      have hfl : ((xs.take i.toNat).map f).flatten.length = i.toNat * sz := by rw [flat_len hall, hlen]
      have hle : i.toNat * sz ≤ xs.length * sz := Nat.mul_le_mul_right _ (by omega)
      have : (cur.toList.drop og).take (i.toNat * sz) = ((cur.toList.drop og).take (xs.length * sz)).take (i.toNat * sz) := by rw [List.take_take, Nat.min_eq_left hle]
      rw [this, htk, hsplit, ← hfl]
      exact List.take_left
theorem Sat.clipO {h : PH} {e sz : Nat} {v : Value} {α : Type} {f : α → List Value} {xs ys : List α} {i : Int} (k : Nat) (hk : L[k]? = some (OwnS e sz v (xs.map f))) (hs : slI xs 0 i = some ys) (s : Sat L h) :
    Sat (L.set k (OwnS e sz (clipv v i) (ys.map f))) h := Sat.at k hk (OwnS.clip hs) s
theorem StepS.clip {t e sz : Nat} {x y z : Operand} {v : Value} {α : Type} {f : α → List Value} {xs ys : List α} {i : Int} {k1 k2 : IntKind} (hx : opv E x = some v) (en : Ent L (Rd sz v (xs.map f))) (ht : sliceB P t e sz = true)
    (hy : opv E y = some (.int k1 i)) (hz : opv E z = some (.int k2 i)) (hs : slI xs 0 i = some ys) : StepS P N B ⟨dd, .slice t x none (some y) (some z), ty, ps, af, gd⟩ E L (clipv v i) := by
  intro a w en' s
  obtain ⟨g, sg, hlen, hr⟩ := s.get en
  obtain ⟨hu, hsz⟩ := sliceB_spec ht
  obtain ⟨_, h1, h2, _⟩ := slI_spec hs
  have key : ∀ (a0 : Option Addr) (len cap : Nat), v = .slice a0 len cap → xs.length = len → len ≤ cap → (execOp a.eval ⟨dd, .slice t x none (some y) (some z), ty, ps, af, gd⟩).run P w = .ok (.value (clipv v i)) w := by
    intro a0 len cap hv hle hc
    subst hv
    have b1 : ∀ (k : IntKind) (c : BoundsCode), (Instr.sliceBound (.int k i) cap c).run P w = .ok i.toNat w := fun k c => run_bound (v := .nilFunc) (by omega) (by omega) c w
    have b2 : ∀ (k : IntKind) (c : BoundsCode), (Instr.sliceBound (.int k i) i.toNat c).run P w = .ok i.toNat w := fun k c => run_bound (v := .nilFunc) (by omega) (by omega) c w
    have hb : (Instr.sliceBounds true len cap none (some (.int k1 i)) (some (.int k2 i))).run P w = .ok (0, i.toNat, i.toNat) w := by
      simp [Instr.sliceBounds, b1, b2]
    have had : ∀ (q : Option Addr), (if i.toNat = 0 then q else q.map (·.add (0 * sz))) = q := fun q => by
      split
      · rfl
      · cases q with
        | none => rfl
        | some q => simp [Addr.add]
    simp [execOp, en'.eval hx, en'.eval hy, en'.eval hz, Instr.sliceAt, Instr.slice, run_underlying hu, hb, run_sizeB hsz, clipv]
    try (have := had a0; simpa using this)
  rcases hr with ⟨⟨ad, hv⟩, hn⟩ | ⟨b, o, cap, arr, el, fz, hv, hc, _⟩
  · exact key ad 0 0 hv (by simpa using hn) (Nat.le_refl _)
  · exact key _ _ _ hv (by simp) (by simpa using hc)
end

theorem calls_same {P : Program} {f : Nat} {u v : Value} {w : World} {R : Ending → World → Prop} (h : u = v) (c : Calls P f #[u, u] w R) : Calls P f #[u, v] w R := h ▸ c
/-! A call of a closure that makes memory, under a guard. -/
section
variable {P : Program} {N : Nat} {B : World} {E : Env} {L : List HP} {ops : Array Oper} {rest : List Oper} {Q : Act → World → Prop}
variable {d : Nat} {dd : Option Tmp} {ty : TypeId} {ps : String} {af : Array Edge} {gd : Option (Nat × Bool)}
theorem TO.callOCw {j dj : Nat} {want b : Bool} (hj : (ops[j]?).bind (·.dst) = some dj) (hE : lk E dj = some (.bool b)) (hb : b = want) {k : Nat} (hk : callB P k = true) {f : Operand} {as : List Operand} {ts : Array TypeId} {vs : List Value} {fs cs al : Array Value} {R : Value → List HP → Prop}
    (hf : opv E f = some (.func (.func k) fs cs)) (ha : opvs E as = some vs) (hal : fs ++ vs.toArray ++ cs = al) (hd : Nat.blt d N = true)
    (hc : ∀ w, St B L w → Calls P k al w (fun e w' => ∃ v M, e = .returned v ∧ R v M ∧ St B M w')) (h : ∀ v M, R v M → TO P N B ops rest ((d, v) :: E) M Q) :
    TO P N B ops (⟨some d, .call ⟨.value f, as.toArray, ts⟩, ty, ps, af, some (j, want)⟩ :: rest) E L Q :=
  TO.want rfl hj hE hb rfl hd (StepW.call hk hf ha hal hc) h
end
end Go.Bk
