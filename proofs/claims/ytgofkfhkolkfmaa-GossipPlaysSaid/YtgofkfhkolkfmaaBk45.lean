/-
  A pool of slices that nobody writes any more; values hold places in it. Nothing of any program stands here.
-/
import Derived.Test.YtgofkfhkolkfmaaBk44
namespace Go.Bk
open Go
set_option linter.unusedVariables false
set_option linter.unusedSimpArgs false
/-- A slice's header. -/
abbrev ZH := Option Addr × Nat × Nat
@[reducible] def sv (h : ZH) : Value := .slice h.1 h.2.1 h.2.2
def zh (zs : List ZH) (k : Nat) : ZH := zs.getD k (none, 0, 0)
@[reducible] def zv (zs : List ZH) (k : Nat) : Value := .slice (zh zs k).1 (zh zs k).2.1 (zh zs k).2.2
theorem zh_app {zs t : List ZH} {k : Nat} (h : k < zs.length) : zh (zs ++ t) k = zh zs k := by
  unfold zh
  rw [List.getD_eq_getElem?_getD, List.getD_eq_getElem?_getD, List.getElem?_append_left h]
theorem zv_app {zs t : List ZH} {k : Nat} (h : k < zs.length) : zv zs k = zv (zs ++ t) k := by
  show Value.slice _ _ _ = Value.slice _ _ _
  rw [zh_app h]
theorem zv_new {zs : List ZH} {h : ZH} {m : Nat} (hm : zs.length = m) : sv h = zv (zs ++ [h]) m := by
  subst hm
  have : zh (zs ++ [h]) zs.length = h := by unfold zh; rw [List.getD_eq_getElem?_getD, List.getElem?_append_right (Nat.le_refl _)]; simp
  show Value.slice _ _ _ = Value.slice _ _ _
  rw [this]
@[reducible] def zget {α : Type} (pl : List α) (k : Nat) : Option α := pl[k]?
section
variable {α : Type} {e sz : Nat} {f : α → List Value} {L : List HP} {z0 zs : List ZH} {pl : List (List α)}
/-- A pool: its headers, its slices; z0: the headers with which it began. -/
def PZ (e sz : Nat) (f : α → List Value) (z0 zs : List ZH) (pl : List (List α)) : HP := fun h =>
  (zs.length = pl.length ∧ z0 <+: zs) ∧ Sat (List.zipWith (fun h xs => OwnS e sz (sv h) (xs.map f)) zs pl) h
theorem PZ.pure {h : PH} (en : Ent L (PZ e sz f z0 zs pl)) (s : Sat L h) : zs.length = pl.length ∧ z0 <+: zs := by
  obtain ⟨_, _, p, _⟩ := en h s; exact p
theorem PZ.rd {k : Nat} {xs : List α} (en : Ent L (PZ e sz f z0 zs pl)) (hk : pl[k]? = some xs) : Ent L (Rd sz (zv zs k) (xs.map f)) :=
  OwnS.rd (e := e) (en.imp fun h ⟨⟨hl, _⟩, s⟩ => by
    have hk2 := (List.getElem?_eq_some_iff.1 hk).1
    have hz : zs[k]? = some (zh zs k) := by
      unfold zh
      rw [List.getD_eq_getElem?_getD, List.getElem?_eq_getElem (by omega)]; rfl
    refine Ent.at (A := OwnS e sz (zv zs k) (xs.map f)) k ?_ h s
    rw [List.getElem?_zipWith, hz, hk])
theorem PZ.sub {zz : List ZH} (hz : zz <+: z0) : ∀ g, PZ e sz f z0 zs pl g → PZ e sz f zz zs pl g := fun g ⟨⟨h1, h2⟩, o⟩ => ⟨⟨h1, hz.trans h2⟩, o⟩
theorem PZ.base : ∀ g, PZ e sz f z0 zs pl g → PZ e sz f zs zs pl g := fun g ⟨⟨h1, h2⟩, o⟩ => ⟨⟨h1, List.prefix_rfl⟩, o⟩
theorem Sat.startZ {h : PH} (s : Sat L h) : Sat (PZ e sz f [] [] ([] : List (List α)) :: L) h :=
  Sat.imp1 (fun g a => ⟨g, Sub.refl g, ⟨rfl, List.prefix_rfl⟩, trivial⟩) (Sat.emp s)
theorem OwnS.isS {h : PH} {v : Value} {css : List (List Value)} (en : Ent L (OwnS e sz v css)) (s : Sat L h) : ∃ q : ZH, v = sv q := by
  obtain ⟨_, _, _, r⟩ := en h s
  rcases r with ⟨⟨a, rfl⟩, _⟩ | ⟨g, o, cap, cur, rfl, _⟩
  · exact ⟨(a, 0, 0), rfl⟩
  · exact ⟨(some ⟨g, o, none⟩, _, cap), rfl⟩
theorem Sat.past {A : HP} : ∀ {M : List HP} {h : PH}, Sat (A :: (M ++ L)) h → Sat (M ++ (A :: L)) h
  | [], _, s => s
  | B :: M, h, s => by
    obtain ⟨h1, h2, d, s1, s2, a, r⟩ := Sat.swap s
    exact ⟨h1, h2, d, s1, s2, a, Sat.past r⟩
theorem Sat.freezeZ {h : PH} {q : ZH} {xs : List α} (s : Sat (OwnS e sz (sv q) (xs.map f) :: PZ e sz f z0 zs pl :: L) h) : Sat (PZ e sz f z0 (zs ++ [q]) (pl ++ [xs]) :: L) h := by
  obtain ⟨hl, hp⟩ := PZ.pure Ent.hd.tl s
  have s1 : Sat (OwnS e sz (sv q) (xs.map f) :: G (List.zipWith (fun h xs => OwnS e sz (sv h) (xs.map f)) zs pl) :: L) h := by
    obtain ⟨h1, h2, d, s1, s2, a, r⟩ := s
    exact ⟨h1, h2, d, s1, s2, a, Sat.imp1 (fun g ⟨_, o⟩ => ⟨g, Sub.refl g, o⟩) r⟩
  have s2 : Sat (OwnS e sz (sv q) (xs.map f) :: (List.zipWith (fun h xs => OwnS e sz (sv h) (xs.map f)) zs pl ++ L)) h := by
    obtain ⟨h1, h2, d, s1, s2, a, r⟩ := s1
    exact ⟨h1, h2, d, s1, s2, a, Sat.spread r⟩
  have s3 := Sat.past s2
  have e1 : List.zipWith (fun h xs => OwnS e sz (sv h) (xs.map f)) (zs ++ [q]) (pl ++ [xs]) = List.zipWith (fun h xs => OwnS e sz (sv h) (xs.map f)) zs pl ++ [OwnS e sz (sv q) (xs.map f)] := by
    rw [List.zipWith_append hl]; rfl
  have s4 : Sat (G (List.zipWith (fun h xs => OwnS e sz (sv h) (xs.map f)) (zs ++ [q]) (pl ++ [xs])) :: L) h := by
    refine Sat.gather ?_
    rw [e1, List.append_assoc]; exact s3
  exact Sat.imp1 (fun g o => ⟨g, Sub.refl g, ⟨by simp [hl], hp.trans (List.prefix_append _ _)⟩, o⟩) s4
/-! What holds places of the pool stays as it is when the pool grows: checks of the models. -/
variable {β : Type}
def zok (m k : Nat) : Option Unit := if k < m then some () else none
def zokL (r : β → Nat) (m : Nat) (l : List β) : Option Unit := if l.all (fun x => decide (r x < m)) = true then some () else none
def zokLL (r : β → Nat) (m : Nat) (l : List (List β)) : Option Unit := if l.all (fun x => x.all fun y => decide (r y < m)) = true then some () else none
theorem zok_spec {m k : Nat} {u : Unit} (h : zok m k = some u) : k < m := by
  unfold zok at h; split at h
  · assumption
  · cases h
theorem zokL_spec {r : β → Nat} {m : Nat} {l : List β} {u : Unit} (h : zokL r m l = some u) : ∀ x ∈ l, r x < m := by
  unfold zokL at h; split at h
  · rename_i c; simpa using c
  · cases h
theorem zokLL_spec {r : β → Nat} {m : Nat} {l : List (List β)} {u : Unit} (h : zokLL r m l = some u) : ∀ y ∈ l, ∀ x ∈ y, r x < m := by
  unfold zokLL at h; split at h
  · rename_i c; simpa using c
  · cases h
theorem zext {c : List ZH → β → List Value} {r : β → Nat} {zs t : List ZH} {m : Nat} {l : List β} {u : Unit} (hm : zs.length = m) (h : zokL r m l = some u) (hc : ∀ a b x, zv a (r x) = zv b (r x) → c a x = c b x) : l.map (c zs) = l.map (c (zs ++ t)) :=
  List.map_congr_left fun x hx => hc _ _ x (zv_app (by rw [hm]; exact zokL_spec h x hx))
theorem SS.zext {c : List ZH → β → List Value} {r : β → Nat} {zs t : List ZH} {m ee : Nat} {v : Value} {hs : List Value} {l : List (List β)} {u : Unit} (hm : zs.length = m) (h : zokLL r m l = some u) (hc : ∀ a b x, zv a (r x) = zv b (r x) → c a x = c b x) : SS e ee sz (c zs) v hs l = SS e ee sz (c (zs ++ t)) v hs l := by
  have : ∀ y ∈ l, y.map (c zs) = y.map (c (zs ++ t)) := fun y hy => List.map_congr_left fun x hx => hc _ _ x (zv_app (by rw [hm]; exact zokLL_spec h y hy x hx))
  have e1 : rows ee sz (c zs) hs l = rows ee sz (c (zs ++ t)) hs l := by
    unfold rows
    apply List.ext_getElem?
    intro i
    rw [List.getElem?_zipWith, List.getElem?_zipWith]
    cases h1 : hs[i]? with
    | none => rfl
    | some q =>
      cases h2 : l[i]? with
      | none => rfl
      | some y => simp only [this y (List.mem_of_getElem? h2)]
  funext g
  unfold SS
  rw [e1]
/-- A literal of two slices that are read. -/
theorem RR.lit2 {v h0 h1 : Value} {xs ys : List β} {g : β → List Value} (en : Ent L (OwnS e 1 v ([h0, h1].map hd1))) (e0 : Ent L (Rd sz h0 (xs.map g))) (e1 : Ent L (Rd sz h1 (ys.map g))) : Ent L (RR sz g v [h0, h1] [xs, ys]) := fun h s =>
  ⟨h, Sub.refl h, rfl, (OwnS.rd en) h s, fun i hv row a b => by
    match i with
    | 0 => obtain rfl := Option.some.inj a; obtain rfl := Option.some.inj b; exact e0 h s
    | 1 => obtain rfl := Option.some.inj a; obtain rfl := Option.some.inj b; exact e1 h s
    | i + 2 => cases a⟩
section
variable {P : Program} {N : Nat} {B : World} {E : Env} {ops : Array Oper} {Q : Act → World → Prop}
theorem TO.startZ {l : List Oper} (h : ∀ z0 zs, TO P N B ops l E (PZ e sz f z0 zs ([] : List (List α)) :: L) Q) : TO P N B ops l E L Q := TO.ghost (fun _ s => Sat.startZ s) (h [] [])
end
end
end Go.Bk
