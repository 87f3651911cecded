/-
  Copies that come together, by tags against by moves that are known: both tell the same.
-/
import Derived.Test.YthfkdepcnhhepaaHM
import Derived.Test.YthfkdepcnhhepaaPWays
namespace Go.Proofs.Ythfkdepcnhhepaa
open Go Go.Bk
set_option linter.unusedVariables false
set_option linter.unusedSimpArgs false
set_option linter.unusedSectionVars false

abbrev Tg := Int × Int
abbrev Tm := Tg → Option Bool
abbrev Rp := Tm × Tm × List Int × List Int
def mv (L : List Mv) (z : Int) : Mv := ge (0, 0, 0, 0) L z.toNat
def gl (l : List (List Int)) (j : Nat) : List Int := ge [] l j
open Classical in
noncomputable def pb (p : Prop) : Option Bool := if p then some true else none
theorem pb_iff {p q : Prop} (h : p ↔ q) : pb p = pb q := by have := propext h; subst this; rfl
theorem pb_t {p : Prop} (h : p) : pb p = some true := by unfold pb; simp [h]
theorem pb_f {p : Prop} (h : ¬ p) : pb p = none := by unfold pb; simp [h]
theorem pb_true {p : Prop} : pb p = some true ↔ p := by unfold pb; by_cases h : p <;> simp [h]
theorem pb_getD {p : Prop} [Decidable p] : (pb p).getD false = decide p := by unfold pb; by_cases h : p <;> simp [h]
theorem pb_val {p : Prop} {b : Bool} (h : pb p = some b) : b = true := by unfold pb at h; by_cases c : p <;> simp [c] at h; exact h
theorem pb_none {p : Prop} : pb p = none ↔ ¬ p := by unfold pb; by_cases h : p <;> simp [h]

/-! Maps that are gone through. -/
theorem fold_in (p : List (Tg × Bool)) : ∀ (m : Tm), foldR F102_L0 p m = some (.nxt fun x => if x ∈ p.map (·.1) then some true else m x) := by
  induction p with
  | nil => intro m; simp [foldR]
  | cons y p ih =>
    intro m
    rw [foldR_cons]
    simp only [F102_L0]
    rw [ih]
    congr 2
    funext x
    unfold mupd
    by_cases h1 : x ∈ p.map (·.1)
    · rw [if_pos h1, if_pos (by rw [List.map_cons]; exact List.mem_cons_of_mem _ h1)]
    · rw [if_neg h1]
      by_cases h2 : x = y.1
      · rw [if_pos (show x = (y.1.1, y.1.2) from h2), if_pos (by rw [h2]; simp)]
      · rw [if_neg (show ¬ x = (y.1.1, y.1.2) from h2), if_neg (by rw [List.map_cons, List.mem_cons]; exact fun q => q.elim h2 h1)]
theorem fold_in1 : F102_L1 = F102_L0 := rfl
theorem range_in {m m0 : Tm} (hf : ∃ p, Enum m p) : rangeM m F102_L0 m0 = some (.nxt fun x => if m x ≠ none then some true else m0 x) := by
  obtain ⟨p, hp⟩ := hf
  refine rangeM_of hp fun q hq => ?_
  rw [fold_in]
  congr 2
  funext x
  have : x ∈ q.map (·.1) ↔ m x ≠ none := by
    constructor
    · intro h
      obtain ⟨y, hy, rfl⟩ := List.mem_map.1 h
      rw [(hq.2 y.1 y.2).1 hy]; simp
    · intro h
      cases c : m x with
      | none => exact absurd c h
      | some b => exact List.mem_map.2 ⟨(x, b), (hq.2 x b).2 c, rfl⟩
  by_cases h : m x ≠ none
  · rw [if_pos (this.2 h), if_pos h]
  · rw [if_neg (fun q => h (this.1 q)), if_neg h]
theorem range_pb {P Q : Tg → Prop} {m m0 : Tm} (hm : ∀ x, m x = pb (P x)) (h0 : ∀ x, m0 x = pb (Q x)) (hf : ∃ p, Enum m p) : rangeM m F102_L0 m0 = some (.nxt fun x => pb (P x ∨ Q x)) := by
  rw [range_in hf]
  congr 2
  funext x
  rw [hm, h0]
  by_cases h : P x
  · rw [if_pos (by rw [pb_t h]; simp), pb_t (.inl h)]
  · rw [if_neg (by rw [pb_f h]; simp)]; exact pb_iff ⟨.inr, fun q => q.elim (fun q => absurd q h) id⟩
theorem range_same {P : Tg → Prop} {m : Tm} {body : Tg → Bool → Unit → Option (Ctl Unit Unit Unit)} (hb : body = fun k v _ => Option.bind (msame m (k.1, k.2) true) fun _ => some (.nxt ())) (hm : ∀ x, m x = pb (P x)) (hf : ∃ p, Enum m p) : rangeM m body () = some (.nxt ()) := by
  obtain ⟨p, hp⟩ := hf
  refine rangeM_of hp fun q hq => ?_
  have : ∀ q : List (Tg × Bool), (∀ y ∈ q, m y.1 = some y.2) → foldR body q () = some (.nxt ()) := by
    intro q
    induction q with
    | nil => intro _; rfl
    | cons y q ih =>
      intro h
      have h1 := h y (by simp)
      have h2 : y.2 = true := by rw [hm] at h1; exact pb_val h1
      have h3 : msame m (y.1.1, y.1.2) true = some () := by unfold msame; rw [if_pos (by rw [← h2]; exact h1)]
      rw [foldR_cons, hb]
      simp only [h3, Option.bind_some]
      rw [← hb]
      exact ih fun z hz => h z (List.mem_cons_of_mem _ hz)
  exact this q fun y hy => (hq.2 y.1 y.2).1 hy
/-- Entries of maps of finitely many. -/
theorem fin_pb {m : Tm} {l : List Tg} (h : ∀ x b, m x = some b → x ∈ l) : ∃ p, Enum m p := by
  classical
  have key : ∀ l : List Tg, ∃ p : List (Tg × Bool), (p.map (·.1)).Nodup ∧ ∀ x b, (x, b) ∈ p ↔ (x ∈ l ∧ m x = some b) := by
    intro l
    induction l with
    | nil => exact ⟨[], List.nodup_nil, fun x b => by simp⟩
    | cons y l ih =>
      obtain ⟨p, hp, hq⟩ := ih
      by_cases hy : y ∈ l
      · refine ⟨p, hp, fun x b => ?_⟩
        rw [hq, List.mem_cons]
        constructor
        · rintro ⟨h1, h2⟩; exact ⟨.inr h1, h2⟩
        · rintro ⟨rfl | h1, h2⟩
          · exact ⟨hy, h2⟩
          · exact ⟨h1, h2⟩
      · cases c : m y with
        | none =>
          refine ⟨p, hp, fun x b => ?_⟩
          rw [hq, List.mem_cons]
          constructor
          · rintro ⟨h1, h2⟩; exact ⟨.inr h1, h2⟩
          · rintro ⟨rfl | h1, h2⟩
            · rw [c] at h2; cases h2
            · exact ⟨h1, h2⟩
        | some v =>
          refine ⟨(y, v) :: p, ?_, fun x b => ?_⟩
          · rw [List.map_cons, List.nodup_cons]
            refine ⟨fun h => ?_, hp⟩
            obtain ⟨z, hz, e⟩ := List.mem_map.1 h
            have := ((hq z.1 z.2).1 hz).1
            rw [e] at this; exact hy this
          · rw [List.mem_cons, hq, List.mem_cons]
            constructor
            · rintro (h1 | ⟨h1, h2⟩)
              · obtain ⟨rfl, rfl⟩ := Prod.mk.inj h1; exact ⟨.inl rfl, c⟩
              · exact ⟨.inr h1, h2⟩
            · rintro ⟨rfl | h1, h2⟩
              · left; rw [c] at h2; rw [Option.some.inj h2]
              · exact .inr ⟨h1, h2⟩
  obtain ⟨p, hp, hq⟩ := key l
  exact ⟨p, hp, fun x b => by rw [hq]; exact ⟨fun q => q.2, fun q => ⟨h x b q, q⟩⟩⟩

/-- has: the tags of a thing that are in. -/
theorem fold_has (a0 : Tm × Tm) (v : Int) : ∀ (p : List (Tg × Bool)) (l : List Tg), l.length + p.length ≤ 60000 →
    foldR (F69_L0 a0 v) p l = some (.nxt (l ++ ((p.filter fun y => (y.1.1 == v) && !((a0.2 y.1).getD false)).map (·.1)))) := by
  intro p
  induction p with
  | nil => intro l _; simp [foldR]
  | cons y p ih =>
    intro l hl
    simp only [List.length_cons] at hl
    rw [foldR_cons]
    cases c : ((y.1.1 == v) && !((a0.2 y.1).getD false)) with
    | true =>
      have c' : ((y.1.1 == v) && !((a0.2 (y.1.1, y.1.2)).getD false)) = true := c
      simp only [F69_L0, c', cond_true, app1 16 (by decide) l _ (by omega), Option.bind_some]
      rw [ih _ (by simp; omega), List.filter_cons, if_pos c]
      simp
    | false =>
      have c' : ((y.1.1 == v) && !((a0.2 (y.1.1, y.1.2)).getD false)) = false := c
      simp only [F69_L0, c', cond_false]
      rw [ih _ (by omega), List.filter_cons, if_neg (by rw [c]; simp)]
theorem has_tags (a0 : Tm × Tm) (v : Int) {p0 : List (Tg × Bool)} (hp0 : Enum a0.1 p0) (hl : p0.length ≤ 1000) :
    ∃ c, F69 a0 v = some c ∧ c.length ≤ 1000 ∧ ∀ x, x ∈ c ↔ (a0.1 x ≠ none ∧ x.1 = v ∧ (a0.2 x).getD false = false) := by
  let f : List (Tg × Bool) → List Tg := fun p => (p.filter fun y => (y.1.1 == v) && !((a0.2 y.1).getD false)).map (·.1)
  have hall : ∀ p, Enum a0.1 p → foldR (F69_L0 a0 v) p [] = some (.nxt (f p)) := fun p hp => by
    have := fold_has a0 v p [] (by rw [hp.len hp0]; simp; omega)
    simpa using this
  obtain ⟨c, hc⟩ := rangeQ_of (R := List.Perm) (body := F69_L0 a0 v) (s := []) (c := f p0) ⟨p0, hp0⟩ fun p hp => ⟨f p, hall p hp, ((hp.perm hp0).filter _).map _⟩
  obtain ⟨_, h2⟩ := rangeQ_spec hc
  obtain ⟨t, ht, hperm⟩ := h2 p0 hp0
  rw [hall p0 hp0] at ht
  obtain rfl : f p0 = t := by simpa using ht
  refine ⟨c, by simp only [F69, hc, Option.bind_some], ?_, fun x => ?_⟩
  · rw [← hperm.length_eq]
    have : (f p0).length ≤ p0.length := by show (List.map _ _).length ≤ _; rw [List.length_map]; exact List.length_filter_le _ _
    omega
  · rw [← hperm.mem_iff]
    show x ∈ List.map _ _ ↔ _
    rw [List.mem_map]
    constructor
    · rintro ⟨y, hy, rfl⟩
      rw [List.mem_filter, Bool.and_eq_true, beq_iff_eq, Bool.not_eq_true'] at hy
      refine ⟨?_, hy.2.1, hy.2.2⟩
      rw [(hp0.2 y.1 y.2).1 hy.1]; simp
    · rintro ⟨h1, h2, h3⟩
      cases c' : a0.1 x with
      | none => exact absurd c' h1
      | some b =>
        refine ⟨(x, b), ?_, rfl⟩
        rw [List.mem_filter, Bool.and_eq_true, beq_iff_eq, Bool.not_eq_true']
        exact ⟨(hp0.2 x b).2 c', h2, h3⟩

/-! Lists that are counted. -/
theorem join_count {A B : List Int} (hA : A.Nodup) (hB : B.Nodup) (p : Int → Bool) (h : (∀ z ∈ A, p z = true → z ∈ B) ∨ (∀ z ∈ B, p z = true → z ∈ A)) :
    ((A ++ B.filter fun z => !decide (z ∈ A)).countP p : Int) = mx (A.countP p : Int) (B.countP p : Int) := by
  rw [List.countP_append]
  have e1 := List.countP_eq_length_filter (p := p) (l := A)
  have e2 := List.countP_eq_length_filter (p := p) (l := B)
  have e3 := List.countP_eq_length_filter (p := p) (l := B.filter fun z => !decide (z ∈ A))
  rcases h with h | h
  · have n1 : (A.filter p ++ (B.filter fun z => !decide (z ∈ A)).filter p).Nodup := by
      rw [List.nodup_append]
      refine ⟨hA.filter _, (hB.filter _).filter _, ?_⟩
      intro a ha b hb e
      subst e
      rw [List.mem_filter, List.mem_filter] at hb
      have := hb.1.2
      simp at this
      exact this (List.mem_filter.1 ha).1
    have m : ∀ z, z ∈ A.filter p ++ (B.filter fun z => !decide (z ∈ A)).filter p ↔ z ∈ B.filter p := by
      intro z
      simp only [List.mem_append, List.mem_filter, Bool.not_eq_true', decide_eq_false_iff_not]
      constructor
      · rintro (⟨h1, h2⟩ | ⟨⟨h1, _⟩, h2⟩)
        · exact ⟨h z h1 h2, h2⟩
        · exact ⟨h1, h2⟩
      · rintro ⟨h1, h2⟩
        by_cases c : z ∈ A
        · exact .inl ⟨c, h2⟩
        · exact .inr ⟨⟨h1, c⟩, h2⟩
    have l1 := nodup_len n1 fun z hz => (m z).1 hz
    have l2 := nodup_len (hB.filter p) fun z hz => (m z).2 hz
    rw [List.length_append] at l1 l2
    unfold mx
    split <;> omega
  · have z : (B.filter fun z => !decide (z ∈ A)).filter p = [] := by
      rw [List.filter_eq_nil_iff]
      intro z hz hp
      rw [List.mem_filter] at hz
      have := hz.2
      simp at this
      exact this (h z hz.1 hp)
    have l2 := nodup_len (hB.filter p) (q := A.filter p) fun z hz => by
      rw [List.mem_filter] at hz ⊢
      exact ⟨h z hz.1 hz.2, hz.2⟩
    have z3 : (B.filter fun z => !decide (z ∈ A)).countP p = 0 := by rw [e3, z]; rfl
    unfold mx
    split <;> omega

/-! What is told of the moves. -/
def kd (L : List Mv) (z : Int) : Int := (mv L z).1
def fr (L : List Mv) (z : Int) : Int := (mv L z).2.1
def vl (L : List Mv) (z : Int) : Int := (mv L z).2.2.2
def rp (R : List Rp) (i : Nat) : Rp := ge (mzero, mzero, [], []) R i
def Kn (n : Nat) (K : List (List Int)) (z : Int) : Prop := ∃ j, j < n ∧ z ∈ gl K j
def InT (L : List Mv) (K : List (List Int)) (N : Int → Int) (i : Nat) (x : Tg) : Prop := ∃ z ∈ gl K i, kd L z = 1 ∧ vl L z = x.1 ∧ N z = x.2
def OutT (L : List Mv) (K T : List (List Int)) (N : Int → Int) (i : Nat) (x : Tg) : Prop := ∃ d ∈ gl K i, ∃ z ∈ gl T d.toNat, vl L z = x.1 ∧ N z = x.2
def isUp (L : List Mv) (j : Nat) (s : Int) (z : Int) : Bool := (kd L z == 3) && (fr L z == (j : Int)) && (vl L z == s)
theorem isUp_iff {L : List Mv} {j : Nat} {s z : Int} : isUp L j s z = true ↔ kd L z = 3 ∧ fr L z = (j : Int) ∧ vl L z = s := by simp [isUp, and_assoc]
structure InvK (L : List Mv) (n k : Nat) (K : List (List Int)) : Prop where
  lk : K.length = n
  kb : ∀ z, Kn n K z → 0 ≤ z ∧ z < k
  nd : ∀ i, i < n → (gl K i).Nodup
  ups : ∀ z, Kn n K z → kd L z = 3 → (0 ≤ fr L z ∧ fr L z < n) ∧ (vl L z = 1 ∨ vl L z = -1)
  own : ∀ i, i < n → ∀ a, Kn n K a → kd L a = 3 → fr L a = (i : Int) → a ∈ gl K i
  pre : ∀ i, i < n → ∀ a b, Kn n K a → b ∈ gl K i → kd L a = 3 → kd L b = 3 → fr L a = fr L b → a < b → a ∈ gl K i
structure Inv (L : List Mv) (n k : Nat) (R : List Rp) (tg : Int) (T K : List (List Int)) (N : Int → Int) : Prop extends InvK L n k K where
  lr : R.length = n
  lt : T.length = L.length
  tg0 : 0 ≤ tg ∧ tg ≤ k
  nb : ∀ z, Kn n K z → kd L z = 1 → 1 ≤ N z ∧ N z ≤ tg
  inj : ∀ a b, Kn n K a → Kn n K b → kd L a = 1 → kd L b = 1 → N a = N b → a = b
  te : ∀ d, k ≤ d → gl T d = []
  tl : ∀ d, (gl T d).length ≤ 60
  tk : ∀ d z, z ∈ gl T d → kd L z = 1 ∧ Kn n K z
  inn : ∀ i, i < n → ∀ x, (rp R i).1 x = pb (InT L K N i x)
  out : ∀ i, i < n → ∀ x, (rp R i).2.1 x = pb (OutT L K T N i x)
  lu : ∀ i, i < n → (rp R i).2.2.1.length = n ∧ (rp R i).2.2.2.length = n
  up : ∀ i, i < n → ∀ j, j < n → ge 0 (rp R i).2.2.1 j = ((gl K i).countP (isUp L j 1) : Int)
  low : ∀ i, i < n → ∀ j, j < n → ge 0 (rp R i).2.2.2 j = ((gl K i).countP (isUp L j (-1)) : Int)

section
variable {L : List Mv} {n k : Nat} {R : List Rp} {tg : Int} {T K : List (List Int)} {N : Int → Int}
theorem Inv.len (I : Inv L n k R tg T K N) {i : Nat} (hi : i < n) : (gl K i).length ≤ k := by
  have := nodup_len (I.nd i hi) (q := (List.range k).map fun z : Nat => (z : Int)) fun z hz => by
    have := I.kb z ⟨i, hi, hz⟩
    exact List.mem_map.2 ⟨z.toNat, by rw [List.mem_range]; omega, by omega⟩
  simpa using this
theorem Inv.fin1 (I : Inv L n k R tg T K N) {i : Nat} (hi : i < n) : ∃ p, Enum (rp R i).1 p ∧ p.length ≤ k := by
  have mem : ∀ x b, (rp R i).1 x = some b → x ∈ (gl K i).map fun z => (vl L z, N z) := fun x b h => by
    rw [I.inn i hi] at h
    have hb := pb_val h
    rw [hb, pb_true] at h
    obtain ⟨z, hz, _, h2, h3⟩ := h
    exact List.mem_map.2 ⟨z, hz, by rw [h2, h3]⟩
  obtain ⟨p, hp⟩ := fin_pb mem
  refine ⟨p, hp, ?_⟩
  have := nodup_len hp.1 (q := (gl K i).map fun z => (vl L z, N z)) fun x hx => by
    obtain ⟨y, hy, rfl⟩ := List.mem_map.1 hx
    exact mem y.1 y.2 ((hp.2 _ _).1 hy)
  rw [List.length_map, List.length_map] at this
  have := I.len hi
  omega
theorem Inv.fin2 (I : Inv L n k R tg T K N) {i : Nat} (hi : i < n) : ∃ p, Enum (rp R i).2.1 p := by
  refine fin_pb (l := (gl K i).flatMap fun d => (gl T d.toNat).map fun z => (vl L z, N z)) fun x b h => ?_
  rw [I.out i hi] at h
  have hb := pb_val h
  rw [hb, pb_true] at h
  obtain ⟨d, hd, z, hz, h2, h3⟩ := h
  rw [List.mem_flatMap]
  exact ⟨d, hd, List.mem_map.2 ⟨z, hz, by rw [h2, h3]⟩⟩
theorem idx_mv {z : Int} (h0 : 0 ≤ z) (h : z < L.length) : idx L z = some (mv L z) := by
  obtain ⟨c, rfl⟩ := nat_of h0
  have := idx_ge ((0, 0, 0, 0) : Mv) (l := L) (j := c) (by omega)
  rw [this]; rfl
theorem idx_gl {X : List (List Int)} {z : Int} (h0 : 0 ≤ z) (h : z < X.length) : idx X z = some (gl X z.toNat) := by
  obtain ⟨c, rfl⟩ := nat_of h0
  exact idx_ge ([] : List Int) (l := X) (j := c) (by omega)

/-- What a copy has of a thing, by the moves. -/
def refL (L : List Mv) (T : List (List Int)) (ks : List Int) (v : Int) : List Int := ks.filter fun z => (kd L z == 1) && (vl L z == v) && (ks.all fun d => !decide (z ∈ gl T d.toNat))
theorem all_val (ks : List Int) (hl : ks.length ≤ 60) (hk : ∀ d ∈ ks, 0 ≤ d ∧ d < T.length) (ht : ∀ d, (gl T d).length ≤ 60) (x : Int) :
    whileM (F71_L1 T x ks) (true, 0) = some (.brk (ks.all fun d => !decide (x ∈ gl T d.toNat))) := by
  have := while_upto (body := F71_L1 T x ks) (fun j => ((ks.take j).all fun d => !decide (x ∈ gl T d.toNat), (j : Int))) ks.length (c := .brk (ks.all fun d => !decide (x ∈ gl T d.toNat))) (fun j hj => ?_) (by simp [F71_L1]) (by simp)
  · simpa using this
  · have hd : decide ((j : Int) < (ks.length : Int)) = true := by rw [decide_eq_true_eq]; omega
    have hg : ks[j]? = some ks[j] := List.getElem?_eq_getElem hj
    obtain ⟨h0, h1⟩ := hk _ (List.getElem_mem hj)
    have hh := has_val (gl T (ks[j]).toNat) (by have := ht (ks[j]).toNat; omega) x
    have e : (ks.take (j + 1)).all (fun d => !decide (x ∈ gl T d.toNat)) = ((ks.take j).all (fun d => !decide (x ∈ gl T d.toNat)) && !decide (x ∈ gl T (ks[j]).toNat)) := by rw [take_succ' hj, List.all_append]; simp
    rw [e]
    cases c : (ks.take j).all fun d => !decide (x ∈ gl T d.toNat) with
    | true => simp only [F71_L1, hd, cond_true, idx_some hg, Option.bind_some, idx_gl h0 h1, hh, w64_succ hj (by omega), Bool.true_and]
    | false => simp only [F71_L1, hd, cond_true, cond_false, idx_some hg, Option.bind_some, w64_succ hj (by omega), Bool.false_and]
theorem in_val {i : Nat} (hi : i < K.length) (hl : (gl K i).length ≤ 60) (hk : ∀ d ∈ gl K i, 0 ≤ d ∧ d < L.length) (hT : T.length = L.length) (ht : ∀ d, (gl T d).length ≤ 60) (v : Int) :
    F71 (i : Int) v K L T = some (refL L T (gl K i) v) := by
  have h := while_upto (body := F71_L0 (i : Int) v K L T (gl K i)) (fun j => (((gl K i).take j).filter fun z => (kd L z == 1) && (vl L z == v) && ((gl K i).all fun d => !decide (z ∈ gl T d.toNat)), (j : Int))) (gl K i).length (c := .brk (refL L T (gl K i) v)) (fun j hj => ?_) (by simp [F71_L0, refL]) (by simp)
  · have h' : whileM (F71_L0 (i : Int) v K L T (gl K i)) ([], 0) = some (.brk (refL L T (gl K i) v)) := h
    have ii : idx K (i : Int) = some (gl K i) := idx_ge ([] : List Int) hi
    simp only [F71, ii, Option.bind_some, h', Ctl.on]
  · have ii : idx K (i : Int) = some (gl K i) := idx_ge ([] : List Int) hi
    generalize gl K i = ks at hl hk hj ii
    have hd : decide ((j : Int) < (ks.length : Int)) = true := by rw [decide_eq_true_eq]; omega
    have hg : ks[j]? = some ks[j] := List.getElem?_eq_getElem hj
    obtain ⟨h0, h1⟩ := hk _ (List.getElem_mem hj)
    have im := idx_mv (L := L) h0 h1
    have ha := all_val (T := T) ks hl (fun d hd => by rw [hT]; exact hk d hd) ht ks[j]
    have e : ∀ f : Int → Bool, (ks.take (j + 1)).filter f = (ks.take j).filter f ++ (if f ks[j] = true then [ks[j]] else []) := fun f => by
      rw [take_succ' hj, List.filter_append]
      congr 1
      by_cases c : f ks[j] = true
      · rw [if_pos c]; simp [c]
      · rw [if_neg c]; simp [c]
    rw [e]
    have c1 : (kd L ks[j] == 1) = ((mv L ks[j]).1 == 1) := rfl
    have c2 : (vl L ks[j] == v) = ((mv L ks[j]).2.2.2 == v) := rfl
    cases q1 : ((mv L ks[j]).1 == 1) with
    | false =>
      have n1 : ((mv L ks[j]).1 != 1) = true := by rw [bne, q1]; rfl
      simp only [F71_L0, hd, cond_true, idx_some hg, Option.bind_some, im, n1, c1, q1, w64_succ hj (by omega), Bool.false_and, Bool.false_eq_true, if_false, List.append_nil]
    | true =>
      have n1 : ((mv L ks[j]).1 != 1) = false := by rw [bne, q1]; rfl
      cases q2 : ((mv L ks[j]).2.2.2 == v) with
      | false =>
        have n2 : ((mv L ks[j]).2.2.2 != v) = true := by rw [bne, q2]; rfl
        simp only [F71_L0, hd, cond_true, cond_false, idx_some hg, Option.bind_some, im, n1, n2, c1, c2, q1, q2, w64_succ hj (by omega), Bool.and_false, Bool.false_and, Bool.false_eq_true, if_false, List.append_nil]
      | true =>
        have n2 : ((mv L ks[j]).2.2.2 != v) = false := by rw [bne, q2]; rfl
        cases q3 : ks.all fun d => !decide (ks[j] ∈ gl T d.toNat) with
        | false =>
          rw [q3] at ha
          simp only [F71_L0, hd, cond_true, cond_false, idx_some hg, Option.bind_some, im, n1, n2, c1, c2, q1, q2, q3, ii, ha, Ctl.on, w64_succ hj (by omega), Bool.and_false, Bool.and_true, Bool.false_eq_true, if_false, List.append_nil]
        | true =>
          rw [q3] at ha
          have hf : ((ks.take j).filter fun z => (kd L z == 1) && (vl L z == v) && (ks.all fun d => !decide (z ∈ gl T d.toNat))).length ≤ 60 := by
            have h1 := List.length_filter_le (fun z => (kd L z == 1) && (vl L z == v) && (ks.all fun d => !decide (z ∈ gl T d.toNat))) (ks.take j)
            have h2 : (ks.take j).length ≤ ks.length := by rw [List.length_take]; omega
            omega
          have ap := app1 (α := Int) 8 (by decide) ((ks.take j).filter fun z => (kd L z == 1) && (vl L z == v) && (ks.all fun d => !decide (z ∈ gl T d.toNat))) ks[j] (by omega)
          simp only [F71_L0, hd, cond_true, cond_false, idx_some hg, Option.bind_some, im, n1, n2, c1, c2, q1, q2, q3, ii, ha, Ctl.on, w64_succ hj (by omega), Bool.and_true, if_true, ap]
theorem mem_refL {ks : List Int} {v z : Int} : z ∈ refL L T ks v ↔ z ∈ ks ∧ kd L z = 1 ∧ vl L z = v ∧ ∀ d ∈ ks, z ∉ gl T d.toNat := by
  unfold refL
  simp only [List.mem_filter, Bool.and_eq_true, beq_iff_eq, List.all_eq_true, Bool.not_eq_true', decide_eq_false_iff_not, and_assoc]
/-- Both have the same of a thing. -/
theorem has_both (I : Inv L n k R tg T K N) {i : Nat} (hi : i < n) (v : Int) (hk : k ≤ 1000) :
    ∃ c, F69 ((rp R i).1, (rp R i).2.1) v = some c ∧ c.length ≤ 1000 ∧ ∀ x, x ∈ c ↔ ∃ z ∈ refL L T (gl K i) v, x = (v, N z) := by
  obtain ⟨p, hp, hpl⟩ := I.fin1 hi
  obtain ⟨c, h1, h2, h3⟩ := has_tags ((rp R i).1, (rp R i).2.1) v hp (by omega)
  refine ⟨c, h1, h2, fun x => ?_⟩
  rw [h3]
  show ((rp R i).1 x ≠ none ∧ x.1 = v ∧ ((rp R i).2.1 x).getD false = false) ↔ _
  rw [I.inn i hi, I.out i hi]
  classical
  rw [pb_getD, decide_eq_false_iff_not]
  constructor
  · rintro ⟨a, b, c⟩
    have : InT L K N i x := Classical.byContradiction fun q => a (pb_f q)
    obtain ⟨z, hz, z1, z2, z3⟩ := this
    refine ⟨z, mem_refL.2 ⟨hz, z1, by rw [z2, b], fun d hd hT => c ⟨d, hd, z, hT, z2, z3⟩⟩, ?_⟩
    rw [← b, z3]
  · rintro ⟨z, hz, rfl⟩
    obtain ⟨z1, z2, z3, z4⟩ := mem_refL.1 hz
    have hin : InT L K N i (v, N z) := ⟨z, z1, z2, z3, rfl⟩
    refine ⟨by rw [pb_t hin]; simp, rfl, ?_⟩
    rintro ⟨d, hd, y, hy, y1, y2⟩
    obtain ⟨y3, y4⟩ := I.tk _ y hy
    have : y = z := I.inj y z y4 ⟨i, hi, z1⟩ y3 z2 y2
    subst this
    exact z4 d hd hy

/-! What a move does to what is known. -/
theorem gl_set {i b : Nat} {A : List Int} (hi : i < K.length) : gl (K.set i A) b = if b = i then A else gl K b := ge_set hi
theorem rp_set {i b : Nat} {X : Rp} (hi : i < R.length) : rp (R.set i X) b = if b = i then X else rp R b := ge_set hi
theorem app_mem {i : Nat} {y z : Int} (hi : i < K.length) (j : Nat) : z ∈ gl (K.set i (gl K i ++ [y])) j ↔ z ∈ gl K j ∨ (j = i ∧ z = y) := by
  rw [gl_set hi]
  by_cases c : j = i
  · subst c; simp
  · simp [c]
theorem app_kn {i : Nat} {y z : Int} (lk : K.length = n) (hi : i < n) : Kn n (K.set i (gl K i ++ [y])) z ↔ Kn n K z ∨ z = y := by
  unfold Kn
  simp only [app_mem (by rw [lk]; exact hi)]
  constructor
  · rintro ⟨j, hj, h | ⟨rfl, h⟩⟩
    · exact .inl ⟨j, hj, h⟩
    · exact .inr h
  · rintro (⟨j, hj, h⟩ | h)
    · exact ⟨j, hj, .inl h⟩
    · exact ⟨i, hi, .inr ⟨rfl, h⟩⟩
theorem InvK.step (I : InvK L n k K) : InvK L n (k + 1) K := { I with kb := fun z hz => by have := I.kb z hz; omega }
theorem InvK.app (I : InvK L n k K) {i : Nat} (hi : i < n) (h3 : kd L (k : Int) = 3 → fr L (k : Int) = (i : Int) ∧ (vl L (k : Int) = 1 ∨ vl L (k : Int) = -1)) : InvK L n (k + 1) (K.set i (gl K i ++ [(k : Int)])) := by
  have mem := fun j z => app_mem (K := K) (i := i) (y := (k : Int)) (z := z) (by rw [I.lk]; exact hi) j
  have kn := fun z => app_kn (K := K) (i := i) (y := (k : Int)) (z := z) I.lk hi
  refine { lk := by rw [List.length_set]; exact I.lk, kb := fun z hz => ?_, nd := fun j hj => ?_, ups := fun z hz q => ?_, own := fun j hj a ha q f => ?_, pre := fun j hj a b ha hb qa qb f lt => ?_ }
  · rcases (kn z).1 hz with h | rfl
    · have := I.kb z h; omega
    · omega
  · rw [gl_set (by rw [I.lk]; exact hi)]
    by_cases c : j = i
    · rw [if_pos c, List.nodup_append]
      refine ⟨I.nd i hi, by simp, fun a ha b hb e => ?_⟩
      simp at hb
      have := I.kb a ⟨i, hi, ha⟩
      omega
    · rw [if_neg c]; exact I.nd j hj
  · rcases (kn z).1 hz with h | rfl
    · exact I.ups z h q
    · obtain ⟨e1, e2⟩ := h3 q; exact ⟨by omega, e2⟩
  · rw [mem]
    rcases (kn a).1 ha with h | rfl
    · exact .inl (I.own j hj a h q f)
    · have := (h3 q).1; exact .inr ⟨by omega, rfl⟩
  · rw [mem] at hb ⊢
    rcases hb with hb | ⟨rfl, rfl⟩
    · rcases (kn a).1 ha with h | rfl
      · exact .inl (I.pre j hj a b h hb qa qb f lt)
      · have := I.kb b ⟨j, hj, hb⟩; omega
    · rcases (kn a).1 ha with h | rfl
      · exact .inl (I.own j hj a h qa (by rw [f]; exact (h3 qb).1))
      · omega
theorem Inv.step (I : Inv L n k R tg T K N) : Inv L n (k + 1) R tg T K N :=
  { I with toInvK := I.toInvK.step, tg0 := by have := I.tg0; omega, te := fun d hd => I.te d (by omega) }
theorem cnt_app {i : Nat} (lk : K.length = n) (hi : i < n) (p : Int → Bool) (j : Nat) : ((gl (K.set i (gl K i ++ [(k : Int)])) j).countP p : Int) = ((gl K j).countP p : Int) + (if j = i ∧ p (k : Int) = true then 1 else 0) := by
  rw [gl_set (by rw [lk]; exact hi)]
  by_cases c : j = i
  · subst c
    rw [if_pos rfl, List.countP_append]
    by_cases q : p (k : Int) = true
    · rw [if_pos ⟨rfl, q⟩]; simp [q]
    · rw [if_neg (fun h => q h.2)]; simp [q]
  · rw [if_neg c, if_neg (fun h => c h.1)]; simp
/-- A thing is put in. -/
theorem Inv.add (I : Inv L n k R tg T K N) {i : Nat} (hi : i < n) (h1 : kd L (k : Int) = 1) :
    Inv L n (k + 1) (R.set i (mupd (rp R i).1 (vl L (k : Int), tg + 1) true, (rp R i).2.1, (rp R i).2.2.1, (rp R i).2.2.2)) (tg + 1) T (K.set i (gl K i ++ [(k : Int)])) (fun z => if z = (k : Int) then tg + 1 else N z) := by
  generalize hN : (fun z : Int => if z = (k : Int) then tg + 1 else N z) = N'
  have n1 : ∀ z, z ≠ (k : Int) → N' z = N z := fun z h => by rw [← hN]; simp [h]
  have n2 : N' (k : Int) = tg + 1 := by rw [← hN]; simp
  have hK := I.toInvK.app hi (fun h => by rw [h1] at h; cases h)
  have mem := fun j z => app_mem (K := K) (i := i) (y := (k : Int)) (z := z) (by rw [I.lk]; exact hi) j
  have kn := fun z => app_kn (K := K) (i := i) (y := (k : Int)) (z := z) I.lk hi
  have ne : ∀ z, Kn n K z → z ≠ (k : Int) := fun z hz => by have := I.kb z hz; omega
  have rs := fun b X => rp_set (R := R) (i := i) (b := b) (X := X) (by rw [I.lr]; exact hi)
  have nu : ∀ (j : Nat) (s : Int), isUp L j s (k : Int) = false := fun j s => by
    cases c : isUp L j s (k : Int) with
    | false => rfl
    | true => have := (isUp_iff.1 c).1; rw [h1] at this; cases this
  have tg0 := I.tg0
  refine { hK with lr := by rw [List.length_set]; exact I.lr, lt := I.lt, tg0 := by omega, nb := fun z hz q => ?_, inj := fun a b ha hb qa qb e => ?_, te := fun d hd => I.te d (by omega), tl := I.tl, tk := fun d z hz => ?_, inn := fun j hj x => ?_, out := fun j hj x => ?_, lu := fun j hj => ?_, up := fun j hj a ha => ?_, low := fun j hj a ha => ?_ }
  · rcases (kn z).1 hz with h | rfl
    · rw [n1 z (ne z h)]; have := I.nb z h q; omega
    · rw [n2]; omega
  · rcases (kn a).1 ha with h | rfl <;> rcases (kn b).1 hb with g | rfl
    · rw [n1 a (ne a h), n1 b (ne b g)] at e; exact I.inj a b h g qa qb e
    · rw [n1 a (ne a h), n2] at e; have := I.nb a h qa; omega
    · rw [n2, n1 b (ne b g)] at e; have := I.nb b g qb; omega
    · rfl
  · obtain ⟨h2, h3⟩ := I.tk d z hz; exact ⟨h2, (kn z).2 (.inl h3)⟩
  · have e : InT L (K.set i (gl K i ++ [(k : Int)])) N' j x ↔ (InT L K N j x ∨ (j = i ∧ x = (vl L (k : Int), tg + 1))) := by
      unfold InT
      constructor
      · rintro ⟨z, hz, q, f, g⟩
        rcases (mem j z).1 hz with h | ⟨rfl, rfl⟩
        · rw [n1 z (ne z ⟨j, hj, h⟩)] at g; exact .inl ⟨z, h, q, f, g⟩
        · rw [n2] at g; exact .inr ⟨rfl, by rw [f, g]⟩
      · rintro (⟨z, hz, q, f, g⟩ | ⟨rfl, rfl⟩)
        · exact ⟨z, (mem j z).2 (.inl hz), q, f, by rw [n1 z (ne z ⟨j, hj, hz⟩)]; exact g⟩
        · exact ⟨k, (mem j _).2 (.inr ⟨rfl, rfl⟩), h1, rfl, n2⟩
    rw [rs, pb_iff e]
    by_cases c : j = i
    · subst c
      rw [if_pos rfl]
      show mupd (rp R j).1 _ true x = _
      unfold mupd
      by_cases c2 : x = (vl L (k : Int), tg + 1)
      · rw [if_pos c2, pb_t (.inr ⟨rfl, c2⟩)]
      · rw [if_neg c2, I.inn j hj]; exact pb_iff ⟨.inl, fun h => h.elim id fun q => absurd q.2 c2⟩
    · rw [if_neg c, I.inn j hj]; exact pb_iff ⟨.inl, fun h => h.elim id fun q => absurd q.1 c⟩
  · have e : OutT L (K.set i (gl K i ++ [(k : Int)])) T N' j x ↔ OutT L K T N j x := by
      unfold OutT
      constructor
      · rintro ⟨d, hd, z, hz, f, g⟩
        have hn := ne z (I.tk _ z hz).2
        rw [n1 z hn] at g
        rcases (mem j d).1 hd with h | ⟨rfl, rfl⟩
        · exact ⟨d, h, z, hz, f, g⟩
        · rw [Int.toNat_natCast, I.te k (Nat.le_refl _)] at hz; cases hz
      · rintro ⟨d, hd, z, hz, f, g⟩
        exact ⟨d, (mem j d).2 (.inl hd), z, hz, f, by rw [n1 z (ne z (I.tk _ z hz).2)]; exact g⟩
    rw [rs, pb_iff e]
    by_cases c : j = i
    · subst c; rw [if_pos rfl]; exact I.out j hj x
    · rw [if_neg c]; exact I.out j hj x
  · rw [rs]
    by_cases c : j = i
    · subst c; rw [if_pos rfl]; exact I.lu j hj
    · rw [if_neg c]; exact I.lu j hj
  · rw [rs, cnt_app I.lk hi, nu]
    simp only [Bool.false_eq_true, and_false, if_false, Int.add_zero]
    by_cases c : j = i
    · subst c; rw [if_pos rfl]; exact I.up j hj a ha
    · rw [if_neg c]; exact I.up j hj a ha
  · rw [rs, cnt_app I.lk hi, nu]
    simp only [Bool.false_eq_true, and_false, if_false, Int.add_zero]
    by_cases c : j = i
    · subst c; rw [if_pos rfl]; exact I.low j hj a ha
    · rw [if_neg c]; exact I.low j hj a ha
/-- A thing is taken out. -/
theorem Inv.drop (I : Inv L n k R tg T K N) {i : Nat} (hi : i < n) (h2 : kd L (k : Int) = 2) (hk : k < L.length) (h60 : k ≤ 60) {v : Int} {c : List Tg} (hc : ∀ x, x ∈ c ↔ ∃ z ∈ refL L T (gl K i) v, x = (v, N z)) :
    Inv L n (k + 1) (R.set i ((rp R i).1, (fun x => if x ∈ c then some true else (rp R i).2.1 x), (rp R i).2.2.1, (rp R i).2.2.2)) tg (T.set k (refL L T (gl K i) v)) (K.set i (gl K i ++ [(k : Int)])) N := by
  have hK := I.toInvK.app hi (fun h => by rw [h2] at h; cases h)
  have mem := fun j z => app_mem (K := K) (i := i) (y := (k : Int)) (z := z) (by rw [I.lk]; exact hi) j
  have kn := fun z => app_kn (K := K) (i := i) (y := (k : Int)) (z := z) I.lk hi
  have ne : ∀ z, Kn n K z → z ≠ (k : Int) := fun z hz => by have := I.kb z hz; omega
  have rs := fun b X => rp_set (R := R) (i := i) (b := b) (X := X) (by rw [I.lr]; exact hi)
  have ts := fun b => gl_set (K := T) (i := k) (b := b) (A := refL L T (gl K i) v) (by rw [I.lt]; exact hk)
  have nu : ∀ (j : Nat) (s : Int), isUp L j s (k : Int) = false := fun j s => by
    cases c : isUp L j s (k : Int) with
    | false => rfl
    | true => have := (isUp_iff.1 c).1; rw [h2] at this; cases this
  have nk1 : kd L (k : Int) ≠ 1 := by rw [h2]; decide
  have tg0 := I.tg0
  have kl := I.len hi
  refine { hK with lr := by rw [List.length_set]; exact I.lr, lt := by rw [List.length_set]; exact I.lt, tg0 := by omega, nb := fun z hz q => ?_, inj := fun a b ha hb qa qb e => ?_, te := fun d hd => ?_, tl := fun d => ?_, tk := fun d z hz => ?_, inn := fun j hj x => ?_, out := fun j hj x => ?_, lu := fun j hj => ?_, up := fun j hj a ha => ?_, low := fun j hj a ha => ?_ }
  · rcases (kn z).1 hz with h | rfl
    · exact I.nb z h q
    · exact absurd q nk1
  · rcases (kn a).1 ha with h | rfl <;> rcases (kn b).1 hb with g | rfl
    · exact I.inj a b h g qa qb e
    · exact absurd qb nk1
    · exact absurd qa nk1
    · rfl
  · rw [ts, if_neg (by omega)]; exact I.te d (by omega)
  · rw [ts]
    by_cases e : d = k
    · rw [if_pos e]
      have := List.length_filter_le (fun z => (kd L z == 1) && (vl L z == v) && ((gl K i).all fun d => !decide (z ∈ gl T d.toNat))) (gl K i)
      show (List.filter _ _).length ≤ 60
      omega
    · rw [if_neg e]; exact I.tl d
  · rw [ts] at hz
    by_cases e : d = k
    · rw [if_pos e] at hz
      obtain ⟨z1, z2, _⟩ := mem_refL.1 hz
      exact ⟨z2, (kn z).2 (.inl ⟨i, hi, z1⟩)⟩
    · rw [if_neg e] at hz
      obtain ⟨q1, q2⟩ := I.tk d z hz
      exact ⟨q1, (kn z).2 (.inl q2)⟩
  · have e : InT L (K.set i (gl K i ++ [(k : Int)])) N j x ↔ InT L K N j x := by
      unfold InT
      constructor
      · rintro ⟨z, hz, q, f, g⟩
        rcases (mem j z).1 hz with h | ⟨rfl, rfl⟩
        · exact ⟨z, h, q, f, g⟩
        · exact absurd q nk1
      · rintro ⟨z, hz, q, f, g⟩; exact ⟨z, (mem j z).2 (.inl hz), q, f, g⟩
    rw [rs, pb_iff e]
    by_cases c : j = i
    · subst c; rw [if_pos rfl]; exact I.inn j hj x
    · rw [if_neg c]; exact I.inn j hj x
  · have e : OutT L (K.set i (gl K i ++ [(k : Int)])) (T.set k (refL L T (gl K i) v)) N j x ↔ (OutT L K T N j x ∨ (j = i ∧ x ∈ c)) := by
      unfold OutT
      constructor
      · rintro ⟨d, hd, z, hz, f, g⟩
        rcases (mem j d).1 hd with h | ⟨rfl, rfl⟩
        · have := I.kb d ⟨j, hj, h⟩
          rw [ts, if_neg (by omega)] at hz
          exact .inl ⟨d, h, z, hz, f, g⟩
        · rw [Int.toNat_natCast, ts, if_pos rfl] at hz
          refine .inr ⟨rfl, (hc x).2 ⟨z, hz, ?_⟩⟩
          rw [← (mem_refL.1 hz).2.2.1, f, g]
      · rintro (⟨d, hd, z, hz, f, g⟩ | ⟨rfl, hx⟩)
        · have := I.kb d ⟨j, hj, hd⟩
          exact ⟨d, (mem j d).2 (.inl hd), z, by rw [ts, if_neg (by omega)]; exact hz, f, g⟩
        · obtain ⟨z, hz, rfl⟩ := (hc x).1 hx
          exact ⟨k, (mem j _).2 (.inr ⟨rfl, rfl⟩), z, by rw [Int.toNat_natCast, ts, if_pos rfl]; exact hz, (mem_refL.1 hz).2.2.1, rfl⟩
    rw [rs, pb_iff e]
    by_cases c1 : j = i
    · subst c1
      rw [if_pos rfl]
      show (if x ∈ c then some true else (rp R j).2.1 x) = _
      by_cases c2 : x ∈ c
      · rw [if_pos c2, pb_t (.inr ⟨rfl, c2⟩)]
      · rw [if_neg c2, I.out j hj]; exact pb_iff ⟨.inl, fun h => h.elim id fun q => absurd q.2 c2⟩
    · rw [if_neg c1, I.out j hj]; exact pb_iff ⟨.inl, fun h => h.elim id fun q => absurd q.1 c1⟩
  · rw [rs]
    by_cases c : j = i
    · subst c; rw [if_pos rfl]; exact I.lu j hj
    · rw [if_neg c]; exact I.lu j hj
  · rw [rs, cnt_app I.lk hi, nu]
    simp only [Bool.false_eq_true, and_false, if_false, Int.add_zero]
    by_cases c : j = i
    · subst c; rw [if_pos rfl]; exact I.up j hj a ha
    · rw [if_neg c]; exact I.up j hj a ha
  · rw [rs, cnt_app I.lk hi, nu]
    simp only [Bool.false_eq_true, and_false, if_false, Int.add_zero]
    by_cases c : j = i
    · subst c; rw [if_pos rfl]; exact I.low j hj a ha
    · rw [if_neg c]; exact I.low j hj a ha
/-- Something is counted. -/
theorem Inv.cnt (I : Inv L n k R tg T K N) {i : Nat} (hi : i < n) (h3 : kd L (k : Int) = 3) (hf : fr L (k : Int) = (i : Int)) (hv : vl L (k : Int) = 1 ∨ vl L (k : Int) = -1) {U W : List Int} (lU : U.length = n) (lW : W.length = n)
    (hU : ∀ j, j < n → ge 0 U j = ge 0 (rp R i).2.2.1 j + (if isUp L j 1 (k : Int) = true then 1 else 0)) (hW : ∀ j, j < n → ge 0 W j = ge 0 (rp R i).2.2.2 j + (if isUp L j (-1) (k : Int) = true then 1 else 0)) :
    Inv L n (k + 1) (R.set i ((rp R i).1, (rp R i).2.1, U, W)) tg T (K.set i (gl K i ++ [(k : Int)])) N := by
  have hK := I.toInvK.app hi (fun h => ⟨hf, hv⟩)
  have mem := fun j z => app_mem (K := K) (i := i) (y := (k : Int)) (z := z) (by rw [I.lk]; exact hi) j
  have kn := fun z => app_kn (K := K) (i := i) (y := (k : Int)) (z := z) I.lk hi
  have rs := fun b X => rp_set (R := R) (i := i) (b := b) (X := X) (by rw [I.lr]; exact hi)
  have nk1 : kd L (k : Int) ≠ 1 := by rw [h3]; decide
  have tg0 := I.tg0
  refine { hK with lr := by rw [List.length_set]; exact I.lr, lt := I.lt, tg0 := by omega, nb := fun z hz q => ?_, inj := fun a b ha hb qa qb e => ?_, te := fun d hd => I.te d (by omega), tl := I.tl, tk := fun d z hz => ?_, inn := fun j hj x => ?_, out := fun j hj x => ?_, lu := fun j hj => ?_, up := fun j hj a ha => ?_, low := fun j hj a ha => ?_ }
  · rcases (kn z).1 hz with h | rfl
    · exact I.nb z h q
    · exact absurd q nk1
  · rcases (kn a).1 ha with h | rfl <;> rcases (kn b).1 hb with g | rfl
    · exact I.inj a b h g qa qb e
    · exact absurd qb nk1
    · exact absurd qa nk1
    · rfl
  · obtain ⟨q1, q2⟩ := I.tk d z hz
    exact ⟨q1, (kn z).2 (.inl q2)⟩
  · have e : InT L (K.set i (gl K i ++ [(k : Int)])) N j x ↔ InT L K N j x := by
      unfold InT
      constructor
      · rintro ⟨z, hz, q, f, g⟩
        rcases (mem j z).1 hz with h | ⟨rfl, rfl⟩
        · exact ⟨z, h, q, f, g⟩
        · exact absurd q nk1
      · rintro ⟨z, hz, q, f, g⟩; exact ⟨z, (mem j z).2 (.inl hz), q, f, g⟩
    rw [rs, pb_iff e]
    by_cases c : j = i
    · subst c; rw [if_pos rfl]; exact I.inn j hj x
    · rw [if_neg c]; exact I.inn j hj x
  · have e : OutT L (K.set i (gl K i ++ [(k : Int)])) T N j x ↔ OutT L K T N j x := by
      unfold OutT
      constructor
      · rintro ⟨d, hd, z, hz, f, g⟩
        rcases (mem j d).1 hd with h | ⟨rfl, rfl⟩
        · exact ⟨d, h, z, hz, f, g⟩
        · rw [Int.toNat_natCast, I.te k (Nat.le_refl _)] at hz; cases hz
      · rintro ⟨d, hd, z, hz, f, g⟩
        exact ⟨d, (mem j d).2 (.inl hd), z, hz, f, g⟩
    rw [rs, pb_iff e]
    by_cases c : j = i
    · subst c; rw [if_pos rfl]; exact I.out j hj x
    · rw [if_neg c]; exact I.out j hj x
  · rw [rs]
    by_cases c : j = i
    · subst c; rw [if_pos rfl]; exact ⟨lU, lW⟩
    · rw [if_neg c]; exact I.lu j hj
  · rw [rs, cnt_app I.lk hi]
    by_cases c : j = i
    · subst c
      rw [if_pos rfl]
      show ge 0 U a = _
      rw [hU a ha, I.up j hj a ha]
      simp
    · rw [if_neg c, if_neg (fun h => c h.1), I.up j hj a ha]; simp
  · rw [rs, cnt_app I.lk hi]
    by_cases c : j = i
    · subst c
      rw [if_pos rfl]
      show ge 0 W a = _
      rw [hW a ha, I.low j hj a ha]
      simp
    · rw [if_neg c, if_neg (fun h => c h.1), I.low j hj a ha]; simp
/-- One copy knows what another one knows. -/
theorem Inv.join (I : Inv L n k R tg T K N) {i t : Nat} (hi : i < n) (ht : t < n) {X : Rp} (x1 : ∀ x, X.1 x = pb (InT L K N t x ∨ InT L K N i x)) (x2 : ∀ x, X.2.1 x = pb (OutT L K T N t x ∨ OutT L K T N i x))
    (lU : X.2.2.1.length = n) (lW : X.2.2.2.length = n) (hU : ∀ j, j < n → ge 0 X.2.2.1 j = mx (ge 0 (rp R i).2.2.1 j) (ge 0 (rp R t).2.2.1 j)) (hW : ∀ j, j < n → ge 0 X.2.2.2 j = mx (ge 0 (rp R i).2.2.2 j) (ge 0 (rp R t).2.2.2 j)) :
    Inv L n (k + 1) (R.set i X) tg T (K.set i (gl K i ++ (gl K t).filter fun z => !decide (z ∈ gl K i))) N := by
  have gs := fun b A => gl_set (K := K) (i := i) (b := b) (A := A) (by rw [I.lk]; exact hi)
  have rs := fun b X => rp_set (R := R) (i := i) (b := b) (X := X) (by rw [I.lr]; exact hi)
  have mem : ∀ j z, z ∈ gl (K.set i (gl K i ++ (gl K t).filter fun z => !decide (z ∈ gl K i))) j ↔ z ∈ gl K j ∨ (j = i ∧ z ∈ gl K t) := fun j z => by
    rw [gs]
    by_cases c : j = i
    · subst c
      rw [if_pos rfl, List.mem_append, List.mem_filter]
      simp only [Bool.not_eq_true', decide_eq_false_iff_not, true_and]
      by_cases q : z ∈ gl K j <;> simp [q]
    · rw [if_neg c]; simp [c]
  have kn : ∀ z, Kn n (K.set i (gl K i ++ (gl K t).filter fun z => !decide (z ∈ gl K i))) z ↔ Kn n K z := fun z => by
    unfold Kn
    constructor
    · rintro ⟨j, hj, h⟩
      rcases (mem j z).1 h with h | ⟨_, h⟩
      · exact ⟨j, hj, h⟩
      · exact ⟨t, ht, h⟩
    · rintro ⟨j, hj, h⟩; exact ⟨j, hj, (mem j z).2 (.inl h)⟩
  have tg0 := I.tg0
  -- of one process, one of the two knows all that the other one knows
  have cmp : ∀ (a : Nat) (s : Int), (∀ z ∈ gl K i, isUp L a s z = true → z ∈ gl K t) ∨ (∀ z ∈ gl K t, isUp L a s z = true → z ∈ gl K i) := fun a s => by
    refine Classical.byContradiction fun h => ?_
    rw [not_or] at h
    obtain ⟨h1, h2⟩ := h
    obtain ⟨y, hy⟩ := Classical.not_forall.1 h1
    obtain ⟨z, hz⟩ := Classical.not_forall.1 h2
    obtain ⟨y1, hy⟩ := Classical.not_imp.1 hy
    obtain ⟨y2, y3⟩ := Classical.not_imp.1 hy
    obtain ⟨z1, hz⟩ := Classical.not_imp.1 hz
    obtain ⟨z2, z3⟩ := Classical.not_imp.1 hz
    obtain ⟨u1, u2, u3⟩ := isUp_iff.1 y2
    obtain ⟨v1, v2, v3⟩ := isUp_iff.1 z2
    rcases Int.lt_trichotomy y z with c | c | c
    · exact y3 (I.pre t ht y z ⟨i, hi, y1⟩ z1 u1 v1 (by rw [u2, v2]) c)
    · subst c; exact y3 z1
    · exact z3 (I.pre i hi z y ⟨t, ht, z1⟩ y1 v1 u1 (by rw [u2, v2]) c)
  refine { lk := by rw [List.length_set]; exact I.lk, kb := fun z hz => ?_, nd := fun j hj => ?_, ups := fun z hz q => I.ups z ((kn z).1 hz) q, own := fun j hj a ha q f => (mem j a).2 (.inl (I.own j hj a ((kn a).1 ha) q f)), pre := fun j hj a b ha hb qa qb f lt => ?_, lr := by rw [List.length_set]; exact I.lr, lt := I.lt, tg0 := by omega, nb := fun z hz q => I.nb z ((kn z).1 hz) q, inj := fun a b ha hb qa qb e => I.inj a b ((kn a).1 ha) ((kn b).1 hb) qa qb e, te := fun d hd => I.te d (by omega), tl := I.tl, tk := fun d z hz => ?_, inn := fun j hj x => ?_, out := fun j hj x => ?_, lu := fun j hj => ?_, up := fun j hj a ha => ?_, low := fun j hj a ha => ?_ }
  · have := I.kb z ((kn z).1 hz); omega
  · rw [gs]
    by_cases c : j = i
    · rw [if_pos c, List.nodup_append]
      refine ⟨I.nd i hi, (I.nd t ht).filter _, fun a ha b hb e => ?_⟩
      subst e
      rw [List.mem_filter] at hb
      have := hb.2
      simp at this
      exact this ha
    · rw [if_neg c]; exact I.nd j hj
  · rw [mem] at hb ⊢
    rcases hb with hb | ⟨rfl, hb⟩
    · exact .inl (I.pre j hj a b ((kn a).1 ha) hb qa qb f lt)
    · exact .inr ⟨rfl, I.pre t ht a b ((kn a).1 ha) hb qa qb f lt⟩
  · obtain ⟨q1, q2⟩ := I.tk d z hz
    exact ⟨q1, (kn z).2 q2⟩
  · have e : InT L (K.set i (gl K i ++ (gl K t).filter fun z => !decide (z ∈ gl K i))) N j x ↔ (InT L K N j x ∨ (j = i ∧ InT L K N t x)) := by
      unfold InT
      constructor
      · rintro ⟨z, hz, q⟩
        rcases (mem j z).1 hz with h | ⟨h1, h2⟩
        · exact .inl ⟨z, h, q⟩
        · exact .inr ⟨h1, z, h2, q⟩
      · rintro (⟨z, hz, q⟩ | ⟨h1, z, hz, q⟩)
        · exact ⟨z, (mem j z).2 (.inl hz), q⟩
        · exact ⟨z, (mem j z).2 (.inr ⟨h1, hz⟩), q⟩
    rw [rs, pb_iff e]
    by_cases c : j = i
    · subst c; rw [if_pos rfl, x1]; exact pb_iff ⟨fun h => h.elim (fun h => .inr ⟨rfl, h⟩) .inl, fun h => h.elim .inr fun h => .inl h.2⟩
    · rw [if_neg c, I.inn j hj]; exact pb_iff ⟨.inl, fun h => h.elim id fun q => absurd q.1 c⟩
  · have e : OutT L (K.set i (gl K i ++ (gl K t).filter fun z => !decide (z ∈ gl K i))) T N j x ↔ (OutT L K T N j x ∨ (j = i ∧ OutT L K T N t x)) := by
      unfold OutT
      constructor
      · rintro ⟨z, hz, q⟩
        rcases (mem j z).1 hz with h | ⟨h1, h2⟩
        · exact .inl ⟨z, h, q⟩
        · exact .inr ⟨h1, z, h2, q⟩
      · rintro (⟨z, hz, q⟩ | ⟨h1, z, hz, q⟩)
        · exact ⟨z, (mem j z).2 (.inl hz), q⟩
        · exact ⟨z, (mem j z).2 (.inr ⟨h1, hz⟩), q⟩
    rw [rs, pb_iff e]
    by_cases c : j = i
    · subst c; rw [if_pos rfl, x2]; exact pb_iff ⟨fun h => h.elim (fun h => .inr ⟨rfl, h⟩) .inl, fun h => h.elim .inr fun h => .inl h.2⟩
    · rw [if_neg c, I.out j hj]; exact pb_iff ⟨.inl, fun h => h.elim id fun q => absurd q.1 c⟩
  · rw [rs]
    by_cases c : j = i
    · subst c; rw [if_pos rfl]; exact ⟨lU, lW⟩
    · rw [if_neg c]; exact I.lu j hj
  · rw [rs, gs]
    by_cases c : j = i
    · subst c
      rw [if_pos rfl, if_pos rfl, join_count (I.nd j hj) (I.nd t ht) _ (cmp a 1), hU a ha, I.up j hj a ha, I.up t ht a ha]
    · rw [if_neg c, if_neg c, I.up j hj a ha]
  · rw [rs, gs]
    by_cases c : j = i
    · subst c
      rw [if_pos rfl, if_pos rfl, join_count (I.nd j hj) (I.nd t ht) _ (cmp a (-1)), hW a ha, I.low j hj a ha, I.low t ht a ha]
    · rw [if_neg c, if_neg c, I.low j hj a ha]

/-! The loops of a move. -/
theorem idx_rp {R : List Rp} {i : Nat} (hi : i < R.length) : idx R (i : Int) = some (rp R i) := idx_ge ((mzero, mzero, [], []) : Rp) hi
theorem set_rp {R : List Rp} {i : Nat} {X : Rp} (hi : i < R.length) (h : rp R i = X) : R.set i X = R := set_ge hi h
theorem drop_loop {R : List Rp} {i : Nat} (hi : i < R.length) (q t v : Int) (l : List Tg) (hl : l.length ≤ 1000) :
    whileM (F68_L0 (q, (i : Int), t, v) l) (R, 0) = some (.brk (R.set i ((rp R i).1, (fun x => if x ∈ l then some true else (rp R i).2.1 x), (rp R i).2.2.1, (rp R i).2.2.2))) := by
  have h := while_upto (body := F68_L0 (q, (i : Int), t, v) l) (fun j => (R.set i ((rp R i).1, (fun x => if x ∈ l.take j then some true else (rp R i).2.1 x), (rp R i).2.2.1, (rp R i).2.2.2), (j : Int))) l.length
    (c := .brk (R.set i ((rp R i).1, (fun x => if x ∈ l then some true else (rp R i).2.1 x), (rp R i).2.2.1, (rp R i).2.2.2))) (fun j hj => ?_) (by simp [F68_L0]) (by simp)
  · have e : R.set i ((rp R i).1, (fun x => if x ∈ l.take 0 then some true else (rp R i).2.1 x), (rp R i).2.2.1, (rp R i).2.2.2) = R := set_rp hi (by simp)
    rw [e] at h
    exact h
  · have hd : decide ((j : Int) < (l.length : Int)) = true := by rw [decide_eq_true_eq]; omega
    have hg : l[j]? = some l[j] := List.getElem?_eq_getElem hj
    have e : mupd (fun x => if x ∈ l.take j then some true else (rp R i).2.1 x) (l[j].1, l[j].2) true = fun x => if x ∈ l.take (j + 1) then some true else (rp R i).2.1 x := by
      funext x
      unfold mupd
      rw [take_succ' hj]
      by_cases c : x = l[j]
      · rw [if_pos (show x = (l[j].1, l[j].2) from c), if_pos (by rw [c]; exact List.mem_append.2 (.inr (by simp)))]
      · rw [if_neg (show ¬ x = (l[j].1, l[j].2) from c)]
        show (if x ∈ l.take j then some true else (rp R i).2.1 x) = _
        by_cases c2 : x ∈ l.take j
        · rw [if_pos c2, if_pos (List.mem_append.2 (.inl c2))]
        · rw [if_neg c2, if_neg (fun h => by rcases List.mem_append.1 h with h | h; exact c2 h; simp at h; exact c h)]
    simp only [F68_L0, hd, cond_true, idx_some hg, Option.bind_some, idx_setG hi, Int.toNat_natCast, e, List.set_set, w64_succ hj (by omega)]
theorem know_loop {K : List (List Int)} {i : Nat} (hi : i < K.length) (B : List Int) (nd : B.Nodup) (hB : B.length ≤ 60) (hA : (gl K i).length ≤ 60) (q t v : Int) :
    whileM (F37_L1 (q, (i : Int), t, v) B) (K, 0) = some (.brk (K.set i (gl K i ++ B.filter fun z => !decide (z ∈ gl K i)))) := by
  have h := while_upto (body := F37_L1 (q, (i : Int), t, v) B) (fun j => (K.set i (gl K i ++ (B.take j).filter fun z => !decide (z ∈ gl K i)), (j : Int))) B.length
    (c := .brk (K.set i (gl K i ++ B.filter fun z => !decide (z ∈ gl K i)))) (fun j hj => ?_) (by simp [F37_L1]) (by simp)
  · have e : K.set i (gl K i ++ (B.take 0).filter fun z => !decide (z ∈ gl K i)) = K := set_ge (d := []) hi (by simp [gl])
    rw [e] at h
    exact h
  · have hd : decide ((j : Int) < (B.length : Int)) = true := by rw [decide_eq_true_eq]; omega
    have hg : B[j]? = some B[j] := List.getElem?_eq_getElem hj
    have hn : B[j] ∉ B.take j := fun h => by
      have h1 : (B.take j ++ B.drop j).Nodup := by rw [List.take_append_drop]; exact nd
      rw [List.nodup_append] at h1
      exact h1.2.2 _ h _ (show B[j] ∈ B.drop j by rw [List.drop_eq_getElem_cons hj]; exact List.mem_cons_self) rfl
    have lA : (gl K i ++ (B.take j).filter fun z => !decide (z ∈ gl K i)).length ≤ 200 := by
      rw [List.length_append]
      have h1 := List.length_filter_le (fun z => !decide (z ∈ gl K i)) (B.take j)
      have h2 : (B.take j).length ≤ B.length := by rw [List.length_take]; omega
      omega
    have hh := has_val (gl K i ++ (B.take j).filter fun z => !decide (z ∈ gl K i)) (by omega) B[j]
    have em : decide (B[j] ∈ gl K i ++ (B.take j).filter fun z => !decide (z ∈ gl K i)) = decide (B[j] ∈ gl K i) := by
      rw [decide_eq_decide, List.mem_append, List.mem_filter]
      exact ⟨fun h => h.elim id fun h => absurd h.1 hn, .inl⟩
    rw [em] at hh
    have e : (B.take (j + 1)).filter (fun z => !decide (z ∈ gl K i)) = (B.take j).filter (fun z => !decide (z ∈ gl K i)) ++ (if B[j] ∈ gl K i then [] else [B[j]]) := by
      rw [take_succ' hj, List.filter_append]
      congr 1
      by_cases c : B[j] ∈ gl K i
      · rw [if_pos c]; simp [c]
      · rw [if_neg c]; simp [c]
    have ii := idx_setG hi (gl K i ++ (B.take j).filter fun z => !decide (z ∈ gl K i))
    have ap := app1 8 (by decide) (gl K i ++ (B.take j).filter fun z => !decide (z ∈ gl K i)) B[j] (by omega)
    by_cases c : B[j] ∈ gl K i
    · rw [if_pos c, List.append_nil] at e
      have c' : decide (B[j] ∈ gl K i) = true := by simpa using c
      simp only [F37_L1, hd, cond_true, idx_some hg, Option.bind_some, ii, hh, c', Bool.not_true, cond_false, e, w64_succ hj (by omega)]
    · rw [if_neg c] at e
      have c' : decide (B[j] ∈ gl K i) = false := by simpa using c
      simp only [F37_L1, hd, cond_true, idx_some hg, Option.bind_some, ii, hh, c', Bool.not_false, ap, Int.toNat_natCast, List.set_set, e, List.append_assoc, w64_succ hj (by omega)]
theorem max_loop {n : Nat} (h6 : n ≤ 6) (a0 a1 : Rp) (l1 : a0.2.2.1.length = n) (l2 : a0.2.2.2.length = n) (l3 : a1.2.2.1.length = n) (l4 : a1.2.2.2.length = n) :
    ∃ U W, whileM (F102_L2 a0 a1) (a0.2.2.1, a0.2.2.2, 0) = some (.brk (U, W)) ∧ U.length = n ∧ W.length = n ∧ (∀ j, j < n → ge 0 U j = mx (ge 0 a0.2.2.1 j) (ge 0 a1.2.2.1 j)) ∧ (∀ j, j < n → ge 0 W j = mx (ge 0 a0.2.2.2 j) (ge 0 a1.2.2.2 j)) := by
  let I : Nat → List Int × List Int → Prop := fun (k : Nat) (t : List Int × List Int) => t.1.length = n ∧ t.2.length = n ∧ (∀ j, j < n → ge 0 t.1 j = if j < k then mx (ge 0 a0.2.2.1 j) (ge 0 a1.2.2.1 j) else ge 0 a0.2.2.1 j) ∧ (∀ j, j < n → ge 0 t.2 j = if j < k then mx (ge 0 a0.2.2.2 j) (ge 0 a1.2.2.2 j) else ge 0 a0.2.2.2 j)
  have hstep : ∀ (k : Nat) (t : List Int × List Int), k < n → I k t → ∃ t', F102_L2 a0 a1 (t.1, t.2, (k : Int)) = some (.nxt (t'.1, t'.2, ((k + 1 : Nat) : Int))) ∧ I (k + 1) t' := by
    intro k t hk I
    obtain ⟨y, z⟩ := t
    obtain ⟨q1, q2, q3, q4⟩ := I
    simp only at q1 q2 q3 q4
    have hd : decide ((k : Int) < (a0.2.2.1.length : Int)) = true := by rw [decide_eq_true_eq, l1]; omega
    have i1 := idx_ge (0 : Int) (l := y) (j := k) (by omega)
    have i2 := idx_ge (0 : Int) (l := z) (j := k) (by omega)
    have i3 := idx_ge (0 : Int) (l := a1.2.2.1) (j := k) (by omega)
    have i4 := idx_ge (0 : Int) (l := a1.2.2.2) (j := k) (by omega)
    refine ⟨(y.set k (mx (ge 0 y k) (ge 0 a1.2.2.1 k)), z.set k (mx (ge 0 z k) (ge 0 a1.2.2.2 k))), ?_, ?_⟩
    · simp only [F102_L2, hd, cond_true, i1, i2, i3, i4, Option.bind_some, Int.toNat_natCast, w64_succ hk (by omega)]
    · refine ⟨by simp [q1], by simp [q2], fun j hj => ?_, fun j hj => ?_⟩
      · rw [ge_set (by omega)]
        by_cases c : j = k
        · subst c; rw [if_pos rfl, q3 j hj, if_neg (by omega), if_pos (by omega)]
        · rw [if_neg c, q3 j hj]
          by_cases c2 : j < k
          · rw [if_pos c2, if_pos (by omega)]
          · rw [if_neg c2, if_neg (by omega)]
      · rw [ge_set (by omega)]
        by_cases c : j = k
        · subst c; rw [if_pos rfl, q4 j hj, if_neg (by omega), if_pos (by omega)]
        · rw [if_neg c, q4 j hj]
          by_cases c2 : j < k
          · rw [if_pos c2, if_pos (by omega)]
          · rw [if_neg c2, if_neg (by omega)]
  obtain ⟨⟨U, W⟩, h1, h2⟩ := while_ex (body := F102_L2 a0 a1) (fun (k : Nat) (t : List Int × List Int) => (t.1, t.2, (k : Int))) n (fun t => t) I hstep (fun t I => by simp [F102_L2, l1]) (a0.2.2.1, a0.2.2.2) ⟨l1, l2, fun j hj => by simp, fun j hj => by simp⟩
  refine ⟨U, W, h1, h2.1, h2.2.1, fun j hj => ?_, fun j hj => ?_⟩
  · rw [h2.2.2.1 j hj, if_pos hj]
  · rw [h2.2.2.2 j hj, if_pos hj]
theorem mx_self (x : Int) : mx x x = x := by unfold mx; split <;> rfl
theorem max_self {n : Nat} (h6 : n ≤ 6) (a0 : Rp) (l1 : a0.2.2.1.length = n) (l2 : a0.2.2.2.length = n) :
    whileM (F102s_L2 a0) (a0.2.2.1, a0.2.2.2, 0) = some (.brk (a0.2.2.1, a0.2.2.2)) := by
  refine while_upto (body := F102s_L2 a0) (fun k => (a0.2.2.1, a0.2.2.2, (k : Int))) n (fun k hk => ?_) (by simp [F102s_L2, l1]) (by simp)
  have hd : decide ((k : Int) < (a0.2.2.1.length : Int)) = true := by rw [decide_eq_true_eq, l1]; omega
  have i1 := idx_ge (0 : Int) (l := a0.2.2.1) (j := k) (by omega)
  have i2 := idx_ge (0 : Int) (l := a0.2.2.2) (j := k) (by omega)
  simp only [F102s_L2, hd, cond_true, i1, i2, Option.bind_some, Int.toNat_natCast, mx_self, w64_succ hk (by omega), set_ge (d := (0 : Int)) (show k < a0.2.2.1.length by omega) rfl, set_ge (d := (0 : Int)) (show k < a0.2.2.2.length by omega) rfl]
/-- A copy takes another one in: the model. -/
theorem join_val (I : Inv L n k R tg T K N) (h6 : n ≤ 6) {i t : Nat} (hi : i < n) (ht : t < n) :
    ∃ X : Rp, F102 (rp R i) (rp R t) = some X ∧ (∀ x, X.1 x = pb (InT L K N t x ∨ InT L K N i x)) ∧ (∀ x, X.2.1 x = pb (OutT L K T N t x ∨ OutT L K T N i x)) ∧ X.2.2.1.length = n ∧ X.2.2.2.length = n ∧
      (∀ j, j < n → ge 0 X.2.2.1 j = mx (ge 0 (rp R i).2.2.1 j) (ge 0 (rp R t).2.2.1 j)) ∧ (∀ j, j < n → ge 0 X.2.2.2 j = mx (ge 0 (rp R i).2.2.2 j) (ge 0 (rp R t).2.2.2 j)) := by
  obtain ⟨p1, hp1, _⟩ := I.fin1 ht
  have r1 := range_pb (P := InT L K N t) (Q := InT L K N i) (I.inn t ht) (I.inn i hi) ⟨p1, hp1⟩
  have r2 := range_pb (P := OutT L K T N t) (Q := OutT L K T N i) (I.out t ht) (I.out i hi) (I.fin2 ht)
  obtain ⟨U, W, h1, h2, h3, h4, h5⟩ := max_loop h6 (rp R i) (rp R t) (I.lu i hi).1 (I.lu i hi).2 (I.lu t ht).1 (I.lu t ht).2
  refine ⟨(fun x => pb (InT L K N t x ∨ InT L K N i x), fun x => pb (OutT L K T N t x ∨ OutT L K T N i x), U, W), ?_, fun x => rfl, fun x => rfl, h2, h3, h4, h5⟩
  simp only [F102, fold_in1, r1, r2, Option.bind_some, Ctl.onN, Ctl.on, h1]
theorem join_self (I : Inv L n k R tg T K N) (h6 : n ≤ 6) {i : Nat} (hi : i < n) : F102s (rp R i) = some (rp R i) := by
  obtain ⟨p1, hp1, _⟩ := I.fin1 hi
  have r1 := range_same (P := InT L K N i) (body := F102s_L0 (rp R i)) rfl (I.inn i hi) ⟨p1, hp1⟩
  have r2 := range_same (P := OutT L K T N i) (body := F102s_L1 (rp R i)) rfl (I.out i hi) (I.fin2 hi)
  have h1 := max_self h6 (rp R i) (I.lu i hi).1 (I.lu i hi).2
  simp only [F102s, r1, r2, Option.bind_some, Ctl.onN, Ctl.on, h1]

/-- One move: both tell the same code. -/
theorem move (I : Inv L n k R tg T K N) (h6 : n ≤ 6) {m : Mv} (hg : L[k]? = some m) (hl : L.length ≤ 60) :
    ∃ e R' tg' T' K' N', F68 (R, tg) m = some (e, (R', tg')) ∧ (∀ cs : List Int, cs.length ≤ 60 → F37_L0 (n : Int) L (cs, T, K, (k : Int)) = some (.nxt (cs ++ [e], T', K', ((k + 1 : Nat) : Int)))) ∧ Inv L n (k + 1) R' tg' T' K' N' := by
  obtain ⟨q, f, t, v⟩ := m
  have hk := lt_of_get hg
  have wk : w64 ((k : Int) + 1) = ((k + 1 : Nat) : Int) := w64_succ hk (by omega)
  have ikk : idx L (k : Int) = some (q, f, t, v) := idx_some hg
  have hmv : mv L (k : Int) = (q, f, t, v) := by
    unfold mv; rw [Int.toNat_natCast]
    have := get_ge ((0, 0, 0, 0) : Mv) hk
    rw [hg] at this; exact (Option.some.inj this).symm
  have e1 : kd L (k : Int) = q := by unfold kd; rw [hmv]
  have e2 : fr L (k : Int) = f := by unfold fr; rw [hmv]
  have e4 : vl L (k : Int) = v := by unfold vl; rw [hmv]
  have ap := fun (e : Int) (cs : List Int) (h : cs.length ≤ 60) => app1 8 (by decide) cs e (show cs.length ≤ 60000 by omega)
  have dk : decide ((k : Int) < (L.length : Int)) = true := by rw [decide_eq_true_eq]; omega
  have lenR : ((R.length : Nat) : Int) = (n : Int) := by rw [I.lr]
  have tg0 := I.tg0
  have easy : ∀ e : Int, F68 (R, tg) (q, f, t, v) = some (e, (R, tg)) → (∀ cs : List Int, cs.length ≤ 60 → F37_L0 (n : Int) L (cs, T, K, (k : Int)) = some (.nxt (cs ++ [e], T, K, ((k + 1 : Nat) : Int)))) →
      ∃ e R' tg' T' K' N', F68 (R, tg) (q, f, t, v) = some (e, (R', tg')) ∧ (∀ cs : List Int, cs.length ≤ 60 → F37_L0 (n : Int) L (cs, T, K, (k : Int)) = some (.nxt (cs ++ [e], T', K', ((k + 1 : Nat) : Int)))) ∧ Inv L n (k + 1) R' tg' T' K' N' :=
    fun e a b => ⟨e, R, tg, T, K, N, a, b, I.step⟩
  cases b0 : ((decide (q < 1)) || (decide (q > 4))) with
  | true =>
    refine easy 6 ?_ fun cs hcs => ?_
    · simp only [F68, b0, cond_true]
    · simp only [F37_L0, dk, cond_true, ikk, Option.bind_some, b0, ap 6 cs hcs, wk]
  | false =>
  cases bf : ((decide (f < 0)) || (decide (f ≥ (n : Int)))) with
  | true =>
    refine easy 2 ?_ fun cs hcs => ?_
    · simp only [F68, b0, cond_true, cond_false, F101, lenR, bf, Option.bind_some]
    · simp only [F37_L0, dk, cond_true, cond_false, ikk, Option.bind_some, b0, bf, Bool.true_or, ap 2 cs hcs, wk]
  | false =>
  have bf' := bf
  simp only [Bool.or_eq_false_iff, decide_eq_false_iff_not] at bf'
  obtain ⟨i, rfl⟩ := nat_of (a := f) (by omega)
  have hi : i < n := by omega
  have ir := idx_rp (R := R) (i := i) (by rw [I.lr]; exact hi)
  have ik : idx K (i : Int) = some (gl K i) := idx_ge ([] : List Int) (by rw [I.lk]; exact hi)
  have kl := I.len hi
  have akk := app1 8 (by decide) (gl K i) (k : Int) (by omega)
  have hq : q = 1 ∨ q = 2 ∨ q = 3 ∨ q = 4 := by
    simp only [Bool.or_eq_false_iff, decide_eq_false_iff_not] at b0
    omega
  have hv0 : ∀ v : Int, F71 (i : Int) v K L T = some (refL L T (gl K i) v) := fun v => in_val (by rw [I.lk]; exact hi) (by omega) (fun d hd => by have := I.kb d ⟨i, hi, hd⟩; omega) I.lt I.tl v
  rcases hq with rfl | rfl | rfl | rfl
  · -- a thing is put in
    have c1 : ((1 : Int) == 1) = true := rfl
    have c2 : ((1 : Int) == 2) = false := rfl
    have c3 : ((1 : Int) == 3) = false := rfl
    have c4 : ((1 : Int) == 4) = false := rfl
    have c5 : decide ((1 : Int) ≤ 2) = true := rfl
    cases bv : ((decide (v < 0)) || (decide (v > 8))) with
    | true =>
      refine easy 4 ?_ fun cs hcs => ?_
      · simp only [F68, b0, cond_true, cond_false, F101, lenR, bf, Option.bind_some, c4, c5, bv, Bool.and_true, Bool.true_and]
      · simp only [F37_L0, dk, cond_true, cond_false, ikk, Option.bind_some, b0, bf, bv, c1, c4, Bool.false_and, Bool.or_false, Bool.true_or, Bool.and_true, Bool.true_and, ap 4 cs hcs, wk]
    | false =>
      have wt : w64 (tg + 1) = tg + 1 := w64i (by omega) (by omega)
      have IA := I.add hi e1
      rw [e4] at IA
      refine ⟨0, _, _, _, _, _, ?_, fun cs hcs => ?_, IA⟩
      · simp only [F68, b0, cond_true, cond_false, F101, lenR, bf, Option.bind_some, c1, c4, c5, bv, Bool.and_false, Bool.true_and, ir, Int.toNat_natCast, wt]
      · simp only [F37_L0, dk, cond_true, cond_false, ikk, Option.bind_some, b0, bf, bv, c1, c2, c3, c4, Bool.false_and, Bool.or_false, Bool.true_or, Bool.and_false, Bool.true_and, ik, akk, Int.toNat_natCast, ap 0 cs hcs, wk]
  · -- a thing is taken out
    have c1 : ((2 : Int) == 1) = false := rfl
    have c2 : ((2 : Int) == 2) = true := rfl
    have c3 : ((2 : Int) == 3) = false := rfl
    have c4 : ((2 : Int) == 4) = false := rfl
    have c5 : decide ((2 : Int) ≤ 2) = true := rfl
    cases bv : ((decide (v < 0)) || (decide (v > 8))) with
    | true =>
      refine easy 4 ?_ fun cs hcs => ?_
      · simp only [F68, b0, cond_true, cond_false, F101, lenR, bf, Option.bind_some, c4, c5, bv, Bool.and_true, Bool.true_and]
      · simp only [F37_L0, dk, cond_true, cond_false, ikk, Option.bind_some, b0, bf, bv, c1, c2, c4, Bool.false_and, Bool.or_false, Bool.false_or, Bool.true_or, Bool.and_true, Bool.true_and, ap 4 cs hcs, wk]
    | false =>
      obtain ⟨c, hc1, hc2, hc3⟩ := has_both I hi v (by omega)
      cases he : ((refL L T (gl K i) v).length : Int) == 0 with
      | true =>
        have hnil : refL L T (gl K i) v = [] := by rw [beq_iff_eq] at he; exact List.eq_nil_of_length_eq_zero (by omega)
        have cn : c = [] := by
          rw [List.eq_nil_iff_forall_not_mem]
          intro x hx
          obtain ⟨z, hz, _⟩ := (hc3 x).1 hx
          rw [hnil] at hz; cases hz
        refine easy 5 ?_ fun cs hcs => ?_
        · simp only [F68, b0, cond_true, cond_false, F101, lenR, bf, Option.bind_some, c1, c2, c4, c5, bv, Bool.and_false, Bool.true_and, ir, hc1]
          refine permK_of fun l hp => ?_
          rw [cn, List.perm_nil] at hp
          subst hp
          rfl
        · simp only [F37_L0, dk, cond_true, cond_false, ikk, Option.bind_some, b0, bf, bv, c1, c2, c3, c4, Bool.false_and, Bool.or_false, Bool.false_or, Bool.true_or, Bool.and_false, Bool.true_and, hv0, he, ap 5 cs hcs, wk]
      | false =>
        have cne : c ≠ [] := fun e => by
          cases hr : refL L T (gl K i) v with
          | nil => rw [hr] at he; cases he
          | cons z r => have := (hc3 (v, N z)).2 ⟨z, by rw [hr]; simp, rfl⟩; rw [e] at this; cases this
        have it : idx T (k : Int) = some (gl T k) := idx_ge ([] : List Int) (by rw [I.lt]; exact hk)
        refine ⟨0, _, _, _, _, _, ?_, fun cs hcs => ?_, I.drop hi e1 hk (by omega) hc3⟩
        · simp only [F68, b0, cond_true, cond_false, F101, lenR, bf, Option.bind_some, c1, c2, c4, c5, bv, Bool.and_false, Bool.true_and, ir, hc1]
          refine permK_of fun l hp => ?_
          have hlen := hp.length_eq
          have hl0 : ((l.length : Int) == 0) = false := by
            cases z : ((l.length : Int) == 0) with
            | false => rfl
            | true =>
              rw [beq_iff_eq] at z
              exact absurd (List.eq_nil_of_length_eq_zero (show c.length = 0 by omega)) cne
          have hdl := drop_loop (R := R) (i := i) (by rw [I.lr]; exact hi) 2 t v l (by omega)
          have hx : (fun x => if x ∈ l then some true else (rp R i).2.1 x) = fun x => if x ∈ c then some true else (rp R i).2.1 x := by
            funext x
            have := hp.mem_iff (a := x)
            by_cases c : x ∈ l
            · rw [if_pos c, if_pos (this.1 c)]
            · rw [if_neg c, if_neg (fun h => c (this.2 h))]
          rw [hx] at hdl
          simp only [hl0, cond_false, hdl, Option.bind_some, Ctl.on]
        · simp only [F37_L0, dk, cond_true, cond_false, ikk, Option.bind_some, b0, bf, bv, c1, c2, c3, c4, Bool.false_and, Bool.or_false, Bool.false_or, Bool.true_or, Bool.and_false, Bool.true_and, hv0, he, it, ik, akk, Int.toNat_natCast, ap 0 cs hcs, wk]
  · -- something is counted
    have c1 : ((3 : Int) == 1) = false := rfl
    have c2 : ((3 : Int) == 2) = false := rfl
    have c3 : ((3 : Int) == 3) = true := rfl
    have c4 : ((3 : Int) == 4) = false := rfl
    have c5 : decide ((3 : Int) ≤ 2) = false := rfl
    have iu := idx_ge (0 : Int) (l := (rp R i).2.2.1) (j := i) (by rw [(I.lu i hi).1]; exact hi)
    have il := idx_ge (0 : Int) (l := (rp R i).2.2.2) (j := i) (by rw [(I.lu i hi).2]; exact hi)
    have bu : ∀ p, ((gl K i).countP p) ≤ 60 := fun p => by have := List.countP_le_length (p := p) (l := gl K i); omega
    cases bv : (v == 1) with
    | true =>
      have hv1 : v = 1 := by simpa using bv
      have n1 : (v != 1) = false := by rw [bne, bv]; rfl
      have wu : w64 (ge 0 (rp R i).2.2.1 i + 1) = ge 0 (rp R i).2.2.1 i + 1 := by have := I.up i hi i hi; have := bu (isUp L i 1); exact w64i (by omega) (by omega)
      refine ⟨0, _, _, _, _, _, ?_, fun cs hcs => ?_, I.cnt hi e1 e2 (.inl (by rw [e4, hv1])) (U := (rp R i).2.2.1.set i (ge 0 (rp R i).2.2.1 i + 1)) (W := (rp R i).2.2.2) (by rw [List.length_set]; exact (I.lu i hi).1) (I.lu i hi).2 (fun j hj => ?_) (fun j hj => ?_)⟩
      · simp only [F68, b0, cond_true, cond_false, F101, lenR, bf, Option.bind_some, c1, c2, c3, c4, c5, bv, Bool.and_false, Bool.false_and, ir, iu, wu, Int.toNat_natCast]
      · simp only [F37_L0, dk, cond_true, cond_false, ikk, Option.bind_some, b0, bf, n1, c1, c2, c3, c4, Bool.false_and, Bool.or_false, Bool.false_or, Bool.or_self, Bool.and_false, Bool.true_and, ik, akk, Int.toNat_natCast, ap 0 cs hcs, wk]
      · rw [ge_set (by rw [(I.lu i hi).1]; exact hi)]
        by_cases c : j = i
        · subst c; rw [if_pos rfl, if_pos (isUp_iff.2 ⟨e1, e2, by rw [e4, hv1]⟩)]
        · rw [if_neg c, if_neg (fun h => by have := (isUp_iff.1 h).2.1; rw [e2] at this; omega)]; omega
      · rw [if_neg (fun h => by have := (isUp_iff.1 h).2.2; rw [e4, hv1] at this; omega)]; omega
    | false =>
      cases bw : (v == (-1)) with
      | true =>
        have hv1 : v = -1 := by simpa using bw
        have n1 : (v != 1) = true := by rw [bne, bv]; rfl
        have n2 : (v != (-1)) = false := by rw [bne, bw]; rfl
        have wu : w64 (ge 0 (rp R i).2.2.2 i + 1) = ge 0 (rp R i).2.2.2 i + 1 := by have := I.low i hi i hi; have := bu (isUp L i (-1)); exact w64i (by omega) (by omega)
        refine ⟨0, _, _, _, _, _, ?_, fun cs hcs => ?_, I.cnt hi e1 e2 (.inr (by rw [e4, hv1])) (U := (rp R i).2.2.1) (W := (rp R i).2.2.2.set i (ge 0 (rp R i).2.2.2 i + 1)) (I.lu i hi).1 (by rw [List.length_set]; exact (I.lu i hi).2) (fun j hj => ?_) (fun j hj => ?_)⟩
        · simp only [F68, b0, cond_true, cond_false, F101, lenR, bf, Option.bind_some, c1, c2, c3, c4, c5, bv, bw, Bool.and_false, Bool.false_and, ir, il, wu, Int.toNat_natCast]
        · simp only [F37_L0, dk, cond_true, cond_false, ikk, Option.bind_some, b0, bf, n1, n2, c1, c2, c3, c4, Bool.false_and, Bool.or_false, Bool.false_or, Bool.or_self, Bool.and_false, Bool.true_and, ik, akk, Int.toNat_natCast, ap 0 cs hcs, wk]
        · rw [if_neg (fun h => by have := (isUp_iff.1 h).2.2; rw [e4, hv1] at this; omega)]; omega
        · rw [ge_set (by rw [(I.lu i hi).2]; exact hi)]
          by_cases c : j = i
          · subst c; rw [if_pos rfl, if_pos (isUp_iff.2 ⟨e1, e2, by rw [e4, hv1]⟩)]
          · rw [if_neg c, if_neg (fun h => by have := (isUp_iff.1 h).2.1; rw [e2] at this; omega)]; omega
      | false =>
        have n1 : (v != 1) = true := by rw [bne, bv]; rfl
        have n2 : (v != (-1)) = true := by rw [bne, bw]; rfl
        refine easy 4 ?_ fun cs hcs => ?_
        · simp only [F68, b0, cond_true, cond_false, F101, lenR, bf, Option.bind_some, c1, c2, c3, c4, c5, bv, bw, Bool.and_false, Bool.false_and, ir]
        · simp only [F37_L0, dk, cond_true, cond_false, ikk, Option.bind_some, b0, bf, n1, n2, c1, c2, c3, c4, Bool.false_and, Bool.or_false, Bool.false_or, Bool.or_self, Bool.and_false, Bool.and_self, Bool.true_and, ap 4 cs hcs, wk]
  · -- a copy takes another one in
    have c1 : ((4 : Int) == 1) = false := rfl
    have c2 : ((4 : Int) == 2) = false := rfl
    have c3 : ((4 : Int) == 3) = false := rfl
    have c4 : ((4 : Int) == 4) = true := rfl
    have c5 : decide ((4 : Int) ≤ 2) = false := rfl
    cases bt : ((decide (t < 0)) || (decide (t ≥ (n : Int)))) with
    | true =>
      refine easy 2 ?_ fun cs hcs => ?_
      · simp only [F68, b0, cond_true, cond_false, F101, lenR, bf, bt, c4, Option.bind_some]
      · simp only [F37_L0, dk, cond_true, cond_false, ikk, Option.bind_some, b0, bf, bt, c4, Bool.and_self, Bool.false_or, ap 2 cs hcs, wk]
    | false =>
      have bt' := bt
      simp only [Bool.or_eq_false_iff, decide_eq_false_iff_not] at bt'
      obtain ⟨j, rfl⟩ := nat_of (a := t) (by omega)
      have hj : j < n := by omega
      have jr := idx_rp (R := R) (i := j) (by rw [I.lr]; exact hj)
      have jk : idx K (j : Int) = some (gl K j) := idx_ge ([] : List Int) (by rw [I.lk]; exact hj)
      have jl := I.len hj
      have a0 : appl 8 ([] : List Int) (gl K j) = some (gl K j) := by have := appM 8 (by decide) [] (gl K j) (by simp; omega); simpa using this
      have kw := know_loop (K := K) (i := i) (by rw [I.lk]; exact hi) (gl K j) (I.nd j hj) (by omega) (by omega) 4 (j : Int) v
      have ref : ∀ cs : List Int, cs.length ≤ 60 → F37_L0 (n : Int) L (cs, T, K, (k : Int)) = some (.nxt (cs ++ [0], T, K.set i (gl K i ++ (gl K j).filter fun z => !decide (z ∈ gl K i)), ((k + 1 : Nat) : Int))) := fun cs hcs => by
        simp only [F37_L0, dk, cond_true, cond_false, ikk, Option.bind_some, b0, bf, bt, c1, c2, c3, c4, Bool.false_and, Bool.and_false, Bool.or_self, Bool.false_or, jk, a0, kw, Ctl.on, ap 0 cs hcs, wk]
      obtain ⟨X, x0, x1, x2, x3, x4, x5, x6⟩ := join_val I h6 hi hj
      cases hd : decide ((i : Int) = (j : Int)) with
      | true =>
        have hij : i = j := by have := of_decide_eq_true hd; omega
        subst hij
        have js : F102s ((rp R i).1, (rp R i).2.1, (rp R i).2.2.1, (rp R i).2.2.2) = some (rp R i) := join_self I h6 hi
        refine ⟨0, _, _, _, _, _, ?_, ref, I.join hi hi (X := rp R i) (fun x => ?_) (fun x => ?_) (I.lu i hi).1 (I.lu i hi).2 (fun a _ => (mx_self _).symm) (fun a _ => (mx_self _).symm)⟩
        · simp only [F68, b0, cond_true, cond_false, F101, lenR, bf, Option.bind_some, c1, c2, c3, c4, c5, Bool.false_and, ir, hd, js, decide_true, Int.toNat_natCast]
        · rw [I.inn i hi]; exact pb_iff ⟨.inl, fun h => h.elim id id⟩
        · rw [I.out i hi]; exact pb_iff ⟨.inl, fun h => h.elim id id⟩
      | false =>
        have js : F102 ((rp R i).1, (rp R i).2.1, (rp R i).2.2.1, (rp R i).2.2.2) ((rp R j).1, (rp R j).2.1, (rp R j).2.2.1, (rp R j).2.2.2) = some X := x0
        refine ⟨0, _, _, _, _, _, ?_, ref, I.join hi hj (X := X) x1 x2 x3 x4 x5 x6⟩
        simp only [F68, b0, cond_true, cond_false, F101, lenR, bf, bt, Option.bind_some, c1, c2, c3, c4, c5, Bool.false_and, ir, jr, hd, js, Int.toNat_natCast]

theorem run_both (h6 : n ≤ 6) (hl : L.length ≤ 60) : ∀ (r k : Nat), k + r = L.length → ∀ {cs : List Int} {R : List Rp} {tg : Int} {T K : List (List Int)} {N : Int → Int}, cs.length = k → Inv L n k R tg T K N →
    ∃ (cs' : List Int) (R' : List Rp) (tg' : Int) (T' K' : List (List Int)) (N' : Int → Int),
      whileM (F36_L1 L) (cs, R, tg, (k : Int)) = some (.brk (cs', R', tg')) ∧ whileM (F37_L0 (n : Int) L) (cs, T, K, (k : Int)) = some (.brk (cs', T', K')) ∧ cs'.length = L.length ∧ Inv L n L.length R' tg' T' K' N' := by
  intro r
  induction r with
  | zero =>
    intro k hk cs R tg T K N hcs I
    obtain rfl : k = L.length := by omega
    exact ⟨_, _, _, _, _, _, whileM_brk (by simp [F36_L1]), whileM_brk (by simp [F37_L0]), hcs, I⟩
  | succ r ih =>
    intro k hk cs R tg T K N hcs I
    have hlt : k < L.length := by omega
    have hg : L[k]? = some L[k] := List.getElem?_eq_getElem hlt
    obtain ⟨e, R1, tg1, T1, K1, N1, r1, r2, r3⟩ := move I h6 hg hl
    have n1 : F36_L1 L (cs, R, tg, (k : Int)) = some (.nxt (cs ++ [e], R1, tg1, ((k + 1 : Nat) : Int))) := by
      have hd : decide ((k : Int) < (L.length : Int)) = true := by rw [decide_eq_true_eq]; omega
      have r1' : F68 (R, tg) (L[k].1, L[k].2.1, L[k].2.2.1, L[k].2.2.2) = some (e, (R1, tg1)) := r1
      simp only [F36_L1, hd, cond_true, idx_some hg, Option.bind_some, r1', app1 8 (by decide) cs e (by omega), w64_succ hlt (by omega)]
    obtain ⟨cs', R', tg', T', K', N', q1, q2, q3, q4⟩ := ih (k + 1) (by omega) (cs := cs ++ [e]) (by simp [hcs]) r3
    exact ⟨cs', R', tg', T', K', N', by rw [whileM_nxt n1]; exact q1, by rw [whileM_nxt (r2 cs (by omega))]; exact q2, q3, q4⟩

/-! What is in, and what is counted, at the end. -/
def ne (L : List Mv) (T : List (List Int)) (ks : List Int) (v : Int) : Bool := decide (((refL L T ks v).length : Int) > 0)
def insL (L : List Mv) (T : List (List Int)) (ks : List Int) (j : Nat) : List Int := ((List.range j).map fun z : Nat => (z : Int)).filter fun v => ne L T ks v
theorem insL_succ (ks : List Int) (j : Nat) : insL L T ks (j + 1) = insL L T ks j ++ (if ne L T ks (j : Int) = true then [(j : Int)] else []) := by
  unfold insL
  rw [List.range_succ, List.map_append, List.filter_append]
  congr 1
  by_cases c : ne L T ks (j : Int) = true
  · rw [if_pos c]; simp [c]
  · rw [if_neg c]; simp [c]
theorem insL_len (ks : List Int) (j : Nat) : (insL L T ks j).length ≤ j := by
  have := List.length_filter_le (fun v => ne L T ks v) ((List.range j).map fun z : Nat => (z : Int))
  simpa [insL] using this
theorem ins_prog (I : Inv L n k R tg T K N) {i : Nat} (hi : i < n) (hk : k ≤ 60) : whileM (F36_L3 (rp R i)) ([], 0) = some (.brk (insL L T (gl K i) 9)) := by
  refine while_upto (body := F36_L3 (rp R i)) (fun j => (insL L T (gl K i) j, (j : Int))) 9 (fun j hj => ?_) (by simp [F36_L3]) (by simp)
  have hd : decide ((j : Int) < 9) = true := by rw [decide_eq_true_eq]; omega
  obtain ⟨c, hc1, hc2, hc3⟩ := has_both I hi (j : Int) (by omega)
  have il := insL_len (L := L) (T := T) (gl K i) j
  have e : permK c (fun y121 => cond (decide ((y121.length : Int) > 0)) (Option.bind (appl 8 (insL L T (gl K i) j) ([(j : Int)] : List Int)) fun (y126 : List Int) => some y126) (some (insL L T (gl K i) j))) = some (insL L T (gl K i) (j + 1)) := by
    refine permK_of fun l hp => ?_
    have hlen := hp.length_eq
    have hne : decide ((l.length : Int) > 0) = ne L T (gl K i) (j : Int) := by
      unfold ne
      rw [decide_eq_decide]
      constructor
      · intro h
        cases hcc : c with
        | nil => rw [hcc] at hlen; simp at hlen; rw [hlen] at h; simp at h
        | cons x r =>
          obtain ⟨z, hz, _⟩ := (hc3 x).1 (by rw [hcc]; simp)
          have := List.length_pos_of_mem hz
          omega
      · intro h
        cases hr : refL L T (gl K i) (j : Int) with
        | nil => rw [hr] at h; simp at h
        | cons z r =>
          have h1 := (hc3 ((j : Int), N z)).2 ⟨z, by rw [hr]; simp, rfl⟩
          have := List.length_pos_of_mem h1
          omega
    rw [hne, insL_succ]
    cases ne L T (gl K i) (j : Int) with
    | true => simp only [cond_true, app1 8 (by decide) (insL L T (gl K i) j) (j : Int) (by omega), Option.bind_some, if_true]
    | false => simp
  simp only [F36_L3, hd, cond_true, hc1, Option.bind_some, e]
  rw [w64_of (by omega) (by omega)]; rfl
theorem ins_ref (I : Inv L n k R tg T K N) {i : Nat} (hi : i < n) (hk : k ≤ 60) (hkl : k ≤ L.length) : whileM (F37_L3 L T K (i : Int)) ([], 0) = some (.brk (insL L T (gl K i) 9)) := by
  refine while_upto (body := F37_L3 L T K (i : Int)) (fun j => (insL L T (gl K i) j, (j : Int))) 9 (fun j hj => ?_) (by simp [F37_L3]) (by simp)
  have hd : decide ((j : Int) ≤ 8) = true := by rw [decide_eq_true_eq]; omega
  have kl := I.len hi
  have hv := in_val (K := K) (T := T) (L := L) (i := i) (by rw [I.lk]; exact hi) (by omega) (fun d hd => by have := I.kb d ⟨i, hi, hd⟩; omega) I.lt I.tl (j : Int)
  have il := insL_len (L := L) (T := T) (gl K i) j
  rw [insL_succ]
  have e : decide (((refL L T (gl K i) (j : Int)).length : Int) > 0) = ne L T (gl K i) (j : Int) := rfl
  simp only [F37_L3, hd, cond_true, hv, Option.bind_some, e]
  cases ne L T (gl K i) (j : Int) with
  | true => simp only [cond_true, app1 8 (by decide) (insL L T (gl K i) j) (j : Int) (by omega), Option.bind_some, if_true]; rw [w64_of (by omega) (by omega)]; rfl
  | false => simp only [cond_false, Option.bind_some, Bool.false_eq_true, if_false, List.append_nil]; rw [w64_of (by omega) (by omega)]; rfl
def cntL (L : List Mv) (ks : List Int) (j : Nat) : Int := ((List.range j).map fun a : Nat => ((ks.countP (isUp L a 1) : Nat) : Int) - ((ks.countP (isUp L a (-1)) : Nat) : Int)).sum
theorem cntL_succ (ks : List Int) (j : Nat) : cntL L ks (j + 1) = cntL L ks j + (((ks.countP (isUp L j 1) : Nat) : Int) - ((ks.countP (isUp L j (-1)) : Nat) : Int)) := by
  unfold cntL; rw [List.range_succ, List.map_append, List.sum_append]; simp
theorem cntL_le (ks : List Int) (hk : ks.length ≤ 60) : ∀ j : Nat, -(60 * (j : Int)) ≤ cntL L ks j ∧ cntL L ks j ≤ 60 * (j : Int)
  | 0 => by simp [cntL]
  | j + 1 => by
    have := cntL_le ks hk j
    rw [cntL_succ]
    have h1 := List.countP_le_length (p := isUp L j 1) (l := ks)
    have h2 := List.countP_le_length (p := isUp L j (-1)) (l := ks)
    push_cast
    omega
theorem cnt_prog (I : Inv L n k R tg T K N) (h6 : n ≤ 6) {i : Nat} (hi : i < n) (hk : k ≤ 60) : whileM (F36_L4 (n : Int) (rp R i)) (0, 0) = some (.brk (cntL L (gl K i) n)) := by
  refine while_upto (body := F36_L4 (n : Int) (rp R i)) (fun j => (cntL L (gl K i) j, (j : Int))) n (fun j hj => ?_) (by simp [F36_L4]) (by simp)
  have hd : decide ((j : Int) < (n : Int)) = true := by rw [decide_eq_true_eq]; omega
  have kl := I.len hi
  have i1 := idx_ge (0 : Int) (l := (rp R i).2.2.1) (j := j) (by rw [(I.lu i hi).1]; exact hj)
  have i2 := idx_ge (0 : Int) (l := (rp R i).2.2.2) (j := j) (by rw [(I.lu i hi).2]; exact hj)
  rw [I.up i hi j hj] at i1
  rw [I.low i hi j hj] at i2
  have h1 := List.countP_le_length (p := isUp L j 1) (l := gl K i)
  have h2 := List.countP_le_length (p := isUp L j (-1)) (l := gl K i)
  have h3 := cntL_le (L := L) (gl K i) (by omega) j
  simp only [F36_L4, hd, cond_true, i1, i2, Option.bind_some, w64_succ hj (by omega)]
  rw [w64i (x := ((gl K i).countP (isUp L j 1) : Int) - _) (by omega) (by omega), w64i (by omega) (by omega), cntL_succ]
def valL (L : List Mv) (ks : List Int) : Int := (ks.map fun z => if kd L z = 3 then vl L z else 0).sum
theorem valL_le (n : Nat) : ∀ (ks : List Int), (∀ z ∈ ks, kd L z = 3 → (0 ≤ fr L z ∧ fr L z < n) ∧ (vl L z = 1 ∨ vl L z = -1)) → -(ks.length : Int) ≤ valL L ks ∧ valL L ks ≤ ks.length
  | [], _ => by simp [valL]
  | z :: ks, h => by
    have ih := valL_le n ks fun y hy => h y (List.mem_cons_of_mem _ hy)
    have hz := h z (by simp)
    unfold valL at ih ⊢
    rw [List.map_cons, List.sum_cons, List.length_cons]
    by_cases c : kd L z = 3
    · rw [if_pos c]; rcases (hz c).2 with e | e <;> rw [e] <;> push_cast <;> omega
    · rw [if_neg c]; push_cast; omega
theorem cnt_one (n : Nat) (f c : Int) (h0 : 0 ≤ f) (h1 : f < n) : ((List.range n).map fun a : Nat => if f = (a : Int) then c else 0).sum = c := by
  induction n with
  | zero => omega
  | succ n ih =>
    rw [List.range_succ, List.map_append, List.sum_append]
    by_cases e : f = (n : Int)
    · have z : ((List.range n).map fun a : Nat => if f = (a : Int) then c else 0) = (List.range n).map fun _ => (0 : Int) := by
        apply List.map_congr_left
        intro a ha
        rw [List.mem_range] at ha
        rw [if_neg (by omega)]
      have z2 : ∀ m : Nat, ((List.range m).map fun _ => (0 : Int)).sum = 0 := by
        intro m
        induction m with
        | zero => rfl
        | succ m ih => rw [List.range_succ, List.map_append, List.sum_append, ih]; rfl
      rw [z, z2]
      simp [e]
    · rw [ih (by omega)]
      simp [e]
theorem cnt_val (n : Nat) : ∀ (ks : List Int), (∀ z ∈ ks, kd L z = 3 → (0 ≤ fr L z ∧ fr L z < n) ∧ (vl L z = 1 ∨ vl L z = -1)) → cntL L ks n = valL L ks
  | [], _ => by
    have : ∀ m : Nat, cntL L [] m = 0 := by
      intro m
      induction m with
      | zero => rfl
      | succ m ih => rw [cntL_succ, ih]; rfl
    rw [this]; rfl
  | z :: ks, h => by
    have ih := cnt_val n ks fun y hy => h y (List.mem_cons_of_mem _ hy)
    have hz := h z (by simp)
    have key : ∀ (w : Int), (kd L z = 3 → w = vl L z) → (kd L z ≠ 3 → w = 0) → ∀ m : Nat, cntL L (z :: ks) m = cntL L ks m + ((List.range m).map fun a : Nat => if fr L z = (a : Int) then w else 0).sum := by
      intro w w1 w2 m
      induction m with
      | zero => rfl
      | succ m ih =>
        rw [cntL_succ, cntL_succ, ih, List.range_succ, List.map_append, List.sum_append, List.countP_cons, List.countP_cons]
        have e1 : isUp L m 1 z = true ↔ kd L z = 3 ∧ fr L z = (m : Int) ∧ vl L z = 1 := isUp_iff
        have e2 : isUp L m (-1) z = true ↔ kd L z = 3 ∧ fr L z = (m : Int) ∧ vl L z = -1 := isUp_iff
        simp only [List.map_cons, List.map_nil, List.sum_cons, List.sum_nil, Int.add_zero]
        generalize ((List.range m).map fun a : Nat => if fr L z = (a : Int) then w else 0).sum = S
        by_cases c : kd L z = 3
        · by_cases d : fr L z = (m : Int)
          · rcases (hz c).2 with v | v
            · rw [if_pos (e1.2 ⟨c, d, v⟩), if_neg (fun q => by have := (e2.1 q).2.2; omega), if_pos d, w1 c, v]; push_cast; omega
            · rw [if_neg (fun q => by have := (e1.1 q).2.2; omega), if_pos (e2.2 ⟨c, d, v⟩), if_pos d, w1 c, v]; push_cast; omega
          · rw [if_neg (fun q => d (e1.1 q).2.1), if_neg (fun q => d (e2.1 q).2.1), if_neg d]; push_cast; omega
        · rw [if_neg (fun q => c (e1.1 q).1), if_neg (fun q => c (e2.1 q).1), w2 c]
          split <;> (push_cast; omega)
    have e := key (if kd L z = 3 then vl L z else 0) (fun c => if_pos c) (fun c => if_neg c) n
    rw [e, ih]
    have e3 : valL L (z :: ks) = (if kd L z = 3 then vl L z else 0) + valL L ks := by unfold valL; rw [List.map_cons, List.sum_cons]
    rw [e3]
    by_cases c : kd L z = 3
    · rw [cnt_one n _ _ (hz c).1.1 (hz c).1.2]; omega
    · have : ((List.range n).map fun a : Nat => if fr L z = (a : Int) then (if kd L z = 3 then vl L z else 0) else 0).sum = 0 := by
        rw [if_neg c]
        have : ∀ m : Nat, ((List.range m).map fun a : Nat => if fr L z = (a : Int) then (0 : Int) else 0).sum = 0 := by
          intro m
          induction m with
          | zero => rfl
          | succ m ih => rw [List.range_succ, List.map_append, List.sum_append, ih]; simp
        exact this n
      rw [this, if_neg c]; omega
theorem cnt_ref (I : Inv L n k R tg T K N) {i : Nat} (hi : i < n) (hk : k ≤ 60) (hkl : k ≤ L.length) : whileM (F37_L4 L (gl K i)) (0, 0) = some (.brk (cntL L (gl K i) n)) := by
  have kl := I.len hi
  have hu : ∀ z ∈ gl K i, kd L z = 3 → (0 ≤ fr L z ∧ fr L z < n) ∧ (vl L z = 1 ∨ vl L z = -1) := fun z hz => I.ups z ⟨i, hi, hz⟩
  have hb : ∀ z ∈ gl K i, 0 ≤ z ∧ z < L.length := fun z hz => by have := I.kb z ⟨i, hi, hz⟩; omega
  rw [cnt_val n _ hu]
  generalize gl K i = ks at kl hu hb
  have h := while_upto (body := F37_L4 L ks) (fun j => (valL L (ks.take j), (j : Int))) ks.length (c := .brk (valL L ks)) (fun j hj => ?_) (by simp [F37_L4]) (by simp)
  · exact h
  · have hd : decide ((j : Int) < (ks.length : Int)) = true := by rw [decide_eq_true_eq]; omega
    have hg : ks[j]? = some ks[j] := List.getElem?_eq_getElem hj
    obtain ⟨h0, h1⟩ := hb _ (List.getElem_mem hj)
    have im := idx_mv (L := L) h0 h1
    have e : valL L (ks.take (j + 1)) = valL L (ks.take j) + (if kd L ks[j] = 3 then vl L ks[j] else 0) := by
      unfold valL; rw [take_succ' hj, List.map_append, List.sum_append]; simp
    have hv := valL_le (L := L) n (ks.take j) fun z hz => hu z (List.mem_of_mem_take hz)
    have hvl : (ks.take j).length ≤ 60 := by rw [List.length_take]; omega
    rw [e]
    cases c : ((mv L ks[j]).1 == 3) with
    | true =>
      have c' : kd L ks[j] = 3 := by rw [beq_iff_eq] at c; exact c
      have hvv := (hu _ (List.getElem_mem hj) c').2
      have wv : w64 (valL L (ks.take j) + (mv L ks[j]).2.2.2) = valL L (ks.take j) + vl L ks[j] := by
        show w64 (valL L (ks.take j) + vl L ks[j]) = _
        exact w64i (by omega) (by omega)
      simp only [F37_L4, hd, cond_true, idx_some hg, Option.bind_some, im, c, wv, if_pos c', w64_succ hj (by omega)]
    | false =>
      have c' : ¬ kd L ks[j] = 3 := by rw [beq_eq_false_iff_ne] at c; exact c
      simp only [F37_L4, hd, cond_true, cond_false, idx_some hg, Option.bind_some, im, c, if_neg c', Int.add_zero, w64_succ hj (by omega)]
theorem clip_val {l : List Int} : F70 l = some l := by
  have : slI l 0 (l.length : Int) = some l := by unfold slI; rw [if_pos ⟨by omega, by omega, by omega⟩]; simp
  simp only [F70, this, Option.bind_some]
def endI (L : List Mv) (T K : List (List Int)) (j : Nat) : List (List Int) := (List.range j).map fun i => insL L T (gl K i) 9
def endC (L : List Mv) (K : List (List Int)) (n j : Nat) : List Int := (List.range j).map fun i => cntL L (gl K i) n
theorem endI_succ (j : Nat) : endI L T K (j + 1) = endI L T K j ++ [insL L T (gl K j) 9] := by unfold endI; rw [List.range_succ, List.map_append]; rfl
theorem endC_succ (j : Nat) : endC L K n (j + 1) = endC L K n j ++ [cntL L (gl K j) n] := by unfold endC; rw [List.range_succ, List.map_append]; rfl
theorem end_prog (I : Inv L n k R tg T K N) (h6 : n ≤ 6) (hk : k ≤ 60) : whileM (F36_L2 (n : Int) R) ([], [], 0) = some (.brk (endI L T K n, endC L K n n)) := by
  refine while_upto (body := F36_L2 (n : Int) R) (fun j => (endI L T K j, endC L K n j, (j : Int))) n (fun j hj => ?_) (by simp [F36_L2, I.lr]) (by simp)
  have hd : decide ((j : Int) < ((R.length : Nat) : Int)) = true := by rw [decide_eq_true_eq, I.lr]; omega
  have jr := idx_rp (R := R) (i := j) (by rw [I.lr]; exact hj)
  have a1 := app1 24 (by decide) (endI L T K j) (insL L T (gl K j) 9) (by simp [endI]; omega)
  have a2 := app1 8 (by decide) (endC L K n j) (cntL L (gl K j) n) (by simp [endC]; omega)
  simp only [F36_L2, hd, cond_true, jr, Option.bind_some, ins_prog I hj hk, cnt_prog I h6 hj hk, Ctl.on, clip_val, a1, a2, endI_succ, endC_succ, w64_succ hj (by omega)]
theorem end_ref (I : Inv L n k R tg T K N) (h6 : n ≤ 6) (hk : k ≤ 60) (hkl : k ≤ L.length) : whileM (F37_L2 (n : Int) L T K) ([], [], 0) = some (.brk (endI L T K n, endC L K n n)) := by
  refine while_upto (body := F37_L2 (n : Int) L T K) (fun j => (endI L T K j, endC L K n j, (j : Int))) n (fun j hj => ?_) (by simp [F37_L2]) (by simp)
  have hd : decide ((j : Int) < (n : Int)) = true := by rw [decide_eq_true_eq]; omega
  have jk : idx K (j : Int) = some (gl K j) := idx_ge ([] : List Int) (by rw [I.lk]; exact hj)
  have a1 := app1 24 (by decide) (endI L T K j) (insL L T (gl K j) 9) (by simp [endI]; omega)
  have a2 := app1 8 (by decide) (endC L K n j) (cntL L (gl K j) n) (by simp [endC]; omega)
  simp only [F37_L2, hd, cond_true, jk, Option.bind_some, ins_ref I hj hk hkl, cnt_ref I hj hk hkl, Ctl.on, a1, a2, endI_succ, endC_succ, w64_succ hj (by omega)]
end
theorem init_val {n : Nat} (h6 : n ≤ 6) : whileM (F36_L0 (n : Int)) ([], 0) = some (.brk (List.replicate n ((mzero : Tm), (mzero : Tm), List.replicate n (0 : Int), List.replicate n (0 : Int)))) := by
  refine while_upto (body := F36_L0 (n : Int)) (fun k => (List.replicate k ((mzero : Tm), (mzero : Tm), List.replicate n (0 : Int), List.replicate n (0 : Int)), (k : Int))) n (fun k hk => ?_) (by simp [F36_L0]) (by simp)
  have hd : decide ((k : Int) < (n : Int)) = true := by rw [decide_eq_true_eq]; omega
  have m8 := mkl_rep h6 (show 8 ≤ 128 by decide) (0 : Int)
  have a1 := app1 64 (by decide) (List.replicate k ((mzero : Tm), (mzero : Tm), List.replicate n (0 : Int), List.replicate n (0 : Int))) ((mzero : Tm), (mzero : Tm), List.replicate n (0 : Int), List.replicate n (0 : Int)) (by simp; omega)
  rw [← List.replicate_succ'] at a1
  simp only [F36_L0, hd, cond_true, m8, Option.bind_some, a1, w64_succ hk (by omega)]
theorem law_MergePlays (x0 : Int) (b0 : -9223372036854775808 ≤ x0 ∧ x0 ≤ 9223372036854775807) (x1 : List Mv) (l1 : x1.length ≤ 9223372036854775807) (w1 : ∀ x ∈ x1, (-9223372036854775808 ≤ x.1 ∧ x.1 ≤ 9223372036854775807) ∧ (-9223372036854775808 ≤ x.2.1 ∧ x.2.1 ≤ 9223372036854775807) ∧ (-9223372036854775808 ≤ x.2.2.1 ∧ x.2.2.1 ≤ 9223372036854775807) ∧ (-9223372036854775808 ≤ x.2.2.2 ∧ x.2.2.2 ≤ 9223372036854775807)) :
    F10 x0 x1 = some true := by
  have h0 := same_codes [] (by simp)
  have h0' := same_lists [] (by simp) (by simp)
  have h0'' := same_ints [] (by simp)
  cases c : (((decide (x0 < 1)) || (decide (x0 > 6))) || (decide ((x1.length : Int) > 60))) with
  | true => simp [F10, F36, F21, c, h0, h0', h0'']
  | false =>
    have c' := c
    simp only [Bool.or_eq_false_iff, decide_eq_false_iff_not] at c'
    obtain ⟨n, rfl⟩ := nat_of (a := x0) (by omega)
    have h6 : n ≤ 6 := by omega
    have hl : x1.length ≤ 60 := by omega
    have gK : ∀ i, gl (List.replicate n ([] : List Int)) i = [] := fun i => by unfold gl ge; rw [List.getD_eq_getElem?_getD, List.getElem?_replicate]; split <;> rfl
    have gT : ∀ i, gl (List.replicate x1.length ([] : List Int)) i = [] := fun i => by unfold gl ge; rw [List.getD_eq_getElem?_getD, List.getElem?_replicate]; split <;> rfl
    have nk : ∀ z, ¬ Kn n (List.replicate n ([] : List Int)) z := fun z ⟨j, _, h⟩ => by rw [gK] at h; cases h
    have gR : ∀ i, i < n → rp (List.replicate n ((mzero : Tm), (mzero : Tm), List.replicate n (0 : Int), List.replicate n (0 : Int))) i = (mzero, mzero, List.replicate n 0, List.replicate n 0) := fun i hi => ge_rep _ _ hi
    have I : Inv x1 n 0 (List.replicate n ((mzero : Tm), (mzero : Tm), List.replicate n (0 : Int), List.replicate n (0 : Int))) 0 (List.replicate x1.length []) (List.replicate n []) (fun _ => 0) := by
      refine { lk := by simp, kb := fun z hz => absurd hz (nk z), nd := fun i hi => (by rw [gK]; exact List.nodup_nil), ups := fun z hz => absurd hz (nk z), own := fun i hi a ha => absurd ha (nk a), pre := fun i hi a b ha => absurd ha (nk a), lr := by simp, lt := by simp, tg0 := by simp, nb := fun z hz => absurd hz (nk z), inj := fun a b ha => absurd ha (nk a), te := fun d _ => gT d, tl := fun d => (by rw [gT]; simp), tk := fun d z hz => (by rw [gT] at hz; cases hz), inn := fun i hi x => ?_, out := fun i hi x => ?_, lu := fun i hi => (by rw [gR i hi]; simp), up := fun i hi j hj => (by rw [gR i hi, gK, ge_rep _ _ hj]; rfl), low := fun i hi j hj => (by rw [gR i hi, gK, ge_rep _ _ hj]; rfl) }
      · rw [gR i hi, pb_f]; rfl
        rintro ⟨z, hz, _⟩; rw [gK] at hz; cases hz
      · rw [gR i hi, pb_f]; rfl
        rintro ⟨z, hz, _⟩; rw [gK] at hz; cases hz
    obtain ⟨cs', R', tg', T', K', N', r1, r2, r3, r4⟩ := run_both h6 hl x1.length 0 (by omega) (cs := []) rfl I
    have m24 := mkl_rep h6 (show 24 ≤ 128 by decide) ([] : List Int)
    have m60 : mkl (x1.length : Int) 24 ([] : List Int) = some (List.replicate x1.length []) := by
      unfold mkl
      rw [if_pos ⟨by omega, by omega, by omega⟩]; simp
    have iv := init_val h6
    have ep := end_prog r4 h6 hl
    have er := end_ref r4 h6 hl (Nat.le_refl _)
    have r1' : whileM (F36_L1 x1) ([], List.replicate n ((mzero : Tm), (mzero : Tm), List.replicate n (0 : Int), List.replicate n (0 : Int)), 0, 0) = some (.brk (cs', R', tg')) := r1
    have r2' : whileM (F37_L0 (n : Int) x1) ([], List.replicate x1.length [], List.replicate n [], 0) = some (.brk (cs', T', K')) := r2
    have eF36 : F36 (n : Int) x1 = some ((cs', endI x1 T' K' n, endC x1 K' n n), 0) := by
      simp only [F36, c, cond_false, Option.bind_some, iv, Ctl.on, r1', ep]
    have eF37 : F37 (n : Int) x1 = some (cs', endI x1 T' K' n, endC x1 K' n n) := by
      simp only [F37, m24, m60, Option.bind_some, r2', Ctl.on, er]
    have eF21 : F21 (n : Int) (x1.length : Int) = some 0 := by simp only [F21, c, cond_false]
    have h1 := same_codes cs' (by omega)
    have h2 := same_lists (endI x1 T' K' n) (by simp [endI]; omega) fun x hx => by
      obtain ⟨i, _, rfl⟩ := List.mem_map.1 hx
      have := insL_len (L := x1) (T := T') (gl K' i) 9
      omega
    have h3 := same_ints (endC x1 K' n n) (by simp [endC]; omega)
    simp [F10, eF36, eF37, eF21, h1, h2, h3]
end Go.Proofs.Ythfkdepcnhhepaa
