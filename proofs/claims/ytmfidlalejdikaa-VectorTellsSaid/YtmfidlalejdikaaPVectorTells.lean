/-
  Vectors: what each event's past has of each process, by maxima against by counting.
-/
import Derived.Test.YtmfidlalejdikaaVM
import Derived.Test.YtmfidlalejdikaaPTickTells
namespace Go.Proofs.Ytmfidlalejdikaa
open Go Go.Bk
set_option linter.unusedVariables false
set_option linter.unusedSimpArgs false
set_option linter.unusedSectionVars false

/-- The process of an event. -/
def pc (l : List Ev) (i : Nat) : Int := ((l[i]?).map (·.1)).getD (-1)
theorem pc_of {l : List Ev} {i : Nat} {e : Ev} (h : l[i]? = some e) : pc l i = e.1 := by simp [pc, h]
/-- Is it in the past of an event, or the event itself? -/
def PI (l : List Ev) (i j : Nat) : Bool := (i == j) || T l i j
theorem PI_iff {l : List Ev} {i j : Nat} : PI l i j = true ↔ i = j ∨ T l i j = true := by simp [PI]
/-- How many of a process are in a set. -/
def ct (l : List Ev) (S : Nat → Bool) (q : Nat) : Nat := (List.range l.length).countP fun i => S i && (pc l i == (q : Int))
def vecL (l : List Ev) (n : Nat) (S : Nat → Bool) : List Int := (List.range n).map fun q => (ct l S q : Int)
theorem vecL_len (l : List Ev) (n : Nat) (S : Nat → Bool) : (vecL l n S).length = n := by simp [vecL]
theorem vecL_get {l : List Ev} {n q : Nat} {S : Nat → Bool} (h : q < n) : (vecL l n S)[q]? = some (ct l S q : Int) := by simp [vecL, h]
theorem ct_congr {l : List Ev} {S S' : Nat → Bool} {q : Nat} (h : ∀ i, i < l.length → pc l i = (q : Int) → S i = S' i) : ct l S q = ct l S' q := by
  unfold ct
  apply List.countP_congr
  intro i hi
  rw [List.mem_range] at hi
  by_cases c : pc l i = (q : Int)
  · rw [h i hi c]
  · have : (pc l i == (q : Int)) = false := by simpa using c
    simp [this]
theorem vecL_congr {l : List Ev} {n : Nat} {S S' : Nat → Bool} (h : ∀ i, i < l.length → S i = S' i) : vecL l n S = vecL l n S' := by
  unfold vecL
  apply List.map_congr_left
  intro q _
  rw [ct_congr fun i hi _ => h i hi]
theorem ct_le (l : List Ev) (S : Nat → Bool) (q : Nat) : ct l S q ≤ l.length := by
  have := List.countP_le_length (p := fun i => S i && (pc l i == (q : Int))) (l := List.range l.length)
  simpa [ct] using this
theorem ct_mono {l : List Ev} {S S' : Nat → Bool} {q : Nat} (h : ∀ i, i < l.length → pc l i = (q : Int) → S i = true → S' i = true) : ct l S q ≤ ct l S' q := by
  unfold ct
  apply List.countP_mono_left
  intro i hi hs
  rw [List.mem_range] at hi
  simp only [Bool.and_eq_true, beq_iff_eq] at hs ⊢
  exact ⟨h i hi hs.2 hs.1, hs.2⟩
/-- Of two pasts, one has all of a process that the other one has. -/
theorem ct_or {l : List Ev} {S S' : Nat → Bool} {q : Nat} (h : (∀ i, pc l i = (q : Int) → S i = true → S' i = true) ∨ (∀ i, pc l i = (q : Int) → S' i = true → S i = true)) :
    (ct l (fun i => S i || S' i) q : Int) = mx (ct l S q : Int) (ct l S' q : Int) := by
  rcases h with h | h
  · have e : ct l (fun i => S i || S' i) q = ct l S' q := ct_congr fun i _ hp => by
      cases c : S i with
      | false => rfl
      | true => rw [h i hp c]; rfl
    have := ct_mono (l := l) (S := S) (S' := S') (q := q) fun i _ hp hs => h i hp hs
    rw [e]; unfold mx; split <;> omega
  · have e : ct l (fun i => S i || S' i) q = ct l S q := ct_congr fun i _ hp => by
      cases c : S' i with
      | false => cases S i <;> rfl
      | true => rw [h i hp c]; rfl
    have := ct_mono (l := l) (S := S') (S' := S) (q := q) fun i _ hp hs => h i hp hs
    rw [e]; unfold mx; split <;> omega
theorem countP_or {α : Type} (p r : α → Bool) : ∀ (l : List α), (∀ x ∈ l, ¬ (p x = true ∧ r x = true)) → l.countP (fun x => p x || r x) = l.countP p + l.countP r
  | [], _ => rfl
  | x :: l, h => by
    have ih := countP_or p r l fun y hy => h y (List.mem_cons_of_mem _ hy)
    have hx := h x (by simp)
    rw [List.countP_cons, List.countP_cons, List.countP_cons, ih]
    cases c : p x <;> cases d : r x <;> simp_all <;> omega
theorem countP_at {N k : Nat} (hk : k < N) (b : Bool) : (List.range N).countP (fun i => (i == k) && b) = if b = true then 1 else 0 := by
  cases b with
  | false => simp
  | true =>
    simp only [Bool.and_true, if_true]
    have : (List.range N).countP (fun i => i == k) = (List.range N).count k := rfl
    rw [this, List.Nodup.count List.nodup_range, if_pos (List.mem_range.2 hk)]
/-- One more. -/
theorem ct_add {l : List Ev} {X : Nat → Bool} {k q : Nat} (hk : k < l.length) (hX : X k = false) : ct l (fun i => (i == k) || X i) q = ct l X q + (if pc l k = (q : Int) then 1 else 0) := by
  unfold ct
  have e : (fun i => ((i == k) || X i) && (pc l i == (q : Int))) = fun i => (X i && (pc l i == (q : Int))) || ((i == k) && (pc l k == (q : Int))) := by
    funext i
    by_cases c : i = k
    · subst c; cases X i <;> cases (pc l i == (q : Int)) <;> simp
    · have : (i == k) = false := by simpa using c
      simp [this]
  rw [e, countP_or, countP_at hk]
  · congr 1
    by_cases c : pc l k = (q : Int)
    · simp [c]
    · simp [c]
  · rintro i _ ⟨h1, h2⟩
    simp only [Bool.and_eq_true, beq_iff_eq] at h1 h2
    rw [h2.1, hX] at h1
    cases h1.1

section
variable {n : Int} {l : List Ev}
/-- What an event's process has known ahead of it; what the message's event knew. -/
def SC (l : List Ev) (p : Int) (k : Nat) (i : Nat) : Bool := (List.range k).any fun m => (pc l m == p) && PI l i m
def isSend (l : List Ev) (x : Int) (m : Nat) : Bool := match l[m]? with | some e => (e.2.1 == 2) && (e.2.2 == x) | none => false
def SM (l : List Ev) (x : Int) (k : Nat) (i : Nat) : Bool := (List.range k).any fun m => isSend l x m && PI l i m
theorem SC_iff {p : Int} {k i : Nat} : SC l p k i = true ↔ ∃ m, m < k ∧ pc l m = p ∧ PI l i m = true := by simp [SC]
theorem SM_iff {x : Int} {k i : Nat} : SM l x k i = true ↔ ∃ m, m < k ∧ isSend l x m = true ∧ PI l i m = true := by simp [SM]
theorem isSend_iff {x : Int} {m : Nat} : isSend l x m = true ↔ ∃ e, l[m]? = some e ∧ e.2.1 = 2 ∧ e.2.2 = x := by
  unfold isSend
  cases l[m]? with
  | none => simp
  | some e => simp
theorem PI_trans {a b c : Nat} (h1 : PI l a b = true) (h2 : PI l b c = true) : PI l a c = true := by
  rw [PI_iff] at h1 h2 ⊢
  rcases h1 with rfl | h1
  · exact h2
  · rcases h2 with rfl | h2
    · exact .inr h1
    · exact .inr (T_trans h1 h2)
theorem PI_lt {a b : Nat} (h : PI l a b = true) : a ≤ b := by
  rcases PI_iff.1 h with rfl | h
  · exact Nat.le_refl _
  · exact Nat.le_of_lt (T_lt h).1
theorem PI_same {a b : Nat} {e f : Ev} (ha : l[a]? = some e) (hb : l[b]? = some f) (h : e.1 = f.1) (hlt : a ≤ b) : PI l a b = true := by
  rcases Nat.eq_or_lt_of_le hlt with rfl | hlt
  · exact PI_iff.2 (.inl rfl)
  · exact PI_iff.2 (.inr (T_of_E (E_iff.2 ⟨e, f, ha, hb, hlt, .inl h⟩)))
theorem pc_get {i : Nat} {q : Nat} (h : pc l i = (q : Int)) : ∃ e, l[i]? = some e ∧ e.1 = (q : Int) := by
  unfold pc at h
  cases c : l[i]? with
  | none => rw [c] at h; simp at h
  | some e => rw [c] at h; exact ⟨e, rfl, by simpa using h⟩
/-- Closed to what stands ahead in a process. -/
def Dn (l : List Ev) (S : Nat → Bool) : Prop := ∀ i j, PI l i j = true → S j = true → S i = true
theorem Dn_cmp {S S' : Nat → Bool} (h : Dn l S) (h' : Dn l S') (q : Nat) : (∀ i, pc l i = (q : Int) → S i = true → S' i = true) ∨ (∀ i, pc l i = (q : Int) → S' i = true → S i = true) := by
  refine Classical.byContradiction fun hn => ?_
  rw [not_or] at hn
  obtain ⟨a, ha⟩ := Classical.not_forall.1 hn.1
  obtain ⟨b, hb⟩ := Classical.not_forall.1 hn.2
  obtain ⟨a1, ha⟩ := Classical.not_imp.1 ha
  obtain ⟨a2, a3⟩ := Classical.not_imp.1 ha
  obtain ⟨b1, hb⟩ := Classical.not_imp.1 hb
  obtain ⟨b2, b3⟩ := Classical.not_imp.1 hb
  obtain ⟨e, he, he1⟩ := pc_get a1
  obtain ⟨f, hf, hf1⟩ := pc_get b1
  rcases Nat.le_total a b with c | c
  · exact a3 (h' a b (PI_same he hf (by rw [he1, hf1]) c) b2)
  · exact b3 (h b a (PI_same hf he (by rw [he1, hf1]) c) a2)
theorem Dn_SC (p : Int) (k : Nat) : Dn l (SC l p k) := fun i j h hj => by
  obtain ⟨m, h1, h2, h3⟩ := SC_iff.1 hj
  exact SC_iff.2 ⟨m, h1, h2, PI_trans h h3⟩
theorem Dn_SM (p : Int) (k : Nat) : Dn l (SM l p k) := fun i j h hj => by
  obtain ⟨m, h1, h2, h3⟩ := SM_iff.1 hj
  exact SM_iff.2 ⟨m, h1, h2, PI_trans h h3⟩
/-- What stands ahead of an event: what its process knew, and what its message's event knew. -/
theorem T_split {k i : Nat} {e : Ev} (hk : l[k]? = some e) : T l i k = true ↔ SC l e.1 k i = true ∨ (e.2.1 = 3 ∧ SM l e.2.2 k i = true) := by
  rw [T_last]
  constructor
  · rintro ⟨m, hE, hor⟩
    obtain ⟨a, b, ha, hb, hm, h⟩ := E_iff.1 hE
    rw [hk] at hb
    obtain rfl := Option.some.inj hb
    have hp : PI l i m = true := PI_iff.2 hor
    rcases h with h | ⟨h1, h2, h3⟩
    · exact .inl (SC_iff.2 ⟨m, hm, by rw [pc_of ha, h], hp⟩)
    · exact .inr ⟨h2, SM_iff.2 ⟨m, hm, isSend_iff.2 ⟨a, ha, h1, h3⟩, hp⟩⟩
  · rintro (h | ⟨h1, h⟩)
    · obtain ⟨m, hm, hp, hi⟩ := SC_iff.1 h
      cases c : l[m]? with
      | none => have := lt_of_get hk; rw [List.getElem?_eq_none_iff] at c; omega
      | some a =>
        rw [pc_of c] at hp
        exact ⟨m, E_iff.2 ⟨a, e, c, hk, hm, .inl hp⟩, PI_iff.1 hi⟩
    · obtain ⟨m, hm, hs, hi⟩ := SM_iff.1 h
      obtain ⟨a, ha, a1, a2⟩ := isSend_iff.1 hs
      exact ⟨m, E_iff.2 ⟨a, e, ha, hk, hm, .inr ⟨a1, h1, a2⟩⟩, PI_iff.1 hi⟩

/-! The loops. -/
theorem clone_val (x : List Int) (h : x.length ≤ 1000) : F43 x = some x := by
  unfold F43 appl
  rw [if_pos (by simp; omega)]; simp
theorem joinV {N : Nat} (hN : N ≤ 6) (u v : List Int) (hu : u.length = N) (hv : v.length = N) : ∃ z, F44 u v = some z ∧ z.length = N ∧ ∀ q, q < N → vi z q = mx (vi u q) (vi v q) := by
  have hw := while_foldI (body := F44_L0 v) (fun k (t : List Int) => (t, (k : Int))) N (fun k t => t.set k (mx (vi t k) (vi v k))) id
    (fun k t => t.length = N ∧ ∀ q, q < N → vi t q = if q < k then mx (vi u q) (vi v q) else vi u q) u ⟨hu, fun q hq => by simp⟩
    (fun k t hk I => by
      have hd : decide ((k : Int) < (v.length : Int)) = true := by rw [decide_eq_true_eq]; omega
      have i1 : idx v (k : Int) = some (vi v k) := idx_some (get_vi (by omega))
      have i2 : idx t (k : Int) = some (vi t k) := idx_some (get_vi (by rw [I.1]; exact hk))
      refine ⟨by simp only [F44_L0, hd, cond_true, i1, i2, Option.bind_some, Int.toNat_natCast, w64_succ hk (by omega)], by rw [List.length_set]; exact I.1, fun q hq => ?_⟩
      rw [vi_set (by rw [I.1]; exact hk)]
      by_cases c : q = k
      · subst c; rw [if_pos rfl, if_pos (by omega), I.2 q hq, if_neg (by omega)]
      · rw [if_neg c, I.2 q hq]
        by_cases d : q < k
        · rw [if_pos d, if_pos (by omega)]
        · rw [if_neg d, if_neg (by omega)])
    (fun t I => by simp [F44_L0, hv])
  obtain ⟨h1, h2, h3⟩ := hw
  refine ⟨_, ?_, h2, fun q hq => by rw [h3 q hq, if_pos hq]⟩
  have h1' : whileM (F44_L0 v) (u, 0) = _ := h1
  simp only [F44, clone_val u (by omega), Option.bind_some, h1', Ctl.on, id]
theorem ext_vi {u v : List Int} {N : Nat} (hu : u.length = N) (hv : v.length = N) (h : ∀ q, q < N → vi u q = vi v q) : u = v := by
  apply List.ext_getElem?
  intro j
  by_cases hj : j < N
  · rw [get_vi (by omega), get_vi (by omega), h j hj]
  · rw [List.getElem?_eq_none (by omega), List.getElem?_eq_none (by omega)]
theorem vi_vecL {N q : Nat} {S : Nat → Bool} (h : q < N) : vi (vecL l N S) q = (ct l S q : Int) := by
  have h1 := vecL_get (l := l) (S := S) h
  rw [get_vi (by rw [vecL_len]; exact h)] at h1
  exact Option.some.inj h1
/-- The vector of an event. -/
def vec (l : List Ev) (N k : Nat) : List Int := vecL l N (fun i => PI l i k)
theorem vec_step {N k : Nat} {e : Ev} (g : Good n l) (hn : n = (N : Int)) (hk : l[k]? = some e) {v : List Int} (hv : v.length = N)
    (h : ∀ q, q < N → vi v q = (ct l (fun i => T l i k) q : Int)) : v.set e.1.toNat (vi v e.1.toNat + 1) = vec l N k := by
  have hp := g.proc hk
  have hlt := lt_of_get hk
  refine ext_vi (N := N) (by rw [List.length_set]; exact hv) (vecL_len _ _ _) fun q hq => ?_
  have e0 : T l k k = false := by
    cases c : T l k k with
    | false => rfl
    | true => have := (T_lt c).1; omega
  have e1 := ct_add (l := l) (X := fun i => T l i k) (k := k) (q := q) hlt e0
  have e2 : vi (vec l N k) q = (ct l (fun i => (i == k) || T l i k) q : Int) := vi_vecL hq
  rw [vi_set (by omega), e2, e1, pc_of hk]
  by_cases c : q = e.1.toNat
  · subst c
    rw [if_pos rfl, if_pos (by omega), h _ hq]; push_cast; rfl
  · rw [if_neg c, if_neg (by omega), h q hq]; simp

/-- What the program has ahead of event k. -/
structure VP (l : List Ev) (N k : Nat) (out : List (List Int)) (sent : Int → Option (List Int)) (clock : List (List Int)) : Prop where
  out : out = (List.range k).map (vec l N)
  len : clock.length = N
  clk : ∀ p, p < N → clock[p]? = some (vecL l N (SC l (p : Int) k))
  snt : ∀ x m, m < k → isSend l x m = true → sent x = some (vec l N m)
theorem VP.step {N k : Nat} {out clock : List (List Int)} {sent : Int → Option (List Int)} (g : Good n l) (hn : n = (N : Int)) (hN : N ≤ 6) (hk : k < l.length) (I : VP l N k out sent clock) :
    ∃ out' sent' clock', F28_L1 l (out, sent, clock, (k : Int)) = some (.nxt (out', sent', clock', ((k + 1 : Nat) : Int))) ∧ VP l N (k + 1) out' sent' clock' := by
  have hg : l[k]? = some l[k] := List.getElem?_eq_getElem hk
  generalize l[k] = e at hg
  have hp := g.proc hg
  have hl := g.len
  obtain ⟨p, hpe⟩ : ∃ p : Nat, e.1 = (p : Int) := ⟨e.1.toNat, by omega⟩
  have hpN : p < N := by omega
  have hd : decide ((k : Int) < (l.length : Int)) = true := by rw [decide_eq_true_eq]; omega
  have ic : idx clock (p : Int) = some (vecL l N (SC l (p : Int) k)) := idx_some (I.clk p hpN)
  have c1 := clone_val (vecL l N (SC l (p : Int) k)) (by rw [vecL_len]; omega)
  -- what is known ahead of the event
  have hv : ∃ v, (cond (e.2.1 == 3) (Option.bind (F44 (vecL l N (SC l (p : Int) k)) ((sent e.2.2).getD [])) fun r85 => some r85) (some (vecL l N (SC l (p : Int) k)))) = some v ∧ v.length = N ∧ ∀ q, q < N → vi v q = (ct l (fun i => T l i k) q : Int) := by
    cases c : (e.2.1 == 3) with
    | false =>
      refine ⟨_, by rw [cond_false], vecL_len _ _ _, fun q hq => ?_⟩
      rw [vi_vecL hq]
      congr 1
      refine ct_congr fun i _ _ => ?_
      rw [Bool.eq_iff_iff, T_split hg, hpe]
      simp only [beq_eq_false_iff_ne] at c
      exact ⟨.inl, fun h => h.elim id fun h => absurd h.1 c⟩
    | true =>
      have e3 : e.2.1 = 3 := by simpa using c
      have hs := ((g.msg hg (by omega)).2.2.2 e3).1
      have : ∃ m, m < k ∧ isSend l e.2.2 m = true := by
        unfold sn at hs
        have h1 := List.countP_pos_iff.1 (Nat.pos_of_ne_zero hs)
        obtain ⟨a, ha, ha2⟩ := h1
        obtain ⟨m, hm⟩ := List.mem_iff_getElem?.1 ha
        rw [List.getElem?_take] at hm
        split at hm
        · rename_i hmk
          refine ⟨m, hmk, isSend_iff.2 ⟨a, hm, ?_⟩⟩
          simpa [isS] using ha2
        · cases hm
      obtain ⟨m, hm, hsm⟩ := this
      have hsent := I.snt _ m hm hsm
      have huniq : ∀ i, SM l e.2.2 k i = PI l i m := fun i => by
        rw [Bool.eq_iff_iff, SM_iff]
        constructor
        · rintro ⟨m', h1, h2, h3⟩
          obtain ⟨a, ha, a1, a2⟩ := isSend_iff.1 hsm
          obtain ⟨b, hb, b1, b2⟩ := isSend_iff.1 h2
          rcases Nat.lt_trichotomy m m' with q | q | q
          · exact (g.once ha hb q a1 b1 (by rw [a2, b2])).elim
          · rw [q]; exact h3
          · exact (g.once hb ha q b1 a1 (by rw [a2, b2])).elim
        · exact fun h => ⟨m, hm, hsm, h⟩
      obtain ⟨z, z1, z2, z3⟩ := joinV hN (vecL l N (SC l (p : Int) k)) (vec l N m) (vecL_len _ _ _) (vecL_len _ _ _)
      refine ⟨z, by rw [cond_true, hsent, Option.getD_some, z1, Option.bind_some], z2, fun q hq => ?_⟩
      have e4 : vi (vec l N m) q = (ct l (fun i => PI l i m) q : Int) := vi_vecL hq
      have e5 : ct l (fun i => T l i k) q = ct l (fun i => SC l (p : Int) k i || SM l e.2.2 k i) q := ct_congr fun i _ _ => by
        rw [Bool.eq_iff_iff, T_split hg, hpe, Bool.or_eq_true]
        exact ⟨fun h => h.imp id (·.2), fun h => h.imp id fun h => ⟨e3, h⟩⟩
      have e6 : ct l (fun i => PI l i m) q = ct l (SM l e.2.2 k) q := ct_congr fun i _ _ => (huniq i).symm
      rw [z3 q hq, vi_vecL hq, e4, e5, e6, ct_or (Dn_cmp (Dn_SC _ _) (Dn_SM _ _) q)]
  obtain ⟨v, v1, v2, v3⟩ := hv
  have vs := vec_step g hn hg v2 v3
  have hb : vi v p ≤ 30 ∧ 0 ≤ vi v p := by rw [v3 p hpN]; have := ct_le l (fun i => T l i k) p; omega
  rw [hpe, Int.toNat_natCast] at vs
  have ws : w64 (vi v p + 1) = vi v p + 1 := w64_of (by omega) (by omega)
  have iv : idx v (p : Int) = some (vi v p) := idx_some (get_vi (by omega))
  have c2 := clone_val (vec l N k) (by show (vecL _ _ _).length ≤ _; rw [vecL_len]; omega)
  have ap : appl 24 out [vec l N k] = some (out ++ [vec l N k]) := by
    unfold appl; rw [if_pos]
    rw [I.out]; simp; omega
  have hsc : ∀ i, i < l.length → PI l i k = SC l (p : Int) (k + 1) i := fun i _ => by
    rw [Bool.eq_iff_iff, SC_iff]
    constructor
    · exact fun h => ⟨k, by omega, by rw [pc_of hg, hpe], h⟩
    · rintro ⟨m, h1, h2, h3⟩
      by_cases c : m = k
      · subst c; exact h3
      · obtain ⟨a, ha, ha1⟩ := pc_get h2
        exact PI_trans h3 (PI_same ha hg (by rw [ha1, hpe]) (by omega))
  refine ⟨out ++ [vec l N k], cond (e.2.1 == 2) (mupd sent e.2.2 (vec l N k)) sent, clock.set p (vec l N k), ?_, ?_, ?_, ?_, ?_⟩
  · simp only [F28_L1, hd, cond_true, idx_some hg, Option.bind_some, hpe, ic, c1, v1, iv, ws, vs, Int.toNat_natCast, c2, ap, w64_succ hk (by omega)]
    cases (e.2.1 == 2) <;> rfl
  · rw [I.out, List.range_succ, List.map_append]; rfl
  · rw [List.length_set]; exact I.len
  · intro q hq
    rw [List.getElem?_set]
    by_cases c : p = q
    · subst c
      rw [if_pos rfl, if_pos (by rw [I.len]; exact hq)]
      exact congrArg some (vecL_congr hsc)
    · rw [if_neg c, I.clk q hq]
      refine congrArg some (vecL_congr fun i _ => ?_)
      rw [Bool.eq_iff_iff, SC_iff, SC_iff]
      constructor
      · rintro ⟨m, h1, h2⟩; exact ⟨m, by omega, h2⟩
      · rintro ⟨m, h1, h2, h3⟩
        have : m ≠ k := fun q' => by subst q'; rw [pc_of hg, hpe] at h2; omega
        exact ⟨m, by omega, h2, h3⟩
  · intro x m hm hs
    by_cases c : m = k
    · subst c
      obtain ⟨a, ha, a1, a2⟩ := isSend_iff.1 hs
      rw [hg] at ha
      obtain rfl := Option.some.inj ha
      have : (e.2.1 == 2) = true := by simpa using a1
      rw [this, cond_true]
      unfold mupd
      rw [if_pos a2.symm]
    · have h1 := I.snt x m (by omega) hs
      cases c3 : (e.2.1 == 2) with
      | false => exact h1
      | true =>
        rw [cond_true]
        unfold mupd
        by_cases c4 : x = e.2.2
        · obtain ⟨a, ha, a1, a2⟩ := isSend_iff.1 hs
          exact (g.once ha hg (by omega) a1 (by simpa using c3) (by rw [a2, c4])).elim
        · rw [if_neg c4]; exact h1

theorem vec0 {N : Nat} : vecL l N (fun _ => false) = List.replicate N 0 := by
  refine ext_vi (N := N) (vecL_len _ _ _) (by simp) fun q hq => ?_
  rw [vi_vecL hq]
  have : ct l (fun _ => false) q = 0 := by unfold ct; simp
  rw [this]
  unfold vi; rw [List.getD_eq_getElem?_getD, List.getElem?_replicate]; simp [hq]
theorem vectors_val (g : Good n l) {N : Nat} (hn : n = (N : Int)) (hc : F15 n l = some 0) : F28 n l = some ((List.range l.length).map (vec l N), 0) := by
  have hN : N ≤ 6 := by have := g.n6; omega
  have m1 : mkl n 24 ([] : List Int) = some (List.replicate N []) := by unfold mkl; rw [if_pos ⟨by omega, by omega, by omega⟩, hn]; simp
  have m2 : mkl n 8 (0 : Int) = some (List.replicate N 0) := by unfold mkl; rw [if_pos ⟨by omega, by omega, by omega⟩, hn]; simp
  have w0 : whileM (F28_L0 n (List.replicate N [])) (List.replicate N [], 0) = some (.brk (List.replicate N (List.replicate N 0))) := by
    have := while_upto (body := F28_L0 n (List.replicate N [])) (fun k => (List.replicate k (List.replicate N (0 : Int)) ++ List.replicate (N - k) [], (k : Int))) N (c := .brk (List.replicate N (List.replicate N 0))) (fun k hk => ?_) (by simp [F28_L0]) (by simp)
    · simpa using this
    · have hd : decide ((k : Int) < (((List.replicate N ([] : List Int)).length : Nat) : Int)) = true := by rw [decide_eq_true_eq]; simp; omega
      have hi : idx (List.replicate k (List.replicate N (0 : Int)) ++ List.replicate (N - k) []) (k : Int) = some [] := idx_some (by rw [List.getElem?_append_right (by simp), List.length_replicate, Nat.sub_self, List.getElem?_replicate, if_pos (by omega)])
      have hs : (List.replicate k (List.replicate N (0 : Int)) ++ List.replicate (N - k) []).set k (List.replicate N 0) = List.replicate (k + 1) (List.replicate N (0 : Int)) ++ List.replicate (N - (k + 1)) [] := by
        obtain ⟨r, hr⟩ : ∃ r, N - k = r + 1 := ⟨N - k - 1, by omega⟩
        rw [hr, show N - (k + 1) = r by omega, List.set_append_right _ _ (by simp)]
        simp only [List.length_replicate, Nat.sub_self, List.replicate_succ, List.set_cons_zero]
        rw [← List.replicate_succ, List.replicate_succ', List.append_assoc]
        rfl
      simp only [F28_L0, hd, cond_true, m2, Option.bind_some, hi, Int.toNat_natCast, hs, w64_succ hk (by omega)]
  have I0 : VP l N 0 [] (mzero : Int → Option (List Int)) (List.replicate N (List.replicate N 0)) := by
    refine ⟨rfl, by simp, fun p hp => ?_, fun x m hm => by omega⟩
    rw [List.getElem?_replicate, if_pos hp, ← vec0 (l := l)]
    refine congrArg some (vecL_congr fun i _ => ?_)
    simp [SC]
  have run : ∀ r k, k + r = l.length → ∀ out sent clock, VP l N k out sent clock → ∃ s' c', whileM (F28_L1 l) (out, sent, clock, (k : Int)) = some (.brk ((List.range l.length).map (vec l N), s', c')) := by
    intro r
    induction r with
    | zero =>
      intro k hk out sent clock I
      obtain rfl : k = l.length := by omega
      exact ⟨sent, clock, by rw [whileM_brk (s' := (out, sent, clock)) (by simp [F28_L1]), I.out]⟩
    | succ r ih =>
      intro k hk out sent clock I
      obtain ⟨o', s', c', h1, h2⟩ := VP.step g hn hN (show k < l.length by omega) I
      rw [whileM_nxt h1]
      exact ih (k + 1) (by omega) _ _ _ h2
  obtain ⟨s', c', hr⟩ := run l.length 0 (by omega) _ _ _ I0
  have hr' : whileM (F28_L1 l) ([], (mzero : Int → Option (List Int)), List.replicate N (List.replicate N 0), 0) = _ := hr
  simp only [F28, hc, Option.bind_some, show ((0 : Int) != 0) = false from rfl, cond_false, m1, w0, Ctl.on, hr']
/-- The reference counts. -/
theorem vector_ref (g : Good n l) {N : Nat} (hn : n = (N : Int)) {j : Nat} (hj : j < l.length) : F29 n l (mat l.length (T l)) (j : Int) = some (vec l N j) := by
  have hN : N ≤ 6 := by have := g.n6; omega
  have hl := g.len
  have m2 : mkl n 8 (0 : Int) = some (List.replicate N 0) := by unfold mkl; rw [if_pos ⟨by omega, by omega, by omega⟩, hn]; simp
  have hw := while_upto (body := F29_L0 l (mat l.length (T l)) (j : Int)) (fun k => (vecL l N (fun i => decide (i < k) && PI l i j), (k : Int))) (j + 1) (c := .brk (vec l N j)) (fun k hk => ?_) ?_ (by simp)
  · have e0 : vecL l N (fun i => decide (i < 0) && PI l i j) = List.replicate N 0 := by rw [← vec0 (l := l)]; exact vecL_congr fun i _ => by simp
    rw [e0] at hw
    have hw' : whileM (F29_L0 l (mat l.length (T l)) (j : Int)) (List.replicate N 0, 0) = some (.brk (vec l N j)) := hw
    simp only [F29, m2, Option.bind_some, hw', Ctl.on]
  · have hkl : k < l.length := by omega
    have hg : l[k]? = some l[k] := List.getElem?_eq_getElem hkl
    generalize l[k] = e at hg
    have hp := g.proc hg
    obtain ⟨p, hpe⟩ : ∃ p : Nat, e.1 = (p : Int) := ⟨e.1.toNat, by omega⟩
    have hpN : p < N := by omega
    have hd : decide ((k : Int) ≤ (j : Int)) = true := by rw [decide_eq_true_eq]; omega
    have q1 : idx (mat l.length (T l)) (k : Int) = some (rowf l.length (T l k)) := rowf_idx hkl
    have q2 : idx (rowf l.length (T l k)) (j : Int) = some (T l k j) := rowf_idx hj
    have hb : (cond ((k : Int) == (j : Int)) (some true) (Option.bind (idx (mat l.length (T l)) (k : Int)) fun (x20 : List Bool) => Option.bind (idx x20 (j : Int)) fun x23 => some x23)) = some (PI l k j) := by
      unfold PI
      by_cases c : k = j
      · subst c; simp
      · have c1 : ((k : Int) == (j : Int)) = false := by rw [beq_eq_false_iff_ne]; omega
        have c2 : (k == j) = false := by rw [beq_eq_false_iff_ne]; exact c
        rw [c1, c2, cond_false, q1, Option.bind_some, q2, Option.bind_some]; rfl
    have key : ∀ q, ct l (fun i => decide (i < k + 1) && PI l i j) q = ct l (fun i => decide (i < k) && PI l i j) q + (if PI l k j = true ∧ p = q then 1 else 0) := fun q => by
      cases c : PI l k j with
      | false =>
        rw [if_neg (by simp)]
        refine ct_congr fun i _ _ => ?_
        by_cases d : i = k
        · subst d; rw [c]; simp
        · have : decide (i < k + 1) = decide (i < k) := by rw [decide_eq_decide]; omega
          rw [this]
      | true =>
        have := ct_add (l := l) (X := fun i => decide (i < k) && PI l i j) (k := k) (q := q) hkl (by simp)
        rw [pc_of hg, hpe] at this
        rw [show (if true = true ∧ p = q then 1 else 0) = (if ((p : Nat) : Int) = (q : Int) then 1 else 0) by simp [Int.ofNat_inj], ← this]
        refine ct_congr fun i _ _ => ?_
        by_cases d : i = k
        · subst d; rw [c]; simp
        · have e1 : decide (i < k + 1) = decide (i < k) := by rw [decide_eq_decide]; omega
          have e2 : (i == k) = false := by rw [beq_eq_false_iff_ne]; exact d
          rw [e1, e2]; simp
    have iv : idx (vecL l N (fun i => decide (i < k) && PI l i j)) (p : Int) = some (ct l (fun i => decide (i < k) && PI l i j) p : Int) := idx_some (vecL_get hpN)
    have hle := ct_le l (fun i => decide (i < k) && PI l i j) p
    have ws : w64 ((ct l (fun i => decide (i < k) && PI l i j) p : Int) + 1) = (ct l (fun i => decide (i < k) && PI l i j) p : Int) + 1 := w64_of (by omega) (by omega)
    have w1 : w64 ((k : Int) + 1) = ((k + 1 : Nat) : Int) := w64_succ hkl (by omega)
    simp only [F29_L0, hd, cond_true, hb, Option.bind_some]
    cases c : PI l k j with
    | true =>
      have es : (vecL l N (fun i => decide (i < k) && PI l i j)).set p ((ct l (fun i => decide (i < k) && PI l i j) p : Int) + 1) = vecL l N (fun i => decide (i < k + 1) && PI l i j) := by
        refine ext_vi (N := N) (by rw [List.length_set]; exact vecL_len _ _ _) (vecL_len _ _ _) fun q hq => ?_
        rw [vi_set (by rw [vecL_len]; exact hpN), vi_vecL hq, vi_vecL hq, key q]
        by_cases d : q = p
        · subst d; rw [if_pos rfl, if_pos ⟨c, rfl⟩]; push_cast; rfl
        · rw [if_neg d, if_neg (fun h => d h.2.symm)]; simp
      simp only [cond_true, idx_some hg, Option.bind_some, hpe, iv, ws, Int.toNat_natCast, es, w1]
    | false =>
      have es : vecL l N (fun i => decide (i < k) && PI l i j) = vecL l N (fun i => decide (i < k + 1) && PI l i j) := by
        unfold vecL
        apply List.map_congr_left
        intro q _
        rw [key q, if_neg (fun h => by rw [c] at h; exact absurd h.1 (by simp))]; simp
      simp only [cond_false, Option.bind_some, w1, es]
  · have hd : decide (((j + 1 : Nat) : Int) ≤ (j : Int)) = false := by rw [decide_eq_false_iff_not]; omega
    have e : vecL l N (fun i => decide (i < j + 1) && PI l i j) = vec l N j := vecL_congr fun i _ => by
      cases c : PI l i j with
      | false => simp
      | true => have := PI_lt c; simp; omega
    simp only [F29_L0, hd, cond_false, e]
end
theorem law_VectorTells (a0 : Int) (_ : i64 a0) (a1 : List Ev) (h : a1.length ≤ 9223372036854775807) (_ : ∀ x ∈ a1, i64 x.1 ∧ i64 x.2.1 ∧ i64 x.2.2) : F9 a0 a1 = some true := by
  obtain ⟨r, q1, q2⟩ := runCheck_same a0 a1
  by_cases c : r = 0
  · subst c
    have g := good_of q2
    obtain ⟨N, hN⟩ : ∃ N : Nat, a0 = (N : Int) := ⟨a0.toNat, by have := g.n1; omega⟩
    have hv := vectors_val g hN q1
    have hl := g.len
    have hw : whileM (F9_L0 a0 a1 ((List.range a1.length).map (vec a1 N)) (mat a1.length (T a1))) 0 = some (.brk ()) := by
      refine while_upto (fun k => (k : Int)) a1.length (fun k hk => ?_) (by simp [F9_L0]) (by simp)
      have hd : decide ((k : Int) < (a1.length : Int)) = true := by rw [decide_eq_true_eq]; omega
      have ii : idx ((List.range a1.length).map (vec a1 N)) (k : Int) = some (vec a1 N k) := idx_some (by simp [hk])
      have hs := ints_self (vec a1 N k) (by show (vecL _ _ _).length ≤ _; rw [vecL_len]; have := g.n6; omega)
      simp only [F9_L0, hd, cond_true, ii, vector_ref g hN hk, Option.bind_some, hs, Bool.not_true, cond_false, w64_succ hk (by omega)]
    have e1 : ((((List.range a1.length).map (vec a1 N)).length : Int) != (a1.length : Int)) = false := by simp
    simp only [F9, hv, q2, f18_val hl, Option.bind_some, show ((0 : Int) != 0) = false from rfl, Bool.false_or, e1, cond_false, hw, Ctl.on]
  · have c1 : (r != 0) = true := by simpa using c
    have e : F28 a0 a1 = some ([], r) := by simp only [F28, q1, Option.bind_some, c1, cond_true]
    simp [F9, e, q2, c1, c]
theorem law_CutLeasts (a0 : Int) (_ : i64 a0) (a1 : List Ev) (h : a1.length ≤ 9223372036854775807) (_ : ∀ x ∈ a1, i64 x.1 ∧ i64 x.2.1 ∧ i64 x.2.2) (a2 : Int) (_ : i64 a2) : F11 a0 a1 a2 = some true := by
  obtain ⟨r, q1, q2⟩ := runCheck_same a0 a1
  by_cases c : r = 0
  · subst c
    have g := good_of q2
    obtain ⟨N, hN⟩ : ∃ N : Nat, a0 = (N : Int) := ⟨a0.toNat, by have := g.n1; omega⟩
    have hv := vectors_val g hN q1
    have hl := g.len
    cases b : ((decide (a2 < 0)) || (decide (a2 ≥ (a1.length : Int)))) with
    | true =>
      have e : F32 a0 a1 a2 = some ([], 4) := by simp only [F32, hv, Option.bind_some, show ((0 : Int) != 0) = false from rfl, cond_false, b, cond_true]
      simp [F11, e, q2, b]
    | false =>
      have b' := b
      simp only [Bool.or_eq_false_iff, decide_eq_false_iff_not] at b'
      obtain ⟨j, rfl⟩ : ∃ j : Nat, a2 = (j : Int) := ⟨a2.toNat, by omega⟩
      have hj : j < a1.length := by omega
      have ii : idx ((List.range a1.length).map (vec a1 N)) (j : Int) = some (vec a1 N j) := idx_some (by simp [hj])
      have e : F32 a0 a1 (j : Int) = some (vec a1 N j, 0) := by simp only [F32, hv, Option.bind_some, show ((0 : Int) != 0) = false from rfl, cond_false, b, ii]
      have hs := ints_self (vec a1 N j) (by show (vecL _ _ _).length ≤ _; rw [vecL_len]; have := g.n6; omega)
      simp only [F11, e, q2, b, f18_val hl, vector_ref g hN hj, hs, Option.bind_some, Bool.and_false, cond_false, cond_true, show ((0 : Int) != 0) = false from rfl, show ((0 : Int) == 0) = true from rfl]
  · have c1 : (r != 0) = true := by simpa using c
    have c2 : (r == 0) = false := by simpa using c
    have e : F28 a0 a1 = some ([], r) := by simp only [F28, q1, Option.bind_some, c1, cond_true]
    have e2 : F32 a0 a1 a2 = some ([], r) := by simp only [F32, e, Option.bind_some, c1, cond_true]
    simp [F11, e2, q2, c1, c2, c]
end Go.Proofs.Ytmfidlalejdikaa
