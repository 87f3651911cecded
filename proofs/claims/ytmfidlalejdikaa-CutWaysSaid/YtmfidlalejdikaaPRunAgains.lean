/-
  The plain law of RunAgains.
-/
import Derived.Test.YtmfidlalejdikaaPRunAheads
namespace Go.Proofs.Ytmfidlalejdikaa
open Go Go.Bk
set_option linter.unusedVariables false
set_option linter.unusedSimpArgs false

theorem first_of {p : Nat → Prop} : ∀ n, (∃ k, k < n ∧ p k) → ∃ k, k < n ∧ p k ∧ ∀ m, m < k → ¬ p m
  | 0, ⟨k, hk, _⟩ => by omega
  | n + 1, ⟨k, hk, hp⟩ => by
    by_cases c : ∃ k, k < n ∧ p k
    · obtain ⟨k, h1, h2, h3⟩ := first_of n c
      exact ⟨k, by omega, h2, h3⟩
    · have : k = n := by
        apply Classical.byContradiction
        intro h
        exact c ⟨k, by omega, hp⟩
      subst this
      exact ⟨k, by omega, hp, fun m hm hpm => c ⟨m, hm, hpm⟩⟩
/-- The set of numbers of a list. -/
def sw (xs : List Int) : W32 := xs.foldl (fun s x => s ||| (1#32 <<< x.toNat)) 0#32
theorem sw_snoc (xs : List Int) (x : Int) : sw (xs ++ [x]) = sw xs ||| (1#32 <<< x.toNat) := by unfold sw; rw [List.foldl_append]; rfl
theorem sw_bit : ∀ (xs : List Int) (s : W32) (i : Nat), (∀ x ∈ xs, x.toNat < 32) → (xs.foldl (fun s x => s ||| (1#32 <<< x.toNat)) s).getLsbD i = (s.getLsbD i || xs.any (fun x => decide (x.toNat = i)))
  | [], s, i, _ => by simp
  | x :: xs, s, i, h => by
    rw [List.foldl_cons, sw_bit xs _ i (fun y hy => h y (by simp [hy])), BitVec.getLsbD_or, bit_one (h x (by simp)), List.any_cons, Bool.or_assoc]
    congr 2
    rw [Bool.eq_iff_iff]; simp [eq_comm]
theorem sw_iff {xs : List Int} (h : ∀ x ∈ xs, x.toNat < 32) (i : Nat) : (sw xs).getLsbD i = true ↔ ∃ x ∈ xs, x.toNat = i := by
  unfold sw; rw [sw_bit xs _ i h]; simp
theorem cnt_or_new {n : Nat} {s : W32} {b : Nat} (hb : b < n) (hn : n ≤ 32) (h : s.getLsbD b = false) : cnt n s + 1 ≤ cnt n (s ||| (1#32 <<< b)) := by
  have : cnt n s < cnt n (s ||| (1#32 <<< b)) := countP_lt _ _ _ (fun x _ hx => by simp [hx]) ⟨b, by simpa using hb, h, by rw [BitVec.getLsbD_or, bit_one (by omega)]; simp⟩
  omega
/-- The numbers of a list that are below n: at most as many as are new. -/
def new (n : Nat) (xs : List Int) : Nat := (List.range n).countP (fun (i : Nat) => xs.any (fun x => x == (i : Int)))
theorem new_nil (n : Nat) : new n [] = 0 := by unfold new; rw [List.countP_eq_zero]; intro i _; simp
theorem countP_or1 {α : Type} [DecidableEq α] (p q : α → Bool) (a : α) : ∀ (l : List α), l.Nodup → (∀ x ∈ l, q x = true → p x = true ∨ x = a) → l.countP q ≤ l.countP p + 1
  | [], _, _ => by simp
  | x :: l, hn, h => by
    rw [List.countP_cons, List.countP_cons]
    rw [List.nodup_cons] at hn
    by_cases e : x = a
    · subst e
      have : l.countP q ≤ l.countP p := List.countP_mono_left fun y hy hq => by
        rcases h y (by simp [hy]) hq with r | r
        · exact r
        · subst r; exact absurd hy hn.1
      cases q x <;> cases p x <;> simp <;> omega
    · have ih := countP_or1 p q a l hn.2 fun y hy => h y (by simp [hy])
      have hx := h x (by simp)
      cases c : q x with
      | false => cases p x <;> simp <;> omega
      | true =>
        rcases hx c with r | r
        · rw [r]; simp; omega
        · exact absurd r e
theorem new_snoc_le (n : Nat) (xs : List Int) (x : Int) : new n (xs ++ [x]) ≤ new n xs + 1 := by
  unfold new
  refine countP_or1 _ _ x.toNat _ List.nodup_range fun i hi h => ?_
  rw [List.any_append, Bool.or_eq_true] at h
  rcases h with h | h
  · exact .inl h
  · right
    simp at h
    omega
theorem new_snoc_old {n : Nat} {xs : List Int} {x : Int} (h : x < 0 ∨ (n : Int) ≤ x ∨ x ∈ xs) : new n (xs ++ [x]) = new n xs := by
  unfold new
  refine List.countP_congr fun i hi => ?_
  have hi' : i < n := by simpa using hi
  rw [List.any_append, Bool.or_eq_true]
  constructor
  · rintro (h' | h')
    · exact h'
    · simp at h'
      rcases h with h | h | h
      · exfalso; omega
      · exfalso; omega
      · rw [List.any_eq_true]; exact ⟨x, h, by simp [h']⟩
  · exact .inl
theorem new_app_le (n : Nat) : ∀ (ys xs : List Int), new n (xs ++ ys) ≤ new n xs + ys.length
  | [], xs => by simp
  | y :: ys, xs => by
    have h1 := new_app_le n ys (xs ++ [y])
    have h2 := new_snoc_le n xs y
    rw [List.append_assoc] at h1
    simp only [List.singleton_append] at h1
    simp only [List.length_cons]; omega
theorem new_full {n : Nat} {xs : List Int} (h : ∀ i, i < n → (i : Int) ∈ xs) : new n xs = n := by
  unfold new
  have : (List.range n).countP (fun (i : Nat) => xs.any (fun x => x == (i : Int))) = (List.range n).length := List.countP_eq_length.2 fun i hi => by
    rw [List.any_eq_true]; exact ⟨i, h i (by simpa using hi), by simp⟩
  rw [this, List.length_range]

theorem f41_val (xs : List Int) (x : Int) (hl : xs.length ≤ 9223372036854775807) : F41 xs x = some (xs.any (fun y => x == y)) := by
  have h : whileM (F41_L0 xs x) 0 = some (found () (cond (xs.any (fun y => x == y)) (some true) none)) := by
    rw [← scan_any (k := 0)]
    refine while_scan hl _ (fun k e h => ?_) (by simp [F41_L0])
    have hk := lt_of_get h
    cases c : (x == e) <;> simp [F41_L0, idx_some h, hk, going, c]
  unfold F41
  rw [h]
  cases xs.any (fun y => x == y) <;> simp [found, Ctl.on]
theorem f21_val (n : Nat) (hn : n ≤ 30) (xs : List Int) (hl : xs.length = n) : F21 (n : Int) xs = some ((List.range n).all (fun i => xs.any (fun y => (i : Int) == y))) := by
  have h : whileM (F21_L0 (n : Int) xs) 0 = some (found () (scan (fun k (_ : Unit) => if xs.any (fun y => (k : Int) == y) = true then none else some false) (List.replicate n ()) 0)) :=
    while_scanN (fun k => (k : Int)) n (b := ()) (fun k => if xs.any (fun y => (k : Int) == y) = true then none else some false)
      (fun k hk => by
        have hkn : decide ((k : Int) < (n : Int)) = true := by simpa using hk
        simp only [F21_L0, f41_val xs _ (show xs.length ≤ 9223372036854775807 by omega), Option.bind_some, hkn, cond_true, w64_succ hk (by omega)]
        cases xs.any (fun y => (k : Int) == y) <;> simp [going])
      (by simp [F21_L0])
  unfold F21
  have hne : ((xs.length : Int) != (n : Int)) = false := by simp [hl]
  rw [hne, h]
  cases hs : scan (fun k (_ : Unit) => if xs.any (fun y => (k : Int) == y) = true then none else some false) (List.replicate n ()) 0 with
  | none =>
    have : (List.range n).all (fun i => xs.any (fun y => (i : Int) == y)) = true := by
      rw [List.all_eq_true]
      intro i hi
      have := scanN_none.1 hs i (by simpa using hi)
      cases c : xs.any (fun y => (i : Int) == y) with
      | true => rfl
      | false => rw [c] at this; simp at this
    rw [this]; simp [found, Ctl.on]
  | some r =>
    obtain ⟨k, hk, hv⟩ := scanN_val hs
    have hc : xs.any (fun y => (k : Int) == y) = false := by
      cases c : xs.any (fun y => (k : Int) == y) with
      | false => rfl
      | true => rw [c] at hv; simp at hv
    have : (List.range n).all (fun i => xs.any (fun y => (i : Int) == y)) = false := by
      rw [List.all_eq_false]; exact ⟨k, by simpa using hk, by rw [hc]; simp⟩
    rw [hc] at hv
    simp at hv
    subst hv
    rw [this]; simp [found, Ctl.on]

/-- What the walk trips over at place k. -/
def bad (n : Nat) (xs : List Int) (k : Nat) (x : Int) : Bool := ((decide (x < 0)) || (decide (x ≥ (n : Int)))) || (sw (xs.take k)).getLsbD x.toNat
def okk (past : List W32) (xs : List Int) (k : Nat) : Bool := (List.range k).all (fun m => match xs[m]? with | some x => (wd past x.toNat &&& ~~~(sw (xs.take m))) == 0#32 | none => true)
theorem okk_succ {past : List W32} {xs : List Int} {k : Nat} {x : Int} (h : xs[k]? = some x) : okk past xs (k + 1) = (okk past xs k && ((wd past x.toNat &&& ~~~(sw (xs.take k))) == 0#32)) := by
  unfold okk; rw [List.range_succ, List.all_append]; simp [h]
theorem f20_step {l : List Ev} {xs : List Int} {past : List W32} (hl : l.length ≤ 30) (hp : past.length = l.length) {k : Nat} {x : Int} (h : xs[k]? = some x) (hb : bad l.length xs k x = false) (hx : xs.length ≤ 30) :
    F20_L0 l xs past (sw (xs.take k), okk past xs k, (k : Int)) = some (.nxt (sw (xs.take (k + 1)), okk past xs (k + 1), ((k + 1 : Nat) : Int))) := by
  have hk := lt_of_get h
  have hkl : decide ((k : Int) < (xs.length : Int)) = true := by simpa using hk
  unfold bad at hb
  rw [Bool.or_eq_false_iff] at hb
  obtain ⟨hb1, hb2⟩ := hb
  have hb1' := hb1
  simp only [Bool.or_eq_false_iff, decide_eq_false_iff_not] at hb1'
  have hs : shc x = some x.toNat := by unfold shc; rw [if_pos (by omega)]
  have hi : idx past x = some (wd past x.toNat) := by unfold idx; rw [if_pos (by omega), get_wd (by omega)]
  rw [okk_succ h, List.take_add_one, h]
  simp only [Option.toList_some, sw_snoc]
  simp only [F20_L0, idx_some h, hb1, hs, hi, bit_eq, hb2, Option.bind_some, hkl, cond_true, cond_false, w64_succ hk (by omega)]
  cases okk past xs k <;> simp
theorem f20_trip {l : List Ev} {xs : List Int} {past : List W32} {k : Nat} {x : Int} (h : xs[k]? = some x) (hb : bad l.length xs k x = true) (b : Bool) :
    F20_L0 l xs past (sw (xs.take k), b, (k : Int)) = some (.ret (false, 3)) := by
  have hk := lt_of_get h
  have hkl : decide ((k : Int) < (xs.length : Int)) = true := by simpa using hk
  unfold bad at hb
  cases c : ((decide (x < 0)) || (decide (x ≥ (l.length : Int)))) with
  | true => simp only [F20_L0, idx_some h, c, Option.bind_some, hkl, cond_true]
  | false =>
    rw [c, Bool.false_or] at hb
    have hb1' := c
    simp only [Bool.or_eq_false_iff, decide_eq_false_iff_not] at hb1'
    have hs : shc x = some x.toNat := by unfold shc; rw [if_pos (by omega)]
    simp only [F20_L0, idx_some h, c, hs, bit_eq, hb, Option.bind_some, hkl, cond_true, cond_false]

theorem f22_val {l : List Ev} (hl : l.length ≤ 30) {xs : List Int} (hx : xs.length ≤ 30) (hr : ∀ x ∈ xs, 0 ≤ x ∧ x < l.length) :
    ∃ r, F22 l xs = some r ∧ (r = true ↔ ∀ (a b : Nat) (x y : Int), xs[a]? = some x → xs[b]? = some y → a < b → T l y.toNat x.toNat = false) := by
  have h1 : ∀ (a : Nat) (x : Int), xs[a]? = some x → ∃ o : Option Bool, whileM (F22_L1 xs (mat l.length (T l)) (a : Int)) ((a + 1 : Nat) : Int) = some (found () o) ∧ (∀ r, o = some r → r = false) ∧ (o = none ↔ ∀ (b : Nat) (y : Int), xs[b]? = some y → a < b → T l y.toNat x.toNat = false) := fun a x ha => by
    have hxr := hr x (List.mem_of_getElem? ha)
    by_cases c : ∃ b, b < xs.length - (a + 1) ∧ ∃ y : Int, xs[a + 1 + b]? = some y ∧ T l y.toNat x.toNat = true
    · obtain ⟨b, hb, ⟨y, hy, ht⟩, hmin⟩ := first_of _ c
      have hw := while_upto (body := F22_L1 xs (mat l.length (T l)) (a : Int)) (fun k => ((a + 1 + k : Nat) : Int)) b (c := .ret false)
        (fun k hk => by
          have hlt : a + 1 + k < xs.length := by omega
          have hg : xs[a + 1 + k]? = some xs[a + 1 + k] := List.getElem?_eq_getElem hlt
          have hzr := hr _ (List.getElem_mem hlt)
          have hnt : T l (xs[a + 1 + k]).toNat x.toNat = false := by
            cases c : T l (xs[a + 1 + k]).toNat x.toNat with
            | false => rfl
            | true => exact absurd ⟨_, hg, c⟩ (hmin k hk)
          generalize xs[a + 1 + k] = z at *
          obtain ⟨z', rfl⟩ : ∃ n : Nat, z = n := ⟨z.toNat, by omega⟩
          obtain ⟨x', rfl⟩ : ∃ n : Nat, x = n := ⟨x.toNat, by omega⟩
          have q1 : idx (mat l.length (T l)) (z' : Int) = some (rowf l.length (T l z')) := rowf_idx (by omega)
          have q2 : idx (rowf l.length (T l z')) (x' : Int) = some (T l z' x') := rowf_idx (by omega)
          simp only [Int.toNat_natCast] at hnt
          have hkl : decide (((a + 1 + k : Nat) : Int) < (xs.length : Int)) = true := by rw [decide_eq_true_eq]; omega
          have hwz : w64 (((a + 1 + k : Nat) : Int) + 1) = ((a + 1 + (k + 1) : Nat) : Int) := by rw [w64_succ hlt (by omega)]; rfl
          simp only [F22_L1, idx_some hg, idx_some ha, q1, q2, hnt, Option.bind_some, hkl, cond_true, cond_false, hwz])
        (by
          have hlt : a + 1 + b < xs.length := by omega
          have hyr := hr _ (List.mem_of_getElem? hy)
          obtain ⟨z', rfl⟩ : ∃ n : Nat, y = n := ⟨y.toNat, by omega⟩
          obtain ⟨x', rfl⟩ : ∃ n : Nat, x = n := ⟨x.toNat, by omega⟩
          have q1 : idx (mat l.length (T l)) (z' : Int) = some (rowf l.length (T l z')) := rowf_idx (by omega)
          have q2 : idx (rowf l.length (T l z')) (x' : Int) = some (T l z' x') := rowf_idx (by omega)
          simp only [Int.toNat_natCast] at ht
          have hkl : decide (((a + 1 + b : Nat) : Int) < (xs.length : Int)) = true := by rw [decide_eq_true_eq]; omega
          simp only [F22_L1, idx_some hy, idx_some ha, q1, q2, ht, Option.bind_some, hkl, cond_true])
        (by intro s h; cases h)
      refine ⟨some false, hw, fun r hr => (by cases hr; rfl), ⟨fun h => (by cases h), fun h => ?_⟩⟩
      have := h (a + 1 + b) y hy (by omega)
      rw [ht] at this; cases this
    · have hn : ∀ (b : Nat) (y : Int), xs[b]? = some y → a < b → T l y.toNat x.toNat = false := fun b y hy hab => by
        cases d : T l y.toNat x.toNat with
        | false => rfl
        | true =>
          have hlt := lt_of_get hy
          exact absurd ⟨b - (a + 1), by omega, y, by rw [show a + 1 + (b - (a + 1)) = b by omega]; exact hy, d⟩ c
      have hw := while_upto (body := F22_L1 xs (mat l.length (T l)) (a : Int)) (fun k => ((a + 1 + k : Nat) : Int)) (xs.length - (a + 1)) (c := .brk ())
        (fun k hk => by
          have hlt : a + 1 + k < xs.length := by omega
          have hg : xs[a + 1 + k]? = some xs[a + 1 + k] := List.getElem?_eq_getElem hlt
          have hzr := hr _ (List.getElem_mem hlt)
          have hnt := hn _ _ hg (by omega)
          generalize xs[a + 1 + k] = z at *
          obtain ⟨z', rfl⟩ : ∃ n : Nat, z = n := ⟨z.toNat, by omega⟩
          obtain ⟨x', rfl⟩ : ∃ n : Nat, x = n := ⟨x.toNat, by omega⟩
          have q1 : idx (mat l.length (T l)) (z' : Int) = some (rowf l.length (T l z')) := rowf_idx (by omega)
          have q2 : idx (rowf l.length (T l z')) (x' : Int) = some (T l z' x') := rowf_idx (by omega)
          simp only [Int.toNat_natCast] at hnt
          have hkl : decide (((a + 1 + k : Nat) : Int) < (xs.length : Int)) = true := by rw [decide_eq_true_eq]; omega
          have hwz : w64 (((a + 1 + k : Nat) : Int) + 1) = ((a + 1 + (k + 1) : Nat) : Int) := by rw [w64_succ hlt (by omega)]; rfl
          simp only [F22_L1, idx_some hg, idx_some ha, q1, q2, hnt, Option.bind_some, hkl, cond_true, cond_false, hwz])
        (by
          have hka : a < xs.length := lt_of_get ha
          have hkl : decide (((a + 1 + (xs.length - (a + 1)) : Nat) : Int) < (xs.length : Int)) = false := by rw [decide_eq_false_iff_not]; omega
          simp only [F22_L1, hkl, cond_false])
        (by intro s h; cases h)
      exact ⟨none, hw, fun r hr => (by cases hr), ⟨fun _ => hn, fun _ => rfl⟩⟩
  have h18 := f18_val hl
  by_cases c : ∃ a, a < xs.length ∧ ∃ x : Int, xs[a]? = some x ∧ ∃ (b : Nat) (y : Int), xs[b]? = some y ∧ a < b ∧ T l y.toNat x.toNat = true
  · obtain ⟨a, ha, ⟨x, hx1, b, y, hy, hab, ht⟩, hmin⟩ := first_of _ c
    have step : ∀ (k : Nat) (z : Int), xs[k]? = some z → ∀ o, whileM (F22_L1 xs (mat l.length (T l)) (k : Int)) ((k + 1 : Nat) : Int) = some (found () o) → F22_L0 xs (mat l.length (T l)) (k : Int) = some (going ((k + 1 : Nat) : Int) o) := fun k z hz o ho => by
      have hk := lt_of_get hz
      have hkl : decide ((k : Int) < (xs.length : Int)) = true := by simpa using hk
      simp only [F22_L0, w64_succ hk (by omega), ho, Option.bind_some, hkl, cond_true]
      cases o <;> simp [found, going, Ctl.on]
    have hw := while_upto (body := F22_L0 xs (mat l.length (T l))) (fun k => (k : Int)) a (c := .ret false)
      (fun k hk => by
        have hlt : k < xs.length := by omega
        have hg : xs[k]? = some xs[k] := List.getElem?_eq_getElem hlt
        obtain ⟨o, ho, _, hiff⟩ := h1 k _ hg
        have : o = none := hiff.2 fun b y hy hkb => by
          cases d : T l y.toNat (xs[k]).toNat with
          | false => rfl
          | true => exact absurd ⟨_, hg, b, y, hy, hkb, d⟩ (hmin k hk)
        subst this
        rw [step k _ hg _ ho]; rfl)
      (by
        obtain ⟨o, ho, hv, hiff⟩ := h1 a x hx1
        cases o with
        | none => have := hiff.1 rfl b y hy hab; rw [ht] at this; cases this
        | some r => rw [step a x hx1 _ ho]; rw [hv r rfl]; rfl)
      (by intro s h; cases h)
    refine ⟨false, ?_, ⟨fun h => (by cases h), fun h => ?_⟩⟩
    · unfold F22
      have hw' : whileM (F22_L0 xs (mat l.length (T l))) 0 = _ := hw
      rw [h18]; simp only [Option.bind_some, hw', Ctl.on]
    · have := h a b x y hx1 hy hab
      rw [ht] at this; cases this
  · have hn : ∀ (a b : Nat) (x y : Int), xs[a]? = some x → xs[b]? = some y → a < b → T l y.toNat x.toNat = false := fun a b x y hxa hyb hab => by
      cases d : T l y.toNat x.toNat with
      | false => rfl
      | true => exact absurd ⟨a, lt_of_get hxa, x, hxa, b, y, hyb, hab, d⟩ c
    have hw := while_upto (body := F22_L0 xs (mat l.length (T l))) (fun k => (k : Int)) xs.length (c := .brk ())
      (fun k hk => by
        have hg : xs[k]? = some xs[k] := List.getElem?_eq_getElem hk
        obtain ⟨o, ho, _, hiff⟩ := h1 k _ hg
        have : o = none := hiff.2 fun b y hy hkb => hn k b _ y hg hy hkb
        subst this
        have hkl : decide ((k : Int) < (xs.length : Int)) = true := by simpa using hk
        simp only [F22_L0, w64_succ hk (by omega), ho, Option.bind_some, hkl, cond_true, found, Ctl.on])
      (by simp [F22_L0]) (by intro s h; cases h)
    refine ⟨true, ?_, ⟨fun _ => hn, fun _ => rfl⟩⟩
    unfold F22
    have hw' : whileM (F22_L0 xs (mat l.length (T l))) 0 = _ := hw
    rw [h18]; simp only [Option.bind_some, hw', Ctl.on]

theorem law_RunAgains (a0 : Int) (_ : i64 a0) (a1 : List Ev) (h : a1.length ≤ 9223372036854775807) (_ : ∀ x ∈ a1, i64 x.1 ∧ i64 x.2.1 ∧ i64 x.2.2) (a2 : List Int) (h2 : a2.length ≤ 9223372036854775807) (_ : ∀ x ∈ a2, i64 x) : F6 a0 a1 a2 = some true := by
  obtain ⟨r, q1, q2⟩ := runCheck_same a0 a1
  unfold F6 F20
  rw [q1, q2]
  by_cases c : r = 0
  · subst c
    have g := good_of q2
    have hl := g.len
    obtain ⟨past, e1, e2, e3⟩ := f40_val g
    by_cases cl : a2.length = a1.length
    · have hne : ((a2.length : Int) != (a1.length : Int)) = false := by simp [cl]
      have h21 := f21_val a1.length hl a2 cl
      by_cases cb : ∃ k, k < a2.length ∧ ∃ x : Int, a2[k]? = some x ∧ bad a1.length a2 k x = true
      · -- the walk trips
        obtain ⟨k, hk, ⟨x, hx, hb⟩, hmin⟩ := first_of _ cb
        have hok : ∀ (m : Nat) (y : Int), m < k → a2[m]? = some y → bad a1.length a2 m y = false := fun m y hm hy => by
          cases d : bad a1.length a2 m y with
          | false => rfl
          | true => exact absurd ⟨y, hy, d⟩ (hmin m hm)
        have hw := while_upto (body := F20_L0 a1 a2 past) (fun m => (sw (a2.take m), okk past a2 m, (m : Int))) k (c := .ret (false, 3))
          (fun m hm => by
            have hg : a2[m]? = some a2[m] := List.getElem?_eq_getElem (by omega)
            exact f20_step hl e2 hg (hok m _ hm hg) (by omega))
          (f20_trip hx hb _) (by intro s h; cases h)
        have hw' : whileM (F20_L0 a1 a2 past) (0#32, true, 0) = _ := hw
        -- not each number is there
        have hall : (List.range a1.length).all (fun i => a2.any (fun y => (i : Int) == y)) = false := by
          cases d : (List.range a1.length).all (fun i => a2.any (fun y => (i : Int) == y)) with
          | false => rfl
          | true =>
            exfalso
            have hf : new a1.length a2 = a1.length := new_full fun i hi => by
              have := List.all_eq_true.1 d i (by simpa using hi)
              obtain ⟨y, hy, he⟩ := List.any_eq_true.1 this
              have : (i : Int) = y := by simpa using he
              rw [this]; exact hy
            have hsplit : a2 = (a2.take k ++ [x]) ++ a2.drop (k + 1) := by
              have h1 : a2.drop k = x :: a2.drop (k + 1) := by
                have := List.drop_eq_getElem_cons hk
                have h3 : a2[k] = x := by rw [List.getElem?_eq_getElem hk] at hx; exact Option.some.inj hx
                rw [this, h3]
              rw [List.append_assoc, List.singleton_append, ← h1, List.take_append_drop]
            have hr : ∀ y ∈ a2.take k, 0 ≤ y ∧ y < a1.length := fun y hy => by
              obtain ⟨m, hm⟩ := List.getElem?_of_mem hy
              rw [List.getElem?_take] at hm
              split at hm
              · rename_i hmk
                have := hok m y hmk hm
                unfold bad at this
                simp only [Bool.or_eq_false_iff, decide_eq_false_iff_not] at this
                omega
              · cases hm
            have hold : x < 0 ∨ (a1.length : Int) ≤ x ∨ x ∈ a2.take k := by
              unfold bad at hb
              simp only [Bool.or_eq_true, decide_eq_true_eq] at hb
              rcases hb with (hb | hb) | hb
              · exact .inl hb
              · exact .inr (.inl hb)
              · by_cases hx0 : x < 0
                · exact .inl hx0
                · right; right
                  obtain ⟨y, hy, he⟩ := (sw_iff (fun y hy => by have := hr y hy; omega) _).1 hb
                  have := hr y hy
                  have : y = x := by omega
                  rw [← this]; exact hy
            have n1 := new_app_le a1.length (a2.take k) []
            rw [List.nil_append, new_nil] at n1
            have n2 := new_snoc_old hold
            have n3 := new_app_le a1.length (a2.drop (k + 1)) (a2.take k ++ [x])
            rw [← hsplit, hf, n2] at n3
            simp only [List.length_take, List.length_drop] at n1 n3
            omega
        simp [e1, hne, hw', h21, hall, Ctl.on]
      · have hok : ∀ (m : Nat) (y : Int), a2[m]? = some y → bad a1.length a2 m y = false := fun m y hy => by
          cases d : bad a1.length a2 m y with
          | false => rfl
          | true => exact absurd ⟨m, lt_of_get hy, y, hy, d⟩ cb
        have hw := while_upto (body := F20_L0 a1 a2 past) (fun m => (sw (a2.take m), okk past a2 m, (m : Int))) a2.length (c := .brk (okk past a2 a2.length))
          (fun m hm => by
            have hg : a2[m]? = some a2[m] := List.getElem?_eq_getElem hm
            exact f20_step hl e2 hg (hok m _ hg) (by omega))
          (by simp [F20_L0]) (by intro s h; cases h)
        have hw' : whileM (F20_L0 a1 a2 past) (0#32, true, 0) = _ := hw
        have hr : ∀ y ∈ a2, 0 ≤ y ∧ y < a1.length := fun y hy => by
          obtain ⟨m, hm⟩ := List.getElem?_of_mem hy
          have := hok m y hm
          unfold bad at this
          simp only [Bool.or_eq_false_iff, decide_eq_false_iff_not] at this
          omega
        have hrt : ∀ k, ∀ y ∈ a2.take k, y.toNat < 32 := fun k y hy => by have := hr y (List.mem_of_mem_take hy); omega
        -- no number twice
        have hdup : ∀ (a b : Nat) (x : Int), a2[a]? = some x → a2[b]? = some x → a < b → False := fun a b x ha hb hab => by
          have := hok b x hb
          unfold bad at this
          rw [Bool.or_eq_false_iff] at this
          have hs := (sw_iff (hrt b) x.toNat).2 ⟨x, List.mem_of_getElem? (i := a) (by rw [List.getElem?_take, if_pos hab]; exact ha), rfl⟩
          rw [hs] at this
          cases this.2
        -- each number is there
        have hfull : ∀ k, k ≤ a2.length → k ≤ cnt a1.length (sw (a2.take k)) := by
          intro k
          induction k with
          | zero => intro _; omega
          | succ k ih =>
            intro hk
            have hg : a2[k]? = some a2[k] := List.getElem?_eq_getElem (by omega)
            have hxr := hr _ (List.getElem_mem (show k < a2.length by omega))
            have hb := hok k _ hg
            unfold bad at hb
            rw [Bool.or_eq_false_iff] at hb
            rw [List.take_add_one, hg]
            simp only [Option.toList_some, sw_snoc]
            have := cnt_or_new (n := a1.length) (b := (a2[k]).toNat) (by omega) (by omega) hb.2
            have := ih (by omega)
            omega
        have hthere : ∀ i, i < a1.length → ∃ (m : Nat) (x : Int), a2[m]? = some x ∧ x.toNat = i := fun i hi => by
          have h1 := hfull a2.length (Nat.le_refl _)
          rw [List.take_length] at h1
          have h2 := cnt_full (n := a1.length) (s := sw a2) (by omega) i hi
          obtain ⟨x, hx, he⟩ := (sw_iff (fun y hy => by have := hr y hy; omega) i).1 h2
          obtain ⟨m, hm⟩ := List.getElem?_of_mem hx
          exact ⟨m, x, hm, he⟩
        have hall : (List.range a1.length).all (fun i => a2.any (fun y => (i : Int) == y)) = true := by
          rw [List.all_eq_true]
          intro i hi
          obtain ⟨m, x, hm, he⟩ := hthere i (by simpa using hi)
          have := hr x (List.mem_of_getElem? hm)
          rw [List.any_eq_true]
          exact ⟨x, List.mem_of_getElem? hm, by simp; omega⟩
        obtain ⟨s, f1, f2⟩ := f22_val hl (xs := a2) (by omega) hr
        have hsame : okk past a2 a2.length = s := by
          rw [Bool.eq_iff_iff, f2]
          unfold okk
          rw [List.all_eq_true]
          constructor
          · intro ho a b x y ha hb hab
            cases d : T a1 y.toNat x.toNat with
            | false => rfl
            | true =>
              exfalso
              have h1 := ho a (by simpa using lt_of_get ha)
              rw [ha] at h1
              simp only [beq_iff_eq] at h1
              have hxr := hr x (List.mem_of_getElem? ha)
              have h2 := congrArg (fun w => w.getLsbD y.toNat) h1
              have hy32 : y.toNat < 32 := by have := hr y (List.mem_of_getElem? hb); omega
              simp only [BitVec.getLsbD_and, BitVec.getLsbD_not, e3 x.toNat (by omega), d, Bool.true_and, BitVec.getLsbD_zero, decide_eq_true hy32, Bool.not_eq_false'] at h2
              obtain ⟨z, hz, he⟩ := (sw_iff (hrt a) _).1 h2
              obtain ⟨m, hm⟩ := List.getElem?_of_mem hz
              rw [List.getElem?_take] at hm
              split at hm
              · have hzr := hr z (List.mem_of_mem_take hz)
                have hyr := hr y (List.mem_of_getElem? hb)
                have : z = y := by omega
                subst this
                exact hdup m b z hm hb (by omega)
              · cases hm
          · intro hn k hk
            have hk' : k < a2.length := by simpa using hk
            have hg : a2[k]? = some a2[k] := List.getElem?_eq_getElem hk'
            rw [hg]
            simp only [beq_iff_eq]
            apply BitVec.eq_of_getLsbD_eq
            intro i hi
            have hxr := hr _ (List.getElem_mem hk')
            simp only [BitVec.getLsbD_and, BitVec.getLsbD_not, e3 (a2[k]).toNat (by omega), BitVec.getLsbD_zero, decide_eq_true hi, Bool.true_and]
            cases d : T a1 i (a2[k]).toNat with
            | false => rfl
            | true =>
              have hlt := T_lt d
              obtain ⟨m, x, hm, he⟩ := hthere i (by omega)
              have hmk : m < k := by
                apply Classical.byContradiction
                intro hc
                by_cases e : m = k
                · subst e
                  rw [hg] at hm
                  have := Option.some.inj hm
                  rw [← this] at he
                  omega
                · have := hn k m _ x hg hm (by omega)
                  rw [he, d] at this; cases this
              have : (sw (a2.take k)).getLsbD i = true := (sw_iff (hrt k) i).2 ⟨x, List.mem_of_getElem? (i := m) (by rw [List.getElem?_take, if_pos hmk]; exact hm), he⟩
              rw [this]; rfl
        simp [e1, hne, hw', h21, hall, f1, hsame, Ctl.on]
    · have hne : ((a2.length : Int) != (a1.length : Int)) = true := by simp; omega
      have h21 : F21 (a1.length : Int) a2 = some false := by unfold F21; rw [hne]; rfl
      simp [hne, h21]
  · have c1 : (r != 0) = true := by simpa using c
    have c2 : (r == 0) = false := by simpa using c
    simp [c1, c2, c]
end Go.Proofs.Ytmfidlalejdikaa
