/-
  The plain law of CausalPlays.
-/
import Derived.Test.YthfkdepcnhhepaaZM
import Derived.Test.YthfkdepcnhhepaaPWays
namespace Go.Proofs.Ythfkdepcnhhepaa
open Go Go.Bk
set_option linter.unusedVariables false
set_option linter.unusedSimpArgs false
set_option linter.unusedSectionVars false

abbrev Cm := Int → Option Bool
abbrev Ms := Int × List Int
/-- By whom a message is. -/
def byOf (Y : List Int) (z : Int) : Int := ge (-1) Y z.toNat
def cnt (Y S : List Int) (p : Int) : Nat := S.countP fun z => byOf Y z == p
/-- Numbers of messages, each once; with a message all elder ones by the same. -/
structure Good (Y S : List Int) : Prop where
  nd : S.Nodup
  lo : ∀ z ∈ S, ∃ x : Nat, z = (x : Int) ∧ x < Y.length
  pre : ∀ x y : Nat, x < y → y < Y.length → byOf Y x = byOf Y y → (y : Int) ∈ S → (x : Int) ∈ S
theorem cnt_len (Y S : List Int) (p : Int) : cnt Y S p = (S.filter fun z => byOf Y z == p).length := by unfold cnt; rw [List.countP_eq_length_filter]
/-- Counts tell it all. -/
theorem counts {Y A B : List Int} (a : Good Y A) (b : Good Y B) : (∀ p, cnt Y A p ≤ cnt Y B p) ↔ ∀ z ∈ A, z ∈ B := by
  constructor
  · intro h z hz
    refine Classical.byContradiction fun hn => ?_
    have hc := h (byOf Y z)
    rw [cnt_len, cnt_len] at hc
    have := nodup_len (p := z :: B.filter fun x => byOf Y x == byOf Y z) (q := A.filter fun x => byOf Y x == byOf Y z) (List.nodup_cons.2 ⟨fun q => hn (List.mem_filter.1 q).1, b.nd.filter _⟩) fun y hy => by
      rcases List.mem_cons.1 hy with rfl | hy
      · exact List.mem_filter.2 ⟨hz, by simp⟩
      · obtain ⟨h1, h2⟩ := List.mem_filter.1 hy
        refine List.mem_filter.2 ⟨?_, h2⟩
        rw [beq_iff_eq] at h2
        obtain ⟨y', rfl, hy'⟩ := b.lo y h1
        obtain ⟨z', rfl, hz'⟩ := a.lo z hz
        rcases Nat.lt_trichotomy y' z' with e | e | e
        · exact a.pre y' z' e hz' h2 hz
        · subst e; exact hz
        · exact absurd (b.pre z' y' e hy' h2.symm h1) hn
    rw [List.length_cons] at this
    omega
  · intro h p
    rw [cnt_len, cnt_len]
    exact nodup_len (a.nd.filter _) fun y hy => by
      obtain ⟨h1, h2⟩ := List.mem_filter.1 hy
      exact List.mem_filter.2 ⟨h y h1, h2⟩
/-- Who is by nobody here counts for none. -/
theorem cnt_out {Y S : List Int} {n : Nat} (hY : ∀ x ∈ Y, ∃ a : Nat, x = (a : Int) ∧ a < n) (s : Good Y S) {p : Int} (hp : ¬ ∃ a : Nat, p = (a : Int) ∧ a < n) : cnt Y S p = 0 := by
  unfold cnt
  rw [List.countP_eq_zero]
  intro z hz hb
  rw [beq_iff_eq] at hb
  obtain ⟨x, rfl, hx⟩ := s.lo z hz
  refine hp ?_
  rw [← hb]
  unfold byOf
  rw [Int.toNat_natCast]
  exact hY _ (List.mem_of_getElem? (get_ge (-1 : Int) hx))
theorem cnt_app (Y S : List Int) (z p : Int) : cnt Y (S ++ [z]) p = cnt Y S p + (if byOf Y z = p then 1 else 0) := by
  unfold cnt; rw [List.countP_append, List.countP_cons, List.countP_nil]; simp
theorem byOf_app {Y : List Int} {x : Nat} (h : x < Y.length) (a : Int) : byOf (Y ++ [a]) (x : Int) = byOf Y (x : Int) := by
  unfold byOf ge
  rw [Int.toNat_natCast, List.getD_eq_getElem?_getD, List.getD_eq_getElem?_getD, List.getElem?_append_left h]
theorem byOf_new (Y : List Int) (a : Int) : byOf (Y ++ [a]) (Y.length : Int) = a := by
  unfold byOf ge
  rw [Int.toNat_natCast, List.getD_eq_getElem?_getD, List.getElem?_append_right (by omega)]; simp
/-- A new message changes nothing of the elder ones. -/
theorem Good.more {Y S : List Int} (s : Good Y S) (a : Int) : Good (Y ++ [a]) S ∧ ∀ p, cnt (Y ++ [a]) S p = cnt Y S p := by
  refine ⟨⟨s.nd, fun z hz => ?_, fun x y h1 h2 h3 h4 => ?_⟩, fun p => ?_⟩
  · obtain ⟨x, e, h⟩ := s.lo z hz; exact ⟨x, e, by simp; omega⟩
  · obtain ⟨y', e, h⟩ := s.lo _ h4
    have hy : y < Y.length := by omega
    rw [byOf_app (by omega), byOf_app hy] at h3
    exact s.pre x y h1 hy h3 h4
  · unfold cnt
    refine List.countP_congr fun z hz => ?_
    obtain ⟨x, rfl, h⟩ := s.lo z hz
    rw [byOf_app h]
/-- The values of two vectors. -/
theorem under_val {n : Nat} {A B : List Int} (ha : A.length = n) (hb : B.length = n) (h6 : n ≤ 1000) : F132 A B = some (decide (∀ p, p < n → ge 0 A p ≤ ge 0 B p)) := by
  have h : whileM (F132_L0 A B) 0 = some (found () (scan (fun k (_ : Unit) => (fun k => if ge 0 A k > ge 0 B k then some false else none) k) (List.replicate n ()) 0)) := by
    have := while_scanN (body := F132_L0 A B) (fun k => (k : Int)) n (b := ()) (fun k => if ge 0 A k > ge 0 B k then some false else none) (fun k hk => ?_) (by simp [F132_L0, ha])
    · exact this
    · have hd : decide ((k : Int) < (A.length : Int)) = true := by rw [decide_eq_true_eq, ha]; omega
      have ia := idx_ge (0 : Int) (l := A) (j := k) (by omega)
      have ib := idx_ge (0 : Int) (l := B) (j := k) (by omega)
      by_cases c : ge 0 A k > ge 0 B k
      · simp only [F132_L0, hd, cond_true, ia, ib, Option.bind_some, decide_eq_true c, if_pos c, going]
      · simp only [F132_L0, hd, cond_true, cond_false, ia, ib, Option.bind_some, decide_eq_false c, if_neg c, going, w64_succ hk (by omega)]
  unfold F132
  rw [h]
  cases c : scan (fun k (_ : Unit) => (fun k => if ge 0 A k > ge 0 B k then some false else none) k) (List.replicate n ()) 0 with
  | none =>
    have : ∀ p, p < n → ge 0 A p ≤ ge 0 B p := fun p hp => by
      have := scanN_none.1 c p hp
      by_cases q : ge 0 A p > ge 0 B p
      · rw [if_pos q] at this; cases this
      · omega
    simp only [found, Option.bind_some, Ctl.on, decide_eq_true this]
  | some r =>
    obtain ⟨k, hk, e⟩ := scanN_val c
    split at e
    · rename_i q
      have : ¬ ∀ p, p < n → ge 0 A p ≤ ge 0 B p := fun z => by have := z k hk; omega
      obtain rfl := Option.some.inj e
      simp only [found, Option.bind_some, Ctl.on, decide_eq_false this]
    · cases e
theorem contains_val (l : List Int) (hl : l.length ≤ 1000000) (a : Int) : F84 l a = some (decide (a ∈ l)) := by
  have h : whileM (F128_L0 l a) 0 = some (found () (scan (fun k e => if (a == e) = true then some (k : Int) else none) l 0)) := by
    refine while_scan (by omega) _ (fun k e h => ?_) (by simp [F128_L0])
    have hk := lt_of_get h
    have hd : decide ((k : Int) < (l.length : Int)) = true := by rw [decide_eq_true_eq]; omega
    cases c : (a == e) <;> (simp only [F128_L0, idx_some h, hd, c, going, Option.bind_some, cond_true, cond_false]; simp)
  unfold F84 F128
  rw [h]
  cases c : scan (fun k e => if (a == e) = true then some (k : Int) else none) l 0 with
  | none =>
    have : a ∉ l := fun hm => by
      obtain ⟨i, hi⟩ := List.mem_iff_getElem?.1 hm
      have := (scan_none.1 c) i a hi
      simp at this
    simp [found, Ctl.on, this]
  | some r =>
    obtain ⟨i, e, hi, he⟩ := scan_val c
    split at he
    · rename_i q
      rw [beq_iff_eq] at q
      have hm : a ∈ l := by rw [q]; exact List.mem_of_getElem? hi
      obtain rfl := Option.some.inj he
      simp [found, Ctl.on, hm]
    · cases he

theorem first_of {α : Type} (p : α → Bool) : ∀ (A : List α), A.countP p = 0 ∨ ∃ (r : Nat) (x : α), A[r]? = some x ∧ p x = true ∧ ∀ t y, t < r → A[t]? = some y → p y = false
  | [] => .inl rfl
  | z :: A => by
    cases c : p z with
    | true => exact .inr ⟨0, z, rfl, c, fun t y h => by omega⟩
    | false =>
      rcases first_of p A with h | ⟨r, x, h1, h2, h3⟩
      · left; rw [List.countP_cons, h, c]; rfl
      · refine .inr ⟨r + 1, x, by simpa using h1, h2, fun t y h4 h5 => ?_⟩
        cases t with
        | zero => simp at h5; rw [← h5]; exact c
        | succ t => exact h3 t y (by omega) (by simpa using h5)

abbrev gl (l : List (List Int)) (j : Nat) : List Int := ge [] l j
structure Inv (n k : Nat) (Y : List Int) (BH : List (List Int)) (l : List Ms) (T C : List (List Int)) (M : List Cm) (CM : List (List Int)) : Prop where
  ll : l.length = Y.length
  lb : BH.length = Y.length
  lt : T.length = n
  lc : C.length = n
  lm : M.length = n
  lcm : CM.length = n
  few : Y.length ≤ k
  fcm : ∀ i, i < n → (gl CM i).length ≤ k
  hY : ∀ x ∈ Y, ∃ a : Nat, x = (a : Int) ∧ a < n
  msg : ∀ z, z < Y.length → ∃ v, l[z]? = some (ge (-1) Y z, v) ∧ v.length = n ∧ ∀ p : Nat, p < n → ge 0 v p = (cnt Y (gl BH z) p : Int)
  bg : ∀ z, z < Y.length → Good Y (gl BH z)
  bo : ∀ x z : Nat, x < z → z < Y.length → byOf Y x = byOf Y z → (x : Int) ∈ gl BH z
  tg : ∀ i, i < n → Good Y (gl T i)
  own : ∀ x : Nat, x < Y.length → ∀ i : Nat, i < n → byOf Y x = (i : Int) → (x : Int) ∈ gl T i
  ckl : ∀ i, i < n → (gl C i).length = n
  ck : ∀ i, i < n → ∀ p : Nat, p < n → ge 0 (gl C i) p = (cnt Y (gl T i) p : Int)
  cm : ∀ i, i < n → ∀ z : Int, ((ge (mzero : Cm) M i) z).getD false = decide (z ∈ gl CM i)
section
variable {n k : Nat} {Y : List Int} {BH : List (List Int)} {l : List Ms} {T C : List (List Int)} {M : List Cm} {CM : List (List Int)}
theorem Inv.up (I : Inv n k Y BH l T C M CM) : Inv n (k + 1) Y BH l T C M CM := { I with few := by have := I.few; omega, fcm := fun i hi => by have := I.fcm i hi; omega }
theorem Inv.tlen (I : Inv n k Y BH l T C M CM) {i : Nat} (hi : i < n) : (gl T i).length ≤ Y.length := by
  have := nodup_len (p := gl T i) (q := (List.range Y.length).map fun x : Nat => (x : Int)) (I.tg i hi).nd fun z hz => by
    obtain ⟨x, rfl, hx⟩ := (I.tg i hi).lo z hz
    exact List.mem_map.2 ⟨x, by simpa using hx, rfl⟩
  simpa using this
/-- May it be told? -/
def okb (BH T CM : List (List Int)) (j : Nat) (z : Nat) : Bool := (decide ((z : Int) ∈ gl CM j) && !decide ((z : Int) ∈ gl T j)) && (gl BH z).all fun x => decide (x ∈ gl T j)
/-- The clock says the same as the lists. -/
theorem Inv.under (I : Inv n k Y BH l T C M CM) (h6 : n ≤ 6) {j z : Nat} (hj : j < n) (hz : z < Y.length) : ∃ v, l[z]? = some (ge (-1) Y z, v) ∧ F132 v (gl C j) = some ((gl BH z).all fun x => decide (x ∈ gl T j)) := by
  obtain ⟨v, h1, h2, h3⟩ := I.msg z hz
  refine ⟨v, h1, ?_⟩
  rw [under_val h2 (I.ckl j hj) (by omega), Option.some.injEq, Bool.eq_iff_iff, decide_eq_true_eq, List.all_eq_true]
  have key := counts (I.bg z hz) (I.tg j hj)
  constructor
  · intro h x hx
    rw [decide_eq_true_eq]
    refine key.1 (fun p => ?_) x hx
    by_cases hp : ∃ a : Nat, p = (a : Int) ∧ a < n
    · obtain ⟨a, rfl, ha⟩ := hp
      have := h a ha
      rw [h3 a ha, I.ck j hj a ha] at this
      omega
    · rw [cnt_out I.hY (I.bg z hz) hp]; omega
  · intro h p hp
    rw [h3 p hp, I.ck j hj p hp]
    have := key.2 (fun x hx => by have := h x hx; rwa [decide_eq_true_eq] at this) p
    omega
theorem body_no (I : Inv n k Y BH l T C M CM) (h6 : n ≤ 6) (h60 : k ≤ 60) {j z : Nat} (hj : j < n) (hz : z < Y.length) (h : okb BH T CM j z = false) (X1 : List Ms) (X2 X3 : List (List Int)) :
    F98_L0 (X1, X2, X3, M) (j : Int) (l, T, C, (z : Int)) = some (.nxt (l, T, C, ((z + 1 : Nat) : Int))) := by
  have few := I.few
  have tl := I.tlen hj
  have hd : decide ((z : Int) < (l.length : Int)) = true := by rw [decide_eq_true_eq, I.ll]; omega
  have im := idx_ge (mzero : Cm) (l := M) (j := j) (by rw [I.lm]; exact hj)
  have it := idx_ge ([] : List Int) (l := T) (j := j) (by rw [I.lt]; exact hj)
  have ic := idx_ge ([] : List Int) (l := C) (j := j) (by rw [I.lc]; exact hj)
  have cm := I.cm j hj (z : Int)
  have ct := contains_val (gl T j) (by omega) (z : Int)
  obtain ⟨v, hv, hu⟩ := I.under h6 hj hz
  have iv := idx_some hv
  unfold okb at h
  cases z1 : decide ((z : Int) ∈ gl CM j) with
  | false => rw [z1] at cm; simp only [F98_L0, hd, cond_true, cond_false, im, Option.bind_some, cm, w64_succ hz (by omega)]
  | true =>
    rw [z1] at cm
    cases z2 : decide ((z : Int) ∈ gl T j) with
    | true => rw [z2] at ct; simp only [F98_L0, hd, cond_true, cond_false, im, Option.bind_some, cm, it, ct, Bool.not_true, w64_succ hz (by omega)]
    | false =>
      rw [z2] at ct
      rw [z1, z2] at h
      have h' : ((gl BH z).all fun x => decide (x ∈ gl T j)) = false := by simpa using h
      rw [h'] at hu
      simp only [F98_L0, hd, cond_true, cond_false, im, Option.bind_some, cm, it, ct, Bool.not_false, iv, ic, hu, w64_succ hz (by omega)]
/-- It is told. -/
theorem tell_val (I : Inv n k Y BH l T C M CM) (h60 : k ≤ 60) {j z b : Nat} {v : List Int} (hj : j < n) (hz : l[z]? = some ((b : Int), v)) (hb : b < n) :
    F97 (l, T, C) (j : Int) (z : Int) = some (l, T.set j (gl T j ++ [(z : Int)]), C.set j ((gl C j).set b (ge 0 (gl C j) b + 1))) := by
  have few := I.few
  have tl := I.tlen hj
  have it := idx_ge ([] : List Int) (l := T) (j := j) (by rw [I.lt]; exact hj)
  have ic := idx_ge ([] : List Int) (l := C) (j := j) (by rw [I.lc]; exact hj)
  have ib := idx_ge (0 : Int) (l := gl C j) (j := b) (by rw [I.ckl j hj]; exact hb)
  have ap := app1 8 (by decide) (gl T j) (z : Int) (by omega)
  have c := I.ck j hj b hb
  have cl : cnt Y (gl T j) b ≤ (gl T j).length := List.countP_le_length
  have w : w64 (ge 0 (gl C j) b + 1) = ge 0 (gl C j) b + 1 := w64i (by omega) (by omega)
  simp only [F97, it, ic, ap, Option.bind_some, idx_some hz, ib, w, Int.toNat_natCast]
theorem Inv.tell (I : Inv n k Y BH l T C M CM) {j z b : Nat} (hj : j < n) (hz : z < Y.length) (hy : byOf Y z = (b : Int)) (hb : b < n) (hn : (z : Int) ∉ gl T j) (hs : ∀ x : Nat, x < z → byOf Y x = byOf Y z → (x : Int) ∈ gl T j) :
    Inv n k Y BH l (T.set j (gl T j ++ [(z : Int)])) (C.set j ((gl C j).set b (ge 0 (gl C j) b + 1))) M CM := by
  have hjt : j < T.length := by rw [I.lt]; exact hj
  have hjc : j < C.length := by rw [I.lc]; exact hj
  have gT : ∀ a, gl (T.set j (gl T j ++ [(z : Int)])) a = if a = j then gl T j ++ [(z : Int)] else gl T a := fun a => ge_set hjt
  have gC : ∀ a, gl (C.set j ((gl C j).set b (ge 0 (gl C j) b + 1))) a = if a = j then (gl C j).set b (ge 0 (gl C j) b + 1) else gl C a := fun a => ge_set hjc
  refine { I with lt := by rw [List.length_set]; exact I.lt, lc := by rw [List.length_set]; exact I.lc, tg := fun i hi => ?_, own := fun x hx i hi h => ?_, ckl := fun i hi => ?_, ck := fun i hi p hp => ?_ }
  · rw [gT]
    by_cases e : i = j
    · subst e
      rw [if_pos rfl]
      have g := I.tg i hi
      refine ⟨?_, fun y hy => ?_, fun x y h1 h2 h3 h4 => ?_⟩
      · rw [List.nodup_append]
        exact ⟨g.nd, by simp, fun a ha c hc => by
          rw [List.mem_singleton] at hc
          subst hc
          rintro rfl
          exact hn ha⟩
      · rcases List.mem_append.1 hy with hy | hy
        · exact g.lo y hy
        · rw [List.mem_singleton] at hy; exact ⟨z, hy, hz⟩
      · rcases List.mem_append.1 h4 with h4 | h4
        · exact List.mem_append_left _ (g.pre x y h1 h2 h3 h4)
        · rw [List.mem_singleton] at h4
          have : y = z := by omega
          subst this
          exact List.mem_append_left _ (hs x h1 h3)
    · rw [if_neg e]; exact I.tg i hi
  · rw [gT]
    by_cases e : i = j
    · subst e; rw [if_pos rfl]; exact List.mem_append_left _ (I.own x hx i hi h)
    · rw [if_neg e]; exact I.own x hx i hi h
  · rw [gC]
    by_cases e : i = j
    · subst e; rw [if_pos rfl, List.length_set]; exact I.ckl i hi
    · rw [if_neg e]; exact I.ckl i hi
  · rw [gC, gT]
    by_cases e : i = j
    · subst e
      rw [if_pos rfl, if_pos rfl, cnt_app, hy, ge_set (by rw [I.ckl i hi]; exact hb)]
      by_cases e2 : p = b
      · subst e2; rw [if_pos rfl, if_pos rfl, I.ck i hi p hp]; push_cast; rfl
      · rw [if_neg e2, if_neg (by omega), I.ck i hi p hp]; rfl
    · rw [if_neg e, if_neg e]; exact I.ck i hi p hp
end

/-! The other one's search: downward, the last one found is the least. -/
def best (ok : Nat → Bool) (N : Nat) : Nat → Int
  | 0 => -1
  | t + 1 => cond (ok (N - 1 - t)) ((N - 1 - t : Nat) : Int) (best ok N t)
theorem best_none {ok : Nat → Bool} {N : Nat} (h : ∀ z, z < N → ok z = false) : ∀ t, t ≤ N → best ok N t = -1
  | 0, _ => rfl
  | t + 1, ht => by unfold best; rw [h _ (by omega), cond_false]; exact best_none h t (by omega)
theorem best_first {ok : Nat → Bool} {N k0 : Nat} (hk : k0 < N) (h0 : ok k0 = true) (h : ∀ z, z < k0 → ok z = false) : ∀ t, N - k0 ≤ t → t ≤ N → best ok N t = (k0 : Int)
  | 0, h1, _ => by omega
  | t + 1, h1, h2 => by
    unfold best
    by_cases e : N - 1 - t = k0
    · rw [e, h0, cond_true]
    · rw [h _ (by omega), cond_false]; exact best_first hk h0 h t (by omega) (by omega)
section
variable {n k : Nat} {Y : List Int} {BH : List (List Int)} {l : List Ms} {T C : List (List Int)} {M : List Cm} {CM : List (List Int)} {j : Nat} {a b c : Int}
theorem all_val (I : Inv n k Y BH l T C M CM) (h60 : k ≤ 60) (hj : j < n) (B : List Int) (hB : B.length ≤ 1000) (b0 : Bool) : whileM (F32_L3 (a, b, (j : Int), c) T B) (b0, 0) = some (.brk (b0 && B.all fun x => decide (x ∈ gl T j))) := by
  have few := I.few
  have tl := I.tlen hj
  have it := idx_ge ([] : List Int) (l := T) (j := j) (by rw [I.lt]; exact hj)
  have := while_upto (body := F32_L3 (a, b, (j : Int), c) T B) (fun t => (b0 && (B.take t).all fun x => decide (x ∈ gl T j), (t : Int))) B.length (c := .brk (b0 && B.all fun x => decide (x ∈ gl T j))) (fun t ht => ?_) (by simp [F32_L3]) (by simp)
  · simpa using this
  · have hd : decide ((t : Int) < (B.length : Int)) = true := by rw [decide_eq_true_eq]; omega
    have hg : B[t]? = some B[t] := List.getElem?_eq_getElem ht
    have hv := has_val (gl T j) (by omega) B[t]
    rw [take_succ' ht, List.all_append]
    cases z : (b0 && (B.take t).all fun x => decide (x ∈ gl T j)) with
    | true =>
      simp only [F32_L3, hd, cond_true, idx_some hg, Option.bind_some, it, hv, w64_succ ht (by omega)]
      rw [← Bool.and_assoc, z]; simp
    | false =>
      simp only [F32_L3, hd, cond_true, cond_false, idx_some hg, Option.bind_some, w64_succ ht (by omega)]
      rw [← Bool.and_assoc, z]; simp
theorem search_val (I : Inv n k Y BH l T C M CM) (h60 : k ≤ 60) (hj : j < n) : whileM (F32_L2 BH (a, b, (j : Int), c) CM T) (-1, w64 ((Y.length : Int) - 1)) = some (.brk (best (okb BH T CM j) Y.length Y.length)) := by
  have few := I.few
  have tl := I.tlen hj
  have fcm := I.fcm j hj
  have it := idx_ge ([] : List Int) (l := T) (j := j) (by rw [I.lt]; exact hj)
  have im := idx_ge ([] : List Int) (l := CM) (j := j) (by rw [I.lcm]; exact hj)
  have w0 : w64 ((Y.length : Int) - 1) = (Y.length : Int) - 1 := w64i (by omega) (by omega)
  have := while_upto (body := F32_L2 BH (a, b, (j : Int), c) CM T) (fun t => (best (okb BH T CM j) Y.length t, (Y.length : Int) - 1 - (t : Int))) Y.length (c := .brk (best (okb BH T CM j) Y.length Y.length)) (fun t ht => ?_) (by
    have : decide ((Y.length : Int) - 1 - (Y.length : Int) ≥ 0) = false := by rw [decide_eq_false_iff_not]; omega
    simp only [F32_L2, this, cond_false]) (by simp)
  · rw [w0]; simpa [best] using this
  · have hd : decide ((Y.length : Int) - 1 - (t : Int) ≥ 0) = true := by rw [decide_eq_true_eq]; omega
    obtain ⟨z, hz⟩ : ∃ z : Nat, (Y.length : Int) - 1 - (t : Int) = (z : Int) := ⟨Y.length - 1 - t, by omega⟩
    have hz' : Y.length - 1 - t = z := by omega
    have hzl : z < Y.length := by omega
    have w1 : w64 ((z : Int) - 1) = (Y.length : Int) - 1 - ((t + 1 : Nat) : Int) := by rw [w64i (by omega) (by omega)]; omega
    have ib := idx_ge ([] : List Int) (l := BH) (j := z) (by rw [I.lb]; exact hzl)
    have h1 := has_val (gl CM j) (by omega) (z : Int)
    have h2 := has_val (gl T j) (by omega) (z : Int)
    have bl : (gl BH z).length ≤ 1000 := by
      have := nodup_len (p := gl BH z) (q := (List.range Y.length).map fun x : Nat => (x : Int)) (I.bg z hzl).nd fun y hy => by
        obtain ⟨x, rfl, hx⟩ := (I.bg z hzl).lo y hy
        exact List.mem_map.2 ⟨x, by simpa using hx, rfl⟩
      simp at this; omega
    have al := fun b0 => all_val (a := a) (b := b) (c := c) I h60 hj (gl BH z) bl b0
    rw [hz]
    rw [hz] at hd
    have hb : best (okb BH T CM j) Y.length (t + 1) = cond (okb BH T CM j z) (z : Int) (best (okb BH T CM j) Y.length t) := by
      show cond (okb BH T CM j (Y.length - 1 - t)) ((Y.length - 1 - t : Nat) : Int) _ = _
      rw [hz']
    rw [hb]
    unfold okb
    cases z1 : decide ((z : Int) ∈ gl CM j) with
    | false =>
      rw [z1] at h1
      simp only [F32_L2, hd, cond_true, cond_false, im, it, h1, h2, ib, Option.bind_some, al, Ctl.on, Bool.false_and, w1]
    | true =>
      rw [z1] at h1
      cases z3 : (!decide ((z : Int) ∈ gl T j) && (gl BH z).all fun x => decide (x ∈ gl T j)) with
      | true => simp only [F32_L2, hd, cond_true, cond_false, im, it, h1, h2, ib, Option.bind_some, al, Ctl.on, Bool.true_and, z3, w1]
      | false => simp only [F32_L2, hd, cond_true, cond_false, im, it, h1, h2, ib, Option.bind_some, al, Ctl.on, Bool.true_and, z3, w1]
theorem scan_to (I : Inv n k Y BH l T C M CM) (h6 : n ≤ 6) (h60 : k ≤ 60) (hj : j < n) (X1 : List Ms) (X2 X3 : List (List Int)) : ∀ k0, k0 ≤ Y.length → (∀ z, z < k0 → okb BH T CM j z = false) →
    whileM (F98_L0 (X1, X2, X3, M) (j : Int)) (l, T, C, 0) = whileM (F98_L0 (X1, X2, X3, M) (j : Int)) (l, T, C, (k0 : Int))
  | 0, _, _ => rfl
  | k0 + 1, h1, h2 => by
    rw [scan_to I h6 h60 hj X1 X2 X3 k0 (by omega) fun z hz => h2 z (by omega)]
    rw [whileM_nxt (body_no I h6 h60 hj (by omega) (h2 k0 (by omega)) X1 X2 X3)]
/-- Both settle alike. -/
theorem settle (h6 : n ≤ 6) (h60 : k ≤ 60) (hj : j < n) (X1 : List Ms) (X2 X3 : List (List Int)) : ∀ (d : Nat) {T C : List (List Int)}, Inv n k Y BH l T C M CM → Y.length - (gl T j).length ≤ d →
    ∃ T' C', whileM (F98_L0 (X1, X2, X3, M) (j : Int)) (l, T, C, 0) = some (.brk (l, T', C')) ∧ whileM (F32_L1 Y BH (a, b, (j : Int), c) CM) T = some (.brk T') ∧ Inv n k Y BH l T' C' M CM := by
  intro d
  induction d with
  | zero =>
    intro T C I hd
    have few := I.few
    -- all of them are told
    have tl := I.tlen hj
    have none : ∀ z, z < Y.length → okb BH T CM j z = false := fun z hz => by
      have : (z : Int) ∈ gl T j := by
        refine Classical.byContradiction fun hn => ?_
        have := nodup_len (p := (z : Int) :: gl T j) (q := (List.range Y.length).map fun x : Nat => (x : Int)) (List.nodup_cons.2 ⟨hn, (I.tg j hj).nd⟩) fun y hy => by
          rcases List.mem_cons.1 hy with rfl | hy
          · exact List.mem_map.2 ⟨z, by simpa using hz, rfl⟩
          · obtain ⟨x, rfl, hx⟩ := (I.tg j hj).lo y hy
            exact List.mem_map.2 ⟨x, by simpa using hx, rfl⟩
        simp at this; omega
      unfold okb; simp [this]
    refine ⟨T, C, ?_, ?_, I⟩
    · rw [scan_to I h6 h60 hj X1 X2 X3 Y.length (Nat.le_refl _) none]
      exact whileM_brk (by simp [F98_L0, I.ll])
    · refine whileM_brk ?_
      have sv := search_val (a := a) (b := b) (c := c) I h60 hj
      rw [best_none none Y.length (Nat.le_refl _)] at sv
      have e : decide ((-1 : Int) < 0) = true := rfl
      simp only [F32_L1, sv, Option.bind_some, Ctl.on, e, cond_true]
  | succ d ih =>
    intro T C I hd
    have few := I.few
    have tl := I.tlen hj
    have sv := search_val (a := a) (b := b) (c := c) I h60 hj
    rcases first_of (okb BH T CM j) (List.range Y.length) with h0 | ⟨r, x, g1, g2, g3⟩
    · have none : ∀ z, z < Y.length → okb BH T CM j z = false := fun z hz => by
        rw [List.countP_eq_zero] at h0
        simpa using h0 z (by simpa using hz)
      refine ⟨T, C, ?_, ?_, I⟩
      · rw [scan_to I h6 h60 hj X1 X2 X3 Y.length (Nat.le_refl _) none]
        exact whileM_brk (by simp [F98_L0, I.ll])
      · refine whileM_brk ?_
        rw [best_none none Y.length (Nat.le_refl _)] at sv
        have e : decide ((-1 : Int) < 0) = true := rfl
        simp only [F32_L1, sv, Option.bind_some, Ctl.on, e, cond_true]
    · have hr := lt_of_get g1
      rw [List.length_range] at hr
      rw [List.getElem?_range hr] at g1
      obtain rfl := Option.some.inj g1
      have before : ∀ z, z < r → okb BH T CM j z = false := fun z hz => g3 z z hz (List.getElem?_range (by omega))
      rw [best_first hr g2 before Y.length (by omega) (Nat.le_refl _)] at sv
      have g2' := g2
      unfold okb at g2'
      simp only [Bool.and_eq_true, Bool.not_eq_true', decide_eq_true_eq, decide_eq_false_iff_not, List.all_eq_true] at g2'
      obtain ⟨⟨q1, q2⟩, q3⟩ := g2'
      obtain ⟨w, hw, hwn⟩ := I.hY _ (List.mem_of_getElem? (get_ge (-1 : Int) hr))
      have hby : byOf Y (r : Int) = (w : Int) := by unfold byOf; rw [Int.toNat_natCast]; exact hw
      obtain ⟨v, hv, hu⟩ := I.under h6 hj hr
      have hu' : F132 v (gl C j) = some true := by rw [hu, Option.some.injEq, List.all_eq_true]; exact fun x hx => by rw [decide_eq_true_eq]; exact q3 x hx
      rw [hw] at hv
      have tv := tell_val I h60 hj hv hwn
      have I1 := I.tell hj hr hby hwn q2 fun x h1 h2 => q3 _ (I.bo x r h1 hr h2)
      have gT : gl (T.set j (gl T j ++ [(r : Int)])) j = gl T j ++ [(r : Int)] := by
        have := ge_set (d := ([] : List Int)) (l := T) (i := j) (b := j) (v := gl T j ++ [(r : Int)]) (by rw [I.lt]; exact hj)
        rw [if_pos rfl] at this; exact this
      obtain ⟨T', C', r1, r2, r3⟩ := ih I1 (by rw [gT]; simp; omega)
      have hdl : decide ((r : Int) < (l.length : Int)) = true := by rw [decide_eq_true_eq, I.ll]; omega
      have im := idx_ge (mzero : Cm) (l := M) (j := j) (by rw [I.lm]; exact hj)
      have it := idx_ge ([] : List Int) (l := T) (j := j) (by rw [I.lt]; exact hj)
      have ic := idx_ge ([] : List Int) (l := C) (j := j) (by rw [I.lc]; exact hj)
      have cm := I.cm j hj (r : Int)
      rw [decide_eq_true q1] at cm
      have ct := contains_val (gl T j) (by omega) (r : Int)
      rw [decide_eq_false q2] at ct
      have ap := app1 8 (by decide) (gl T j) (r : Int) (by omega)
      refine ⟨T', C', ?_, ?_, r3⟩
      · rw [scan_to I h6 h60 hj X1 X2 X3 r (by omega) before]
        have wz : w64 ((-1 : Int) + 1) = 0 := by decide
        rw [whileM_nxt (s' := (l, T.set j (gl T j ++ [(r : Int)]), C.set j ((gl C j).set w (ge 0 (gl C j) w + 1)), 0)) (by
          simp only [F98_L0, hdl, cond_true, im, Option.bind_some, cm, it, ct, Bool.not_false, idx_some hv, ic, hu', tv, wz])]
        exact r1
      · have e : decide ((r : Int) < 0) = false := by simp
        rw [whileM_nxt (s' := T.set j (gl T j ++ [(r : Int)])) (by simp only [F32_L1, sv, Option.bind_some, Ctl.on, e, cond_false, it, ap, Int.toNat_natCast])]
        exact r2
end

theorem ge_app {α : Type} {d : α} {L : List α} {z : Nat} (h : z < L.length) (x : α) : ge d (L ++ [x]) z = ge d L z := by
  unfold ge; rw [List.getD_eq_getElem?_getD, List.getD_eq_getElem?_getD, List.getElem?_append_left h]
theorem ge_last {α : Type} {d : α} {L : List α} {z : Nat} (h : z = L.length) (x : α) : ge d (L ++ [x]) z = x := by
  subst h; unfold ge; rw [List.getD_eq_getElem?_getD, List.getElem?_append_right (by omega)]; simp
/-! One move. -/
def Both (n k : Nat) (L : List Mv) (Y : List Int) (BH : List (List Int)) (l : List Ms) (T C : List (List Int)) (M : List Cm) (CM : List (List Int)) (x : Mv) : Prop :=
  ∃ (e : Int) (Y' : List Int) (BH' : List (List Int)) (l' : List Ms) (T' C' : List (List Int)) (M' : List Cm) (CM' : List (List Int)),
    F65 ((n : Int), l, T, C, M) x = some (e, ((n : Int), l', T', C', M')) ∧
    (∀ cs : List Int, cs.length ≤ 60 → F32_L0 (n : Int) L (Y, BH, cs, CM, T, (k : Int)) = some (.nxt (Y', BH', cs ++ [e], CM', T', ((k + 1 : Nat) : Int)))) ∧
    Inv n (k + 1) Y' BH' l' T' C' M' CM'
section
variable {n k : Nat} {L : List Mv} {Y : List Int} {BH : List (List Int)} {l : List Ms} {T C : List (List Int)} {M : List Cm} {CM : List (List Int)}
theorem Inv.post (I : Inv n k Y BH l T C M CM) {i : Nat} (hi : i < n) : Inv n (k + 1) (Y ++ [(i : Int)]) (BH ++ [gl T i]) (l ++ [((i : Int), gl C i)]) (T.set i (gl T i ++ [(Y.length : Int)])) (C.set i ((gl C i).set i (ge 0 (gl C i) i + 1))) M CM := by
  have few := I.few
  have hit : i < T.length := by rw [I.lt]; exact hi
  have hic : i < C.length := by rw [I.lc]; exact hi
  have gT : ∀ a, gl (T.set i (gl T i ++ [(Y.length : Int)])) a = if a = i then gl T i ++ [(Y.length : Int)] else gl T a := fun a => ge_set hit
  have gC : ∀ a, gl (C.set i ((gl C i).set i (ge 0 (gl C i) i + 1))) a = if a = i then (gl C i).set i (ge 0 (gl C i) i + 1) else gl C a := fun a => ge_set hic
  have yl : (Y ++ [(i : Int)]).length = Y.length + 1 := by simp
  have bh : ∀ z, z < Y.length → gl (BH ++ [gl T i]) z = gl BH z := fun z hz => ge_app (by rw [I.lb]; exact hz) _
  have bhl : gl (BH ++ [gl T i]) Y.length = gl T i := ge_last I.lb.symm _
  refine { ll := by simp [I.ll], lb := by simp [I.lb], lt := by rw [List.length_set]; exact I.lt, lc := by rw [List.length_set]; exact I.lc, lm := I.lm, lcm := I.lcm, few := by omega, fcm := fun a h => by have := I.fcm a h; omega, hY := fun x hx => ?_, msg := fun z hz => ?_, bg := fun z hz => ?_, bo := fun x z h1 h2 h3 => ?_, tg := fun a h => ?_, own := fun x hx a h e => ?_, ckl := fun a h => ?_, ck := fun a h p hp => ?_, cm := I.cm }
  · rcases List.mem_append.1 hx with hx | hx
    · exact I.hY x hx
    · rw [List.mem_singleton] at hx; exact ⟨i, hx, hi⟩
  · by_cases e : z < Y.length
    · obtain ⟨v, h1, h2, h3⟩ := I.msg z e
      refine ⟨v, ?_, h2, fun p hp => ?_⟩
      · rw [ge_app e, List.getElem?_append_left (by rw [I.ll]; exact e)]; exact h1
      · rw [bh z e, ((I.bg z e).more _).2]; exact h3 p hp
    · have e2 : z = Y.length := by omega
      subst e2
      refine ⟨gl C i, ?_, I.ckl i hi, fun p hp => ?_⟩
      · rw [ge_last rfl, List.getElem?_append_right (by rw [I.ll]; omega), I.ll]; simp
      · rw [bhl, ((I.tg i hi).more _).2]; exact I.ck i hi p hp
  · by_cases e : z < Y.length
    · rw [bh z e]; exact ((I.bg z e).more _).1
    · have e2 : z = Y.length := by omega
      subst e2
      rw [bhl]; exact ((I.tg i hi).more _).1
  · by_cases e : z < Y.length
    · rw [bh z e]
      rw [byOf_app (by omega), byOf_app e] at h3
      exact I.bo x z h1 e h3
    · have e2 : z = Y.length := by omega
      subst e2
      rw [byOf_app h1, byOf_new] at h3
      rw [bhl]
      exact I.own x h1 i hi h3
  · rw [gT]
    by_cases e : a = i
    · subst e
      rw [if_pos rfl]
      have g := I.tg a h
      have g' := (g.more (a : Int)).1
      refine ⟨?_, fun y hy => ?_, fun x y h1 h2 h3 h4 => ?_⟩
      · rw [List.nodup_append]
        refine ⟨g.nd, by simp, fun u hu c hc => ?_⟩
        rw [List.mem_singleton] at hc
        subst hc
        rintro rfl
        obtain ⟨x, ex, hx⟩ := g.lo _ hu
        omega
      · rcases List.mem_append.1 hy with hy | hy
        · exact g'.lo y hy
        · rw [List.mem_singleton] at hy; exact ⟨Y.length, hy, by omega⟩
      · rcases List.mem_append.1 h4 with h4 | h4
        · exact List.mem_append_left _ (g'.pre x y h1 h2 h3 h4)
        · rw [List.mem_singleton] at h4
          have e2 : y = Y.length := by omega
          subst e2
          rw [byOf_app h1, byOf_new] at h3
          exact List.mem_append_left _ (I.own x h1 a h h3)
    · rw [if_neg e]; exact ((I.tg a h).more _).1
  · rw [gT]
    by_cases e1 : x < Y.length
    · rw [byOf_app e1] at e
      have := I.own x e1 a h e
      by_cases e2 : a = i
      · subst e2; rw [if_pos rfl]; exact List.mem_append_left _ this
      · rw [if_neg e2]; exact this
    · have e2 : x = Y.length := by omega
      subst e2
      rw [byOf_new] at e
      have e3 : a = i := by omega
      subst e3
      rw [if_pos rfl]; simp
  · rw [gC]
    by_cases e : a = i
    · subst e; rw [if_pos rfl, List.length_set]; exact I.ckl a h
    · rw [if_neg e]; exact I.ckl a h
  · rw [gC, gT]
    by_cases e : a = i
    · subst e
      rw [if_pos rfl, if_pos rfl, cnt_app, byOf_new, ((I.tg a h).more _).2, ge_set (by rw [I.ckl a h]; exact h)]
      by_cases e2 : p = a
      · subst e2; rw [if_pos rfl, if_pos rfl, I.ck p h p hp]; push_cast; rfl
      · rw [if_neg e2, if_neg (by omega), I.ck a h p hp]; rfl
    · rw [if_neg e, if_neg e, ((I.tg a h).more _).2]; exact I.ck a h p hp
theorem move {x : Mv} (I : Inv n k Y BH l T C M CM) (h6 : n ≤ 6) (hk : L[k]? = some x) (hl : L.length ≤ 60) : Both n k L Y BH l T C M CM x := by
  obtain ⟨q, f, t, v⟩ := x
  have few := I.few
  have f1 := lt_of_get hk
  have kd : decide ((k : Int) < (L.length : Int)) = true := by rw [decide_eq_true_eq]; omega
  have ikk := idx_some hk
  have ap : ∀ (e : Int) (cs : List Int), cs.length ≤ 60 → appl 8 cs [e] = some (cs ++ [e]) := fun e cs h => app1 8 (by decide) cs e (by omega)
  have wk := w64_succ f1 (show L.length ≤ 9223372036854775807 by omega)
  have easy : ∀ e : Int, F65 ((n : Int), l, T, C, M) (q, f, t, v) = some (e, ((n : Int), l, T, C, M)) → (∀ cs : List Int, cs.length ≤ 60 → F32_L0 (n : Int) L (Y, BH, cs, CM, T, (k : Int)) = some (.nxt (Y, BH, cs ++ [e], CM, T, ((k + 1 : Nat) : Int)))) → Both n k L Y BH l T C M CM (q, f, t, v) :=
    fun e h1 h2 => ⟨e, Y, BH, l, T, C, M, CM, h1, h2, I.up⟩
  cases q1 : (q == 1) with
  | true =>
    cases bad : ((decide (f < 0)) || (decide (f ≥ (n : Int)))) with
    | true =>
      refine easy 2 ?_ fun cs hcs => ?_
      · simp only [F65, q1, cond_true, F96, bad, Option.bind_some]
      · simp only [F32_L0, kd, cond_true, ikk, Option.bind_some, q1, bad, ap 2 cs hcs, wk]
    | false =>
      have bad' := bad
      simp only [Bool.or_eq_false_iff, decide_eq_false_iff_not] at bad'
      obtain ⟨i, rfl⟩ := nat_of (a := f) (by omega)
      have hi : i < n := by omega
      have it := idx_ge ([] : List Int) (l := T) (j := i) (by rw [I.lt]; exact hi)
      have ic := idx_ge ([] : List Int) (l := C) (j := i) (by rw [I.lc]; exact hi)
      have tl := I.tlen hi
      have cl := I.ckl i hi
      have a0 : appl 8 ([] : List Int) (gl C i) = some (gl C i) := by
        have := appM 8 (by decide) [] (gl C i) (by simp; omega)
        simpa using this
      have a0' : appl 8 ([] : List Int) (gl T i) = some (gl T i) := by
        have := appM 8 (by decide) [] (gl T i) (by simp; omega)
        simpa using this
      have a1 : appl 32 l [((i : Int), gl C i)] = some (l ++ [((i : Int), gl C i)]) := app1 32 (by decide) l _ (by rw [I.ll]; omega)
      have a2 : appl 24 BH [gl T i] = some (BH ++ [gl T i]) := app1 24 (by decide) BH _ (by rw [I.lb]; omega)
      have a3 := app1 8 (by decide) (gl T i) (Y.length : Int) (by omega)
      have a4 := app1 8 (by decide) Y (i : Int) (by omega)
      have wl : w64 (((l ++ [((i : Int), gl C i)]).length : Int) - 1) = (Y.length : Int) := by
        have e : (l ++ [((i : Int), gl C i)]).length = Y.length + 1 := by rw [List.length_append, I.ll]; rfl
        rw [e, w64i (by omega) (by omega)]; omega
      have il : idx (l ++ [((i : Int), gl C i)]) (Y.length : Int) = some ((i : Int), gl C i) := idx_some (by rw [List.getElem?_append_right (by rw [I.ll]; omega), I.ll]; simp)
      have ib := idx_ge (0 : Int) (l := gl C i) (j := i) (by rw [cl]; exact hi)
      have cv := I.ck i hi i hi
      have cvl : cnt Y (gl T i) i ≤ (gl T i).length := List.countP_le_length
      have wc : w64 (ge 0 (gl C i) i + 1) = ge 0 (gl C i) i + 1 := w64i (by omega) (by omega)
      refine ⟨0, _, _, _, _, _, _, _, ?_, fun cs hcs => ?_, I.post hi⟩
      · simp only [F65, q1, cond_true, cond_false, F96, bad, Option.bind_some, ic, F82, a0, a1, wl, F97, it, a3, il, ib, wc, Int.toNat_natCast]
      · simp only [F32_L0, kd, cond_true, cond_false, ikk, Option.bind_some, q1, bad, it, a0', a2, a3, a4, ap 0 cs hcs, wk, Int.toNat_natCast]
  | false =>
    cases q2 : (q == 2) with
    | false =>
      have q2' : (q != 2) = true := by rw [bne, q2]; rfl
      refine easy 6 ?_ fun cs hcs => ?_
      · simp only [F65, q1, q2, cond_false]
      · simp only [F32_L0, kd, cond_true, cond_false, ikk, Option.bind_some, q1, q2', ap 6 cs hcs, wk]
    | true =>
      have q2' : (q != 2) = false := by rw [bne, q2]; rfl
      cases bad : ((decide (t < 0)) || (decide (t ≥ (n : Int)))) with
      | true =>
        refine easy 2 ?_ fun cs hcs => ?_
        · simp only [F65, q1, q2, cond_true, cond_false, F96, bad, Option.bind_some]
        · simp only [F32_L0, kd, cond_true, cond_false, ikk, Option.bind_some, q1, q2', bad, ap 2 cs hcs, wk]
      | false =>
        have bad' := bad
        simp only [Bool.or_eq_false_iff, decide_eq_false_iff_not] at bad'
        obtain ⟨j, rfl⟩ := nat_of (a := t) (by omega)
        have hj : j < n := by omega
        have ll : (l.length : Int) = (Y.length : Int) := by rw [I.ll]
        cases bv : ((decide (v < 0)) || (decide (v ≥ (Y.length : Int)))) with
        | true =>
          refine easy 4 ?_ fun cs hcs => ?_
          · simp only [F65, q1, q2, cond_true, cond_false, F96, bad, Option.bind_some, ll, bv]
          · simp only [F32_L0, kd, cond_true, cond_false, ikk, Option.bind_some, q1, q2', bad, bv, ap 4 cs hcs, wk]
        | false =>
          have bv' := bv
          simp only [Bool.or_eq_false_iff, decide_eq_false_iff_not] at bv'
          obtain ⟨z, rfl⟩ := nat_of (a := v) (by omega)
          have hz : z < Y.length := by omega
          obtain ⟨vv, m1, m2, m3⟩ := I.msg z hz
          have il := idx_some m1
          have iy := idx_ge (-1 : Int) hz
          have im := idx_ge (mzero : Cm) (l := M) (j := j) (by rw [I.lm]; exact hj)
          have icm := idx_ge ([] : List Int) (l := CM) (j := j) (by rw [I.lcm]; exact hj)
          have fc := I.fcm j hj
          have cm := I.cm j hj (z : Int)
          have hv := has_val (gl CM j) (by omega) (z : Int)
          cases zb : (ge (-1) Y z == (j : Int)) with
          | true =>
            refine easy 7 ?_ fun cs hcs => ?_
            · simp only [F65, q1, q2, cond_true, cond_false, F96, bad, Option.bind_some, ll, bv, il, zb]
            · simp only [F32_L0, kd, cond_true, cond_false, ikk, Option.bind_some, q1, q2', bad, bv, iy, zb, ap 7 cs hcs, wk]
          | false =>
            cases zc : decide ((z : Int) ∈ gl CM j) with
            | true =>
              rw [zc] at cm hv
              refine easy 7 ?_ fun cs hcs => ?_
              · simp only [F65, q1, q2, cond_true, cond_false, F96, bad, Option.bind_some, ll, bv, il, zb, im, cm]
              · simp only [F32_L0, kd, cond_true, cond_false, ikk, Option.bind_some, q1, q2', bad, bv, iy, zb, icm, hv, ap 7 cs hcs, wk]
            | false =>
              rw [zc] at cm hv
              have a5 := app1 8 (by decide) (gl CM j) (z : Int) (by omega)
              have I1 : Inv n (k + 1) Y BH l T C (M.set j (mupd (ge (mzero : Cm) M j) (z : Int) true)) (CM.set j (gl CM j ++ [(z : Int)])) := by
                refine { I.up with lm := by rw [List.length_set]; exact I.lm, lcm := by rw [List.length_set]; exact I.lcm, fcm := fun a h => ?_, cm := fun a h y => ?_ }
                · have : gl (CM.set j (gl CM j ++ [(z : Int)])) a = if a = j then gl CM j ++ [(z : Int)] else gl CM a := ge_set (by rw [I.lcm]; exact hj)
                  rw [this]
                  have := I.fcm a h
                  split
                  · simp; omega
                  · omega
                · have e1 : gl (CM.set j (gl CM j ++ [(z : Int)])) a = if a = j then gl CM j ++ [(z : Int)] else gl CM a := ge_set (by rw [I.lcm]; exact hj)
                  have e2 : ge (mzero : Cm) (M.set j (mupd (ge (mzero : Cm) M j) (z : Int) true)) a = if a = j then mupd (ge (mzero : Cm) M j) (z : Int) true else ge (mzero : Cm) M a := ge_set (by rw [I.lm]; exact hj)
                  rw [e1, e2]
                  by_cases e : a = j
                  · subst e
                    rw [if_pos rfl, if_pos rfl]
                    unfold mupd
                    by_cases e3 : y = (z : Int)
                    · rw [if_pos e3, e3]; simp
                    · rw [if_neg e3, I.cm a h y, Bool.eq_iff_iff]; simp [e3]
                  · rw [if_neg e, if_neg e]; exact I.cm a h y
              obtain ⟨T', C', r1, r2, r3⟩ := settle (a := q) (b := f) (c := (z : Int)) h6 (show k + 1 ≤ 60 by omega) hj l T C (Y.length - (gl T j).length) I1 (Nat.le_refl _)
              refine ⟨0, Y, BH, l, T', C', _, _, ?_, fun cs hcs => ?_, r3⟩
              · simp only [F65, q1, q2, cond_true, cond_false, F96, bad, Option.bind_some, ll, bv, il, zb, im, cm, Int.toNat_natCast, F98, r1, Ctl.on]
              · simp only [F32_L0, kd, cond_true, cond_false, ikk, Option.bind_some, q1, q2', bad, bv, iy, zb, icm, hv, a5, Int.toNat_natCast, r2, Ctl.on, ap 0 cs hcs, wk]
end
theorem run_both {n : Nat} {L : List Mv} (h6 : n ≤ 6) (hl : L.length ≤ 60) : ∀ (r k : Nat), k + r = L.length → ∀ {cs Y : List Int} {BH : List (List Int)} {l : List Ms} {T C : List (List Int)} {M : List Cm} {CM : List (List Int)},
    cs.length = k → Inv n k Y BH l T C M CM →
    ∃ (cs' Y' : List Int) (BH' : List (List Int)) (l' : List Ms) (T' C' : List (List Int)) (M' : List Cm) (CM' : List (List Int)),
      whileM (F31_L1 L) (cs, l, C, M, T, (n : Int), (k : Int)) = some (.brk (cs', l', C', M', T', (n : Int))) ∧
      whileM (F32_L0 (n : Int) L) (Y, BH, cs, CM, T, (k : Int)) = some (.brk (cs', CM', T')) ∧
      cs'.length = L.length ∧ Inv n L.length Y' BH' l' T' C' M' CM' := by
  intro r
  induction r with
  | zero =>
    intro k hk cs Y BH l T C M CM hcs I
    obtain rfl : k = L.length := by omega
    exact ⟨_, Y, BH, l, T, C, M, CM, whileM_brk (by simp [F31_L1]), whileM_brk (by simp [F32_L0]), hcs, I⟩
  | succ r ih =>
    intro k hk cs Y BH l T C M CM hcs I
    have hlt : k < L.length := by omega
    have hg : L[k]? = some L[k] := List.getElem?_eq_getElem hlt
    obtain ⟨e, Y1, BH1, l1, T1, C1, M1, CM1, r1, r2, r3⟩ := move I h6 hg hl
    have n1 : F31_L1 L (cs, l, C, M, T, (n : Int), (k : Int)) = some (.nxt (cs ++ [e], l1, C1, M1, T1, (n : Int), ((k + 1 : Nat) : Int))) := by
      have hd : decide ((k : Int) < (L.length : Int)) = true := by rw [decide_eq_true_eq]; omega
      simp only [F31_L1, hd, cond_true, idx_some hg, Option.bind_some, r1, app1 8 (by decide) cs e (by omega), w64_succ hlt (by omega)]
    obtain ⟨cs', Y', BH', l', T', C', M', CM', q1, q2, q3, q4⟩ := ih (k + 1) (by omega) (cs := cs ++ [e]) (by simp [hcs]) r3
    exact ⟨cs', Y', BH', l', T', C', M', CM', by rw [whileM_nxt n1]; exact q1, by rw [whileM_nxt (r2 cs (by omega))]; exact q2, q3, q4⟩
theorem init_val {n : Nat} (h6 : n ≤ 6) : whileM (F31_L0 (n : Int)) ([], [], 0) = some (.brk (List.replicate n (List.replicate n (0 : Int)), List.replicate n (mzero : Cm))) := by
  have := while_upto (body := F31_L0 (n : Int)) (fun k => (List.replicate k (List.replicate n (0 : Int)), List.replicate k (mzero : Cm), (k : Int))) n (c := .brk (List.replicate n (List.replicate n (0 : Int)), List.replicate n (mzero : Cm))) (fun k hk => ?_) (by simp [F31_L0]) (by simp)
  · exact this
  · have hd : decide ((k : Int) < (n : Int)) = true := by rw [decide_eq_true_eq]; omega
    have m8 := mkl_rep h6 (show 8 ≤ 128 by decide) (0 : Int)
    have a1 : appl 24 (List.replicate k (List.replicate n (0 : Int))) [List.replicate n (0 : Int)] = some (List.replicate (k + 1) (List.replicate n (0 : Int))) := by
      rw [app1 24 (by decide) _ _ (by simp; omega), List.replicate_succ']
    have a2 : appl 8 (List.replicate k (mzero : Cm)) [(mzero : Cm)] = some (List.replicate (k + 1) (mzero : Cm)) := by
      rw [app1 8 (by decide) _ _ (by simp; omega), List.replicate_succ']
    simp only [F31_L0, hd, cond_true, m8, Option.bind_some, a1, a2, w64_succ hk (by omega)]
theorem law_CausalPlays (x0 : Int) (b0 : -9223372036854775808 ≤ x0 ∧ x0 ≤ 9223372036854775807) (x1 : List Mv) (l1 : x1.length ≤ 9223372036854775807) (w1 : ∀ x ∈ x1, (-9223372036854775808 ≤ x.1 ∧ x.1 ≤ 9223372036854775807) ∧ (-9223372036854775808 ≤ x.2.1 ∧ x.2.1 ≤ 9223372036854775807) ∧ (-9223372036854775808 ≤ x.2.2.1 ∧ x.2.2.1 ≤ 9223372036854775807) ∧ (-9223372036854775808 ≤ x.2.2.2 ∧ x.2.2.2 ≤ 9223372036854775807)) :
    F8 x0 x1 = some true := by
  have h0 := same_codes [] (by simp)
  have h0' := same_lists [] (by simp) (by simp)
  cases c : (((decide (x0 < 1)) || (decide (x0 > 6))) || (decide ((x1.length : Int) > 60))) with
  | true => simp [F8, F31, F21, c, h0, h0']
  | false =>
    have c' := c
    simp only [Bool.or_eq_false_iff, decide_eq_false_iff_not] at c'
    obtain ⟨n, rfl⟩ := nat_of (a := x0) (by omega)
    have h6 : n ≤ 6 := by omega
    have hl : x1.length ≤ 60 := by omega
    have I : Inv n 0 [] [] [] (List.replicate n []) (List.replicate n (List.replicate n 0)) (List.replicate n mzero) (List.replicate n []) := by
      have gT : ∀ i, i < n → gl (List.replicate n ([] : List Int)) i = [] := fun i hi => ge_rep _ _ hi
      have gC : ∀ i, i < n → gl (List.replicate n (List.replicate n (0 : Int))) i = List.replicate n 0 := fun i hi => ge_rep _ _ hi
      refine { ll := rfl, lb := rfl, lt := by simp, lc := by simp, lm := by simp, lcm := by simp, few := by simp, fcm := fun i hi => by rw [gT i hi]; simp, hY := fun x hx => (by cases hx), msg := fun z hz => (by cases hz), bg := fun z hz => (by cases hz), bo := fun x z _ hz => (by cases hz), tg := fun i hi => ?_, own := fun x hx => (by cases hx), ckl := fun i hi => by rw [gC i hi]; simp, ck := fun i hi p hp => ?_, cm := fun i hi z => ?_ }
      · rw [gT i hi]; exact ⟨List.nodup_nil, fun z hz => (by cases hz), fun x y _ hy => (by cases hy)⟩
      · rw [gC i hi, gT i hi, ge_rep _ _ hp]; rfl
      · rw [gT i hi, ge_rep _ _ hi]; simp [mzero]
    obtain ⟨cs', Y', BH', l', T', C', M', CM', r1, r2, r3, r4⟩ := run_both h6 hl x1.length 0 (by omega) (cs := []) rfl I
    have m24 := mkl_rep h6 (show 24 ≤ 128 by decide) ([] : List Int)
    have iv := init_val h6
    have r1' : whileM (F31_L1 x1) ([], [], List.replicate n (List.replicate n 0), List.replicate n mzero, List.replicate n [], (n : Int), 0) = some (.brk (cs', l', C', M', T', (n : Int))) := r1
    have r2' : whileM (F32_L0 (n : Int) x1) ([], [], [], List.replicate n [], List.replicate n [], 0) = some (.brk (cs', CM', T')) := r2
    have eF31 : F31 (n : Int) x1 = some ((cs', T'), 0) := by
      simp only [F31, c, cond_false, m24, Option.bind_some, iv, Ctl.on, r1']
    have eF32 : F32 (n : Int) x1 = some (cs', T') := by
      simp only [F32, m24, Option.bind_some, r2', Ctl.on]
    have eF21 : F21 (n : Int) (x1.length : Int) = some 0 := by simp only [F21, c, cond_false]
    have h1 := same_codes cs' (by omega)
    have h2 := same_lists T' (by rw [r4.lt]; omega) fun x hx => by
      obtain ⟨i, hi⟩ := List.mem_iff_getElem?.1 hx
      have hin : i < n := by have := lt_of_get hi; rw [r4.lt] at this; exact this
      have := r4.tlen hin
      have e : gl T' i = x := by
        have := get_ge ([] : List Int) (lt_of_get hi)
        rw [hi] at this; exact (Option.some.inj this).symm
      rw [e] at this
      have := r4.few
      omega
    simp [F8, eF31, eF32, eF21, h1, h2]
end Go.Proofs.Ythfkdepcnhhepaa
