/-
  The plain law of PaxosPlays.
-/
import Derived.Test.YthfkdepcnhhepaaZM
import Derived.Test.YthfkdepcnhhepaaPw
import Derived.Test.YthfkdepcnhhepaaBk6
namespace Go.Proofs.Ythfkdepcnhhepaa
open Go Go.Bk
set_option linter.unusedVariables false
set_option linter.unusedSimpArgs false

abbrev Mv := Int × Int × Int × Int
abbrev Bl := (BitVec 32) × (BitVec 32) × Int × Int × Int
abbrev Q5 := Int × Int × Int × Int × Int
def vi (y : List Int) (j : Nat) : Int := y.getD j 0
theorem idx_vi {y : List Int} {j : Nat} (h : j < y.length) : idx y (j : Int) = some (vi y j) := idx_some (by simp [vi, List.getD_eq_getElem?_getD, List.getElem?_eq_getElem h])
theorem vi_set {y : List Int} {i b : Nat} {v : Int} (hi : i < y.length) : vi (y.set i v) b = if b = i then v else vi y b := by
  unfold vi
  rw [List.getD_eq_getElem?_getD, List.getD_eq_getElem?_getD, List.getElem?_set]
  by_cases c : i = b
  · subst c; simp [hi]
  · have : ¬ b = i := fun e => c e.symm
    simp [c, this]
theorem w64i {x : Int} (h0 : -9000000000 ≤ x) (h1 : x ≤ 9000000000) : w64 x = x := w64_of (by omega) (by omega)
theorem app1 {α : Type} (b : Nat) (hb : b ≤ 32) (l : List α) (z : α) (h : l.length ≤ 60) : appl b l [z] = some (l ++ [z]) := by
  unfold appl; rw [if_pos]
  simp
  have : (l.length + 1) * b ≤ 61 * 32 := Nat.mul_le_mul (by omega) hb
  omega
def bi (z : T10 Bl) (b : Nat) : Bl := (tl10 z).getD b (0, 0, 0, 0, 0)
theorem idx_bi (z : T10 Bl) {b : Nat} (h : b < 10) : idx (tl10 z) (b : Int) = some (bi z b) := by
  have : b < (tl10 z).length := h
  exact idx_some (by simp [bi, List.getD_eq_getElem?_getD, List.getElem?_eq_getElem this])
theorem as_bi (z : T10 Bl) {b : Nat} (h : b < 10) (y : Bl) : ∃ z', as10 z (b : Int) y = some z' ∧ ∀ c, bi z' c = if c = b then y else bi z c := by
  refine ⟨ts10 z b y, ?_, fun c => ?_⟩
  · unfold as10; rw [if_pos ⟨by omega, by omega⟩]; simp
  · unfold bi
    rw [tl10_set, List.getD_eq_getElem?_getD, List.getD_eq_getElem?_getD, List.getElem?_set]
    have hl : b < (tl10 z).length := h
    by_cases e : b = c
    · subst e; simp [hl]
    · have : ¬ c = b := fun q => e q.symm
      simp [e, this]

/-! How many bits. -/
def c6 (w : BitVec 32) : Nat := (List.range 6).countP fun i => w.getLsbD i
theorem f129_small : ∀ v, v < 64 → F129 (BitVec.ofNat 32 v) = some ((c6 (BitVec.ofNat 32 v) : Nat) : Int) := by decide +kernel
theorem f129_val {w : BitVec 32} (h : ∀ b, w.getLsbD b = true → b < 6) : F129 w = some (c6 w : Int) := by
  have hs : w.toNat < 64 := by
    refine Classical.byContradiction fun q => ?_
    obtain ⟨b, hb, h2⟩ := Nat.exists_ge_and_testBit_of_ge_two_pow (n := 6) (x := w.toNat) (by omega)
    have := h b (by rw [BitVec.getLsbD]; exact h2)
    omega
  have hw : w = BitVec.ofNat 32 w.toNat := by simp
  have := f129_small w.toNat hs
  rw [← hw] at this; exact this
theorem c6_le (w : BitVec 32) : c6 w ≤ 6 := by
  have : c6 w ≤ (List.range 6).length := List.countP_le_length
  simpa using this
theorem c6_or {w : BitVec 32} {i : Nat} (hi : i < 6) (h : w.getLsbD i = false) : c6 (w ||| (1#32 <<< i)) = c6 w + 1 := by
  unfold c6
  have key : ∀ m, (List.range m).countP (fun b => (w ||| (1#32 <<< i)).getLsbD b) = (List.range m).countP (fun b => w.getLsbD b) + if i < m then 1 else 0 := by
    intro m
    induction m with
    | zero => simp
    | succ m ih =>
      rw [List.range_succ, List.countP_append, List.countP_append, ih]
      simp only [List.countP_cons, List.countP_nil, BitVec.getLsbD_or, bit_one (show i < 32 by omega)]
      by_cases e : m = i
      · subst e; simp [h]
      · have h1 : decide (m = i) = false := by simpa using e
        rw [h1, Bool.or_false]
        by_cases q : i < m
        · rw [if_pos q, if_pos (show i < m + 1 by omega)]; simp; exact Nat.add_right_comm _ _ _
        · rw [if_neg q, if_neg (show ¬ i < m + 1 by omega)]; simp
  rw [key, if_pos hi]
theorem f91_val {n : Nat} (hn : n ≤ 6) {w : BitVec 32} (h : ∀ b, w.getLsbD b = true → b < n) : F91 (n : Int) w = some (decide ((2 * c6 w : Nat) > n), (n : Int)) := by
  have hc := c6_le w
  unfold F91
  rw [f129_val (fun b hb => by have := h b hb; omega), Option.bind_some, w64i (by omega) (by omega)]
  have : decide (2 * (c6 w : Int) > (n : Int)) = decide ((2 * c6 w : Nat) > n) := by rw [decide_eq_decide]; omega
  rw [this]

/-! The document's answer: what was promised. -/
def stepQ (b : Int) (x : Q5) (q : Mv) : Q5 := if q.2.1 = b then (if q.2.2.1 > x.2.2.1 then (q.1, q.2.1, q.2.2.1, q.2.2.2, x.2.2.2.2 + 1) else (x.1, x.2.1, x.2.2.1, x.2.2.2.1, x.2.2.2.2 + 1)) else x
def sq (b : Int) (Q : List Mv) : Q5 := Q.foldl (stepQ b) (0, 0, 0, 0, 0)
theorem sq_app (b : Int) (Q : List Mv) (q : Mv) : sq b (Q ++ [q]) = stepQ b (sq b Q) q := by unfold sq; rw [List.foldl_append]; rfl
theorem sq_cnt (b : Int) (Q : List Mv) : 0 ≤ (sq b Q).2.2.2.2 ∧ (sq b Q).2.2.2.2 ≤ (Q.length : Int) := by
  have key : ∀ k, k ≤ Q.length → 0 ≤ (sq b (Q.take k)).2.2.2.2 ∧ (sq b (Q.take k)).2.2.2.2 ≤ (k : Int) := by
    intro k
    induction k with
    | zero => intro _; simp [sq]
    | succ k ih =>
      intro hk
      have h := ih (by omega)
      rw [List.take_add_one, List.getElem?_eq_getElem (by omega)]
      simp only [Option.toList_some]
      rw [sq_app]
      unfold stepQ
      split
      · split <;> (simp only; push_cast; omega)
      · push_cast; omega
  have := key Q.length (Nat.le_refl _)
  rwa [List.take_length] at this
theorem l1_val (Q : List Mv) (m : Mv) (hQ : Q.length ≤ 60) : whileM (F24_L1 Q m) (0, 0, 0, 0, 0, 0) = some (.brk (sq m.2.2.2 Q)) := by
  have h := while_upto (body := F24_L1 Q m) (fun k => ((sq m.2.2.2 (Q.take k)).1, (sq m.2.2.2 (Q.take k)).2.1, (sq m.2.2.2 (Q.take k)).2.2.1, (sq m.2.2.2 (Q.take k)).2.2.2.1, (sq m.2.2.2 (Q.take k)).2.2.2.2, (k : Int))) Q.length (c := .brk (sq m.2.2.2 Q))
    (fun k hk => by
      have hd : decide ((k : Int) < (Q.length : Int)) = true := by rw [decide_eq_true_eq]; omega
      have hg := List.getElem?_eq_getElem hk
      have hc := sq_cnt m.2.2.2 (Q.take k)
      have hl : (Q.take k).length ≤ 60 := by simp; omega
      have hw : w64 ((sq m.2.2.2 (Q.take k)).2.2.2.2 + 1) = (sq m.2.2.2 (Q.take k)).2.2.2.2 + 1 := w64i (by omega) (by omega)
      have ht : Q.take (k + 1) = Q.take k ++ [Q[k]] := by rw [List.take_add_one, hg]; rfl
      simp only [F24_L1, hd, cond_true, idx_some hg, Option.bind_some, w64_succ hk (show Q.length ≤ 9223372036854775807 by omega), ht, sq_app, hw]
      unfold stepQ
      by_cases c1 : Q[k].2.1 = m.2.2.2
      · have b1 : (Q[k].2.1 == m.2.2.2) = true := by rw [beq_iff_eq]; exact c1
        rw [b1, if_pos c1, cond_true]
        by_cases c2 : Q[k].2.2.1 > (sq m.2.2.2 (Q.take k)).2.2.1
        · rw [if_pos c2, decide_eq_true c2]; rfl
        · rw [if_neg c2, decide_eq_false c2]; rfl
      · have b1 : (Q[k].2.1 == m.2.2.2) = false := by rw [beq_eq_false_iff_ne]; exact c1
        rw [b1, if_neg c1]; rfl)
    (by simp [F24_L1]) (fun s => by simp)
  exact h
theorem l3_val (m : Mv) (K : List (Int × Int)) (x : Int) (j : Int) (hK : K.length ≤ 100) (hx : 0 ≤ x ∧ x ≤ 100) : whileM (F24_L3 m K x j) 0 = some (.brk (if (m.2.2.2, j) ∈ K then x + 1 else x)) := by
  have key : ∀ r k, k + r = K.length → (∀ i, i < k → ∀ e, K[i]? = some e → e ≠ (m.2.2.2, j)) → whileM (F24_L3 m K x j) (k : Int) = some (.brk (if (m.2.2.2, j) ∈ K then x + 1 else x)) := by
    intro r
    induction r with
    | zero =>
      intro k hk hno
      obtain rfl : k = K.length := by omega
      have hn : (m.2.2.2, j) ∉ K := fun h => by
        obtain ⟨i, hi⟩ := List.getElem?_of_mem h
        exact hno i (lt_of_get hi) _ hi rfl
      rw [if_neg hn]
      exact whileM_brk (by simp [F24_L3])
    | succ r ih =>
      intro k hk hno
      have hkl : k < K.length := by omega
      have hd : decide ((k : Int) < (K.length : Int)) = true := by rw [decide_eq_true_eq]; omega
      have hg := List.getElem?_eq_getElem hkl
      by_cases c : K[k] = (m.2.2.2, j)
      · have hm : (m.2.2.2, j) ∈ K := by rw [← c]; exact List.getElem_mem hkl
        rw [if_pos hm]
        have b : ((K[k].1 == m.2.2.2) && (K[k].2 == j)) = true := by rw [c]; simp
        exact whileM_brk (by simp only [F24_L3, hd, cond_true, idx_some hg, Option.bind_some, b, w64i (x := x + 1) (by omega) (by omega)])
      · have b : ((K[k].1 == m.2.2.2) && (K[k].2 == j)) = false := by
          rw [Bool.eq_false_iff]; intro h
          rw [Bool.and_eq_true, beq_iff_eq, beq_iff_eq] at h
          exact c (Prod.ext h.1 h.2)
        rw [whileM_nxt (s' := ((k + 1 : Nat) : Int)) (by simp only [F24_L3, hd, cond_true, idx_some hg, Option.bind_some, b, cond_false, w64_succ hkl (show K.length ≤ 9223372036854775807 by omega)])]
        refine ih (k + 1) (by omega) fun i hi e he => ?_
        by_cases q : i = k
        · subst q; rw [hg] at he; obtain rfl := Option.some.inj he; exact c
        · exact hno i (by omega) e he
  exact key K.length 0 (by omega) fun i hi => by omega
theorem l2_val {n : Nat} (hn : n ≤ 6) (m : Mv) (K : List (Int × Int)) (hK : K.length ≤ 100) {w : BitVec 32} (hw : ∀ i : Nat, w.getLsbD i = true ↔ (m.2.2.2, (i : Int)) ∈ K) (hl : ∀ b, w.getLsbD b = true → b < n) : whileM (F24_L2 (n : Int) m K) (0, 0) = some (.brk (c6 w : Int)) := by
  have h := while_upto (body := F24_L2 (n : Int) m K) (fun k => ((((List.range k).countP fun i => w.getLsbD i : Nat) : Int), (k : Int))) n (c := .brk (((List.range n).countP fun i => w.getLsbD i : Nat) : Int))
    (fun k hk => by
      have hd : decide ((k : Int) < (n : Int)) = true := by rw [decide_eq_true_eq]; omega
      have hc := List.countP_le_length (p := fun i => w.getLsbD i) (l := List.range k)
      simp only [List.length_range] at hc
      have h3 := l3_val m K (((List.range k).countP fun i => w.getLsbD i : Nat) : Int) (k : Int) hK ⟨by omega, by omega⟩
      simp only [F24_L2, hd, cond_true, h3, Option.bind_some, Ctl.on, w64_succ hk (show n ≤ 9223372036854775807 by omega)]
      rw [List.range_succ, List.countP_append]
      by_cases c : (m.2.2.2, (k : Int)) ∈ K
      · rw [if_pos c]; simp [(hw k).2 c]
      · have : w.getLsbD k = false := by rw [Bool.eq_false_iff]; exact fun q => c ((hw k).1 q)
        rw [if_neg c]; simp [this])
    (by simp [F24_L2]) (fun s => by simp)
  have hcc : (List.range n).countP (fun i => w.getLsbD i) = c6 w := by
    unfold c6
    have : List.range 6 = List.range n ++ (List.range' n (6 - n)) := by
      rw [List.range_eq_range', List.range_eq_range']
      have := List.range'_append_1 (s := 0) (m := n) (n := 6 - n)
      rw [Nat.zero_add, show n + (6 - n) = 6 by omega] at this
      exact this.symm
    rw [this, List.countP_append]
    have h0 : (List.range' n (6 - n)).countP (fun i => w.getLsbD i) = 0 := by
      rw [List.countP_eq_zero]
      intro b hb hwb
      have := hl b hwb
      rw [List.mem_range'_1] at hb
      omega
    omega
  rw [hcc] at h
  exact h

/-! Move by move. -/
structure Inv (n k : Nat) (z : T10 Bl) (O P Tk V : List Int) (Q : List Mv) (K : List (Int × Int)) : Prop where
  lp : P.length = n
  lt : Tk.length = n
  lv : V.length = n
  lo : O.length = 10
  lq : Q.length ≤ k
  lk : K.length ≤ k
  off : ∀ b, b < 10 → (bi z b).2.2.2.2 = vi O b
  prb : ∀ b, b < 10 → ∀ i : Nat, (bi z b).1.getLsbD i = true ↔ ∃ q ∈ Q, q.1 = (i : Int) ∧ q.2.1 = (b : Int)
  tkb : ∀ b, b < 10 → ∀ i : Nat, (bi z b).2.1.getLsbD i = true ↔ ((b : Int), (i : Int)) ∈ K
  fd : ∀ b : Nat, b < 10 → (bi z b).2.2.1 = (sq b Q).2.2.1 ∧ (bi z b).2.2.2.1 = (sq b Q).2.2.2.1 ∧ (c6 (bi z b).1 : Int) = (sq b Q).2.2.2.2
  qb : ∀ q ∈ Q, ∃ i : Nat, i < n ∧ q.1 = (i : Int) ∧ q.2.1 ≤ vi P i
  kb : ∀ x ∈ K, ∃ i : Nat, i < n ∧ x.2 = (i : Int)
section
variable {n : Nat} (hn1 : 1 ≤ n) (hn6 : n ≤ 6)
theorem Inv.up {k : Nat} {z : T10 Bl} {O P Tk V : List Int} {Q : List Mv} {K : List (Int × Int)} (h : Inv n k z O P Tk V Q K) : Inv n (k + 1) z O P Tk V Q K :=
  { h with lq := by have := h.lq; omega, lk := by have := h.lk; omega }
theorem pr_lim {k : Nat} {z : T10 Bl} {O P Tk V : List Int} {Q : List Mv} {K : List (Int × Int)} (h : Inv n k z O P Tk V Q K) {b : Nat} (hb : b < 10) : ∀ i, (bi z b).1.getLsbD i = true → i < n := fun i hi => by
  obtain ⟨q, hq, e, _⟩ := (h.prb b hb i).1 hi
  obtain ⟨j, hj, e2, _⟩ := h.qb q hq
  omega
theorem tk_lim {k : Nat} {z : T10 Bl} {O P Tk V : List Int} {Q : List Mv} {K : List (Int × Int)} (h : Inv n k z O P Tk V Q K) {b : Nat} (hb : b < 10) : ∀ i, (bi z b).2.1.getLsbD i = true → i < n := fun i hi => by
  obtain ⟨j, hj, e⟩ := h.kb _ ((h.tkb b hb i).1 hi)
  simp at e; omega
/-- A promise. -/
theorem Inv.ask {k : Nat} {z z' : T10 Bl} {O P Tk V : List Int} {Q : List Mv} {K : List (Int × Int)} (hn6 : n ≤ 6) (h : Inv n k z O P Tk V Q K) {b i : Nat} (hb : b < 10) (hi : i < n) (hlt : vi P i < (b : Int))
    (hz : ∀ c, bi z' c = if c = b then ((bi z b).1 ||| (1#32 <<< i), (bi z b).2.1, if vi Tk i > (bi z b).2.2.1 then vi Tk i else (bi z b).2.2.1, if vi Tk i > (bi z b).2.2.1 then vi V i else (bi z b).2.2.2.1, (bi z b).2.2.2.2) else bi z c) :
    Inv n (k + 1) z' O (P.set i (b : Int)) Tk V (Q ++ [((i : Int), (b : Int), vi Tk i, vi V i)]) K := by
  have hno : (bi z b).1.getLsbD i = false := by
    rw [Bool.eq_false_iff]; intro q
    obtain ⟨x, hx, e1, e2⟩ := (h.prb b hb i).1 q
    obtain ⟨j, hj, e3, e4⟩ := h.qb x hx
    obtain rfl : j = i := by omega
    omega
  have hpi : i < P.length := by rw [h.lp]; exact hi
  refine ⟨by simp [h.lp], h.lt, h.lv, h.lo, by have := h.lq; simp; omega, by have := h.lk; omega, ?_, ?_, ?_, ?_, ?_, h.kb⟩
  · intro c hc
    rw [hz c]
    by_cases e : c = b
    · subst e; rw [if_pos rfl]; exact h.off c hc
    · rw [if_neg e]; exact h.off c hc
  · intro c hc j
    rw [hz c]
    by_cases e : c = b
    · subst e
      rw [if_pos rfl]
      simp only [BitVec.getLsbD_or, bit_one (show i < 32 by omega), Bool.or_eq_true, decide_eq_true_eq, h.prb c hc j]
      constructor
      · rintro (⟨q, hq, e1⟩ | rfl)
        · exact ⟨q, List.mem_append_left _ hq, e1⟩
        · exact ⟨_, List.mem_append_right _ (List.mem_singleton.2 rfl), rfl, rfl⟩
      · rintro ⟨q, hq, e1, e2⟩
        rw [List.mem_append, List.mem_singleton] at hq
        rcases hq with hq | rfl
        · exact .inl ⟨q, hq, e1, e2⟩
        · right; simp at e1; omega
    · rw [if_neg e, h.prb c hc j]
      constructor
      · rintro ⟨q, hq, e1⟩; exact ⟨q, List.mem_append_left _ hq, e1⟩
      · rintro ⟨q, hq, e1, e2⟩
        rw [List.mem_append, List.mem_singleton] at hq
        rcases hq with hq | rfl
        · exact ⟨q, hq, e1, e2⟩
        · simp at e2; omega
  · intro c hc j
    rw [hz c]
    by_cases e : c = b
    · subst e; rw [if_pos rfl]; exact h.tkb c hc j
    · rw [if_neg e]; exact h.tkb c hc j
  · intro c hc
    obtain ⟨f1, f2, f3⟩ := h.fd c hc
    rw [hz c, sq_app]
    by_cases e : c = b
    · subst e
      rw [if_pos rfl]
      unfold stepQ
      rw [if_pos rfl]
      simp only
      rw [c6_or (by omega) hno]
      rw [f1]
      by_cases q : vi Tk i > (sq (c : Int) Q).2.2.1
      · simp only [if_pos q]; refine ⟨trivial, trivial, ?_⟩; push_cast; omega
      · simp only [if_neg q]; refine ⟨trivial, f2, ?_⟩; push_cast; omega
    · rw [if_neg e]
      unfold stepQ
      rw [if_neg (by simp only; omega)]
      exact ⟨f1, f2, f3⟩
  · intro q hq
    rw [List.mem_append, List.mem_singleton] at hq
    rcases hq with hq | rfl
    · obtain ⟨j, hj, e1, e2⟩ := h.qb q hq
      refine ⟨j, hj, e1, ?_⟩
      rw [vi_set hpi]
      by_cases e : j = i
      · subst e; rw [if_pos rfl]; omega
      · rw [if_neg e]; exact e2
    · refine ⟨i, hi, rfl, ?_⟩
      rw [vi_set hpi, if_pos rfl]; exact Int.le_refl _
/-- An offer. -/
theorem Inv.offer {k : Nat} {z z' : T10 Bl} {O P Tk V : List Int} {Q : List Mv} {K : List (Int × Int)} (h : Inv n k z O P Tk V Q K) {b : Nat} (hb : b < 10) {v : Int}
    (hz : ∀ c, bi z' c = if c = b then ((bi z b).1, (bi z b).2.1, (bi z b).2.2.1, (bi z b).2.2.2.1, v) else bi z c) : Inv n (k + 1) z' (O.set b v) P Tk V Q K := by
  have hbo : b < O.length := by rw [h.lo]; exact hb
  refine ⟨h.lp, h.lt, h.lv, by simp [h.lo], by have := h.lq; omega, by have := h.lk; omega, ?_, ?_, ?_, ?_, h.qb, h.kb⟩
  · intro c hc
    rw [hz c, vi_set hbo]
    by_cases e : c = b
    · rw [if_pos e, if_pos e]
    · rw [if_neg e, if_neg e]; exact h.off c hc
  · intro c hc j; rw [hz c]; by_cases e : c = b
    · subst e; rw [if_pos rfl]; exact h.prb c hc j
    · rw [if_neg e]; exact h.prb c hc j
  · intro c hc j; rw [hz c]; by_cases e : c = b
    · subst e; rw [if_pos rfl]; exact h.tkb c hc j
    · rw [if_neg e]; exact h.tkb c hc j
  · intro c hc; rw [hz c]; by_cases e : c = b
    · subst e; rw [if_pos rfl]; exact h.fd c hc
    · rw [if_neg e]; exact h.fd c hc
/-- A take. -/
theorem Inv.take {k : Nat} {z z' : T10 Bl} {O P Tk V : List Int} {Q : List Mv} {K : List (Int × Int)} (hn6 : n ≤ 6) (h : Inv n k z O P Tk V Q K) {b i : Nat} (hb : b < 10) (hi : i < n) (hle : vi P i ≤ (b : Int)) (x y : Int)
    (hz : ∀ c, bi z' c = if c = b then ((bi z b).1, (bi z b).2.1 ||| (1#32 <<< i), (bi z b).2.2.1, (bi z b).2.2.2.1, (bi z b).2.2.2.2) else bi z c) :
    Inv n (k + 1) z' O (P.set i (b : Int)) (Tk.set i x) (V.set i y) Q (K ++ [((b : Int), (i : Int))]) := by
  have hpi : i < P.length := by rw [h.lp]; exact hi
  refine ⟨by simp [h.lp], by simp [h.lt], by simp [h.lv], h.lo, by have := h.lq; omega, by have := h.lk; simp; omega, ?_, ?_, ?_, ?_, ?_, ?_⟩
  · intro c hc; rw [hz c]; by_cases e : c = b
    · subst e; rw [if_pos rfl]; exact h.off c hc
    · rw [if_neg e]; exact h.off c hc
  · intro c hc j; rw [hz c]; by_cases e : c = b
    · subst e; rw [if_pos rfl]; exact h.prb c hc j
    · rw [if_neg e]; exact h.prb c hc j
  · intro c hc j
    rw [hz c, List.mem_append, List.mem_singleton]
    by_cases e : c = b
    · subst e
      rw [if_pos rfl]
      simp only [BitVec.getLsbD_or, bit_one (show i < 32 by omega), Bool.or_eq_true, decide_eq_true_eq, h.tkb c hc j, Prod.mk.injEq, true_and]
      constructor
      · rintro (q | rfl)
        · exact .inl q
        · exact .inr rfl
      · rintro (q | q)
        · exact .inl q
        · right; omega
    · rw [if_neg e, h.tkb c hc j]
      simp only [Prod.mk.injEq]
      constructor
      · exact .inl
      · rintro (q | q)
        · exact q
        · omega
  · intro c hc; rw [hz c]; by_cases e : c = b
    · subst e; rw [if_pos rfl]; exact h.fd c hc
    · rw [if_neg e]; exact h.fd c hc
  · intro q hq
    obtain ⟨j, hj, e1, e2⟩ := h.qb q hq
    refine ⟨j, hj, e1, ?_⟩
    rw [vi_set hpi]
    by_cases e : j = i
    · subst e; rw [if_pos rfl]; omega
    · rw [if_neg e]; exact e2
  · intro q hq
    rw [List.mem_append, List.mem_singleton] at hq
    rcases hq with hq | rfl
    · exact h.kb q hq
    · exact ⟨i, hi, rfl⟩
end
theorem step {n k : Nat} (hn1 : 1 ≤ n) (hn6 : n ≤ 6) {ms : List Mv} (hms : ms.length ≤ 60) {m : Mv} (hk : k < ms.length) (hg : ms[k]? = some m) {z : T10 Bl} {O P Tk V : List Int} {Q : List Mv} {K : List (Int × Int)} (h : Inv n k z O P Tk V Q K)
    (ch : Int) {codes : List Int} (hcl : codes.length = k) :
    ∃ cd z' ch' O' P' Tk' V' Q' K', F58 ((n : Int), z, (ch, P, Tk, V)) m = some (cd, ((n : Int), z', (ch', P', Tk', V'))) ∧
      F24_L0 (n : Int) ms (Q, K, codes, O, P, Tk, V, ch, (k : Int)) = some (.nxt (Q', K', codes ++ [cd], O', P', Tk', V', ch', ((k + 1 : Nat) : Int))) ∧ Inv n (k + 1) z' O' P' Tk' V' Q' K' := by
  obtain ⟨kd, fr, ab, bl⟩ := m
  have hd : decide ((k : Int) < (ms.length : Int)) = true := by rw [decide_eq_true_eq]; omega
  have happ : ∀ cd : Int, appl 8 codes [cd] = some (codes ++ [cd]) := fun cd => app1 8 (by omega) codes cd (by omega)
  have hws : w64 ((k : Int) + 1) = ((k + 1 : Nat) : Int) := w64_succ hk (show ms.length ≤ 9223372036854775807 by omega)
  have hlq := h.lq
  have hlk := h.lk
  by_cases c1 : kd < 1 ∨ kd > 3
  · have e1 : (decide (kd < 1) || decide (kd > 3)) = true := by simpa using c1
    exact ⟨6, z, ch, O, P, Tk, V, Q, K, by simp only [F58, e1, cond_true], by simp only [F24_L0, hd, cond_true, idx_some hg, Option.bind_some, e1, happ, hws], h.up⟩
  have e1 : (decide (kd < 1) || decide (kd > 3)) = false := by rw [Bool.eq_false_iff]; simpa using c1
  by_cases c2 : kd ≠ 2 ∧ (fr < 0 ∨ fr ≥ (n : Int))
  · have e2 : (kd != 2 && (decide (fr < 0) || decide (fr ≥ (n : Int)))) = true := by simpa using c2
    exact ⟨2, z, ch, O, P, Tk, V, Q, K, by simp only [F58, e1, e2, cond_true, cond_false], by simp only [F24_L0, hd, cond_true, cond_false, idx_some hg, Option.bind_some, e1, e2, happ, hws], h.up⟩
  have e2 : (kd != 2 && (decide (fr < 0) || decide (fr ≥ (n : Int)))) = false := by
    rw [Bool.eq_false_iff]; intro q; apply c2; simpa using q
  by_cases c3 : bl < 1 ∨ bl > 9
  · have e3 : (decide (bl < 1) || decide (bl > 9)) = true := by simpa using c3
    exact ⟨4, z, ch, O, P, Tk, V, Q, K, by simp only [F58, e1, e2, e3, cond_true, cond_false], by simp only [F24_L0, hd, cond_true, cond_false, idx_some hg, Option.bind_some, e1, e2, e3, happ, hws], h.up⟩
  have e3 : (decide (bl < 1) || decide (bl > 9)) = false := by rw [Bool.eq_false_iff]; simpa using c3
  obtain ⟨b, rfl⟩ : ∃ b : Nat, bl = (b : Int) := ⟨bl.toNat, by omega⟩
  have hb : b < 10 := by omega
  have hb0 : 1 ≤ b := by omega
  have hbo : b < O.length := by rw [h.lo]; exact hb
  have hoff := h.off b hb
  have hio := idx_vi hbo
  have hfd := h.fd b hb
  by_cases k2 : kd = 2
  · subst k2
    have f1 : ((2 : Int) == 1) = false := rfl
    have f2 : ((2 : Int) == 2) = true := rfl
    have hcnt := sq_cnt (b : Int) Q
    by_cases c4 : vi O b > 0
    · have e4 : decide (vi O b > 0) = true := decide_eq_true c4
      exact ⟨7, z, ch, O, P, Tk, V, Q, K,
        by simp only [F58, e1, e2, e3, cond_true, cond_false, f1, f2, idx_bi z hb, Option.bind_some, hoff, e4],
        by simp only [F24_L0, hd, cond_true, cond_false, idx_some hg, Option.bind_some, e1, e2, e3, f1, f2, l1_val Q _ (show Q.length ≤ 60 by omega), Ctl.on, hio, e4, happ, hws], h.up⟩
    have e4 : decide (vi O b > 0) = false := decide_eq_false c4
    have hmost := f91_val hn6 (pr_lim h hb)
    have hw2 : w64 ((sq (b : Int) Q).2.2.2.2 * 2) = (sq (b : Int) Q).2.2.2.2 * 2 := w64i (by omega) (by omega)
    by_cases c5 : 2 * c6 (bi z b).1 > n
    · have e5 : decide ((2 * c6 (bi z b).1 : Nat) > n) = true := decide_eq_true c5
      have e6 : decide ((sq (b : Int) Q).2.2.2.2 * 2 ≤ (n : Int)) = false := decide_eq_false (by rw [← hfd.2.2]; omega)
      obtain ⟨z1, h1, hz1⟩ := as_bi z hb ((bi z b).1, (bi z b).2.1, (bi z b).2.2.1, (bi z b).2.2.2.1, (b : Int))
      have g1 := hz1 b
      rw [if_pos rfl] at g1
      by_cases c7 : (sq (b : Int) Q).2.2.1 > 0
      · have e7 : decide ((sq (b : Int) Q).2.2.1 > 0) = true := decide_eq_true c7
        obtain ⟨z2, h2, hz2⟩ := as_bi z1 hb ((bi z b).1, (bi z b).2.1, (bi z b).2.2.1, (bi z b).2.2.2.1, (bi z b).2.2.2.1)
        have e7' : decide ((bi z b).2.2.1 > 0) = true := by rw [hfd.1]; exact e7
        refine ⟨0, z2, ch, O.set b (sq (b : Int) Q).2.2.2.1, P, Tk, V, Q, K, ?_, ?_, Inv.offer h hb (v := (sq (b : Int) Q).2.2.2.1) fun c => ?_⟩
        · simp only [F58, e1, e2, e3, cond_true, cond_false, f1, f2, idx_bi z hb, Option.bind_some, hoff, e4, hmost, e5, Bool.not_true, h1, idx_bi z1 hb, g1, e7', h2]
        · simp only [F24_L0, hd, cond_true, cond_false, idx_some hg, Option.bind_some, e1, e2, e3, f1, f2, l1_val Q _ (show Q.length ≤ 60 by omega), Ctl.on, hio, e4, hw2, e6, e7, happ, hws, Int.toNat_natCast]
        · rw [hz2, hz1, ← hfd.2.1]; split <;> rfl
      · have e7 : decide ((sq (b : Int) Q).2.2.1 > 0) = false := decide_eq_false c7
        have e7' : decide ((bi z b).2.2.1 > 0) = false := by rw [hfd.1]; exact e7
        refine ⟨0, z1, ch, O.set b (b : Int), P, Tk, V, Q, K, ?_, ?_, Inv.offer h hb (v := (b : Int)) hz1⟩
        · simp only [F58, e1, e2, e3, cond_true, cond_false, f1, f2, idx_bi z hb, Option.bind_some, hoff, e4, hmost, e5, Bool.not_true, h1, idx_bi z1 hb, g1, e7']
        · simp only [F24_L0, hd, cond_true, cond_false, idx_some hg, Option.bind_some, e1, e2, e3, f1, f2, l1_val Q _ (show Q.length ≤ 60 by omega), Ctl.on, hio, e4, hw2, e6, e7, happ, hws, Int.toNat_natCast]
    · have e5 : decide ((2 * c6 (bi z b).1 : Nat) > n) = false := decide_eq_false c5
      have e6 : decide ((sq (b : Int) Q).2.2.2.2 * 2 ≤ (n : Int)) = true := decide_eq_true (by rw [← hfd.2.2]; omega)
      exact ⟨5, z, ch, O, P, Tk, V, Q, K,
        by simp only [F58, e1, e2, e3, cond_true, cond_false, f1, f2, idx_bi z hb, Option.bind_some, hoff, e4, hmost, e5, Bool.not_false],
        by simp only [F24_L0, hd, cond_true, cond_false, idx_some hg, Option.bind_some, e1, e2, e3, f1, f2, l1_val Q _ (show Q.length ≤ 60 by omega), Ctl.on, hio, e4, hw2, e6, happ, hws], h.up⟩
  have hfr : 0 ≤ fr ∧ fr < (n : Int) := by
    refine Classical.byContradiction fun q => c2 ⟨k2, by omega⟩
  obtain ⟨i, rfl⟩ : ∃ i : Nat, fr = (i : Int) := ⟨fr.toNat, by omega⟩
  have hi : i < n := by omega
  have hsh : shc (i : Int) = some i := by simp [shc]
  have hP := idx_vi (show i < P.length by rw [h.lp]; exact hi)
  have hT := idx_vi (show i < Tk.length by rw [h.lt]; exact hi)
  have hV := idx_vi (show i < V.length by rw [h.lv]; exact hi)
  have hko : kd = 1 ∨ kd = 3 := by omega
  rcases hko with rfl | rfl
  · have f1 : ((1 : Int) == 1) = true := rfl
    by_cases c4 : vi P i ≥ (b : Int)
    · have e4 : decide (vi P i ≥ (b : Int)) = true := decide_eq_true c4
      exact ⟨8, z, ch, O, P, Tk, V, Q, K,
        by simp only [F58, e1, e2, e3, cond_true, cond_false, f1, idx_bi z hb, Option.bind_some, hP, e4],
        by simp only [F24_L0, hd, cond_true, cond_false, idx_some hg, Option.bind_some, e1, e2, e3, f1, hP, e4, happ, hws], h.up⟩
    have e4 : decide (vi P i ≥ (b : Int)) = false := decide_eq_false c4
    obtain ⟨z1, h1, hz1⟩ := as_bi z hb ((bi z b).1 ||| (1#32 <<< i), (bi z b).2.1, (bi z b).2.2.1, (bi z b).2.2.2.1, (bi z b).2.2.2.2)
    have g1 := hz1 b
    rw [if_pos rfl] at g1
    have hq1 : appl 32 Q [((i : Int), (b : Int), vi Tk i, vi V i)] = some (Q ++ [((i : Int), (b : Int), vi Tk i, vi V i)]) := app1 32 (by omega) _ _ (by omega)
    by_cases c7 : vi Tk i > (bi z b).2.2.1
    · have e7 : decide (vi Tk i > (bi z b).2.2.1) = true := decide_eq_true c7
      obtain ⟨z2, h2, hz2⟩ := as_bi z1 hb ((bi z b).1 ||| (1#32 <<< i), (bi z b).2.1, vi Tk i, (bi z b).2.2.2.1, (bi z b).2.2.2.2)
      have g2 := hz2 b
      rw [if_pos rfl] at g2
      obtain ⟨z3, h3, hz3⟩ := as_bi z2 hb ((bi z b).1 ||| (1#32 <<< i), (bi z b).2.1, vi Tk i, vi V i, (bi z b).2.2.2.2)
      refine ⟨0, z3, ch, O, P.set i (b : Int), Tk, V, Q ++ [((i : Int), (b : Int), vi Tk i, vi V i)], K, ?_, ?_, Inv.ask hn6 h hb hi (by omega) fun c => ?_⟩
      · simp only [F58, e1, e2, e3, cond_true, cond_false, f1, idx_bi z hb, Option.bind_some, hP, e4, hsh, h1, hT, hV, idx_bi z1 hb, g1, e7, h2, idx_bi z2 hb, g2, h3, Int.toNat_natCast]
      · simp only [F24_L0, hd, cond_true, cond_false, idx_some hg, Option.bind_some, e1, e2, e3, f1, hP, e4, hT, hV, hq1, happ, hws, Int.toNat_natCast]
      · rw [hz3, hz2, hz1, if_pos c7, if_pos c7]; split <;> rfl
    · have e7 : decide (vi Tk i > (bi z b).2.2.1) = false := decide_eq_false c7
      refine ⟨0, z1, ch, O, P.set i (b : Int), Tk, V, Q ++ [((i : Int), (b : Int), vi Tk i, vi V i)], K, ?_, ?_, Inv.ask hn6 h hb hi (by omega) fun c => ?_⟩
      · simp only [F58, e1, e2, e3, cond_true, cond_false, f1, idx_bi z hb, Option.bind_some, hP, e4, hsh, h1, hT, hV, idx_bi z1 hb, g1, e7, Int.toNat_natCast]
      · simp only [F24_L0, hd, cond_true, cond_false, idx_some hg, Option.bind_some, e1, e2, e3, f1, hP, e4, hT, hV, hq1, happ, hws, Int.toNat_natCast]
      · rw [hz1, if_neg c7, if_neg c7]
  · have f1 : ((3 : Int) == 1) = false := rfl
    have f2 : ((3 : Int) == 2) = false := rfl
    have f3 : ((3 : Int) == 3) = true := rfl
    by_cases c4 : vi O b = 0
    · have e4 : (vi O b == 0) = true := by rw [beq_iff_eq]; exact c4
      exact ⟨5, z, ch, O, P, Tk, V, Q, K,
        by simp only [F58, e1, e2, e3, cond_true, cond_false, f1, f2, f3, idx_bi z hb, Option.bind_some, hoff, e4],
        by simp only [F24_L0, hd, cond_true, cond_false, idx_some hg, Option.bind_some, e1, e2, e3, f1, f2, hio, e4, happ, hws], h.up⟩
    have e4 : (vi O b == 0) = false := by rw [beq_eq_false_iff_ne]; exact c4
    by_cases c5 : vi P i > (b : Int)
    · have e5 : decide (vi P i > (b : Int)) = true := decide_eq_true c5
      exact ⟨8, z, ch, O, P, Tk, V, Q, K,
        by simp only [F58, e1, e2, e3, cond_true, cond_false, f1, f2, f3, idx_bi z hb, Option.bind_some, hoff, e4, hP, e5],
        by simp only [F24_L0, hd, cond_true, cond_false, idx_some hg, Option.bind_some, e1, e2, e3, f1, f2, hio, e4, hP, e5, happ, hws], h.up⟩
    have e5 : decide (vi P i > (b : Int)) = false := decide_eq_false c5
    obtain ⟨z1, h1, hz1⟩ := as_bi z hb ((bi z b).1, (bi z b).2.1 ||| (1#32 <<< i), (bi z b).2.2.1, (bi z b).2.2.2.1, (bi z b).2.2.2.2)
    have g1 := hz1 b
    rw [if_pos rfl] at g1
    have hi2 : Inv n (k + 1) z1 O (P.set i (b : Int)) (Tk.set i (b : Int)) (V.set i (vi O b)) Q (K ++ [((b : Int), (i : Int))]) := Inv.take hn6 h hb hi (by omega) _ _ hz1
    have hk1 : appl 16 K [((b : Int), (i : Int))] = some (K ++ [((b : Int), (i : Int))]) := app1 16 (by omega) _ _ (by omega)
    have hl := tk_lim hi2 hb
    have hmost := f91_val hn6 hl
    rw [g1] at hmost
    have hbits := hi2.tkb b hb
    have h2 := l2_val hn6 (3, (i : Int), ab, (b : Int)) (K ++ [((b : Int), (i : Int))]) (by simp; omega) hbits hl
    rw [g1] at h2
    have hc6 := c6_le ((bi z b).2.1 ||| (1#32 <<< i))
    have hw2 : w64 ((c6 ((bi z b).2.1 ||| (1#32 <<< i)) : Int) * 2) = (c6 ((bi z b).2.1 ||| (1#32 <<< i)) : Int) * 2 := w64i (by omega) (by omega)
    have hoff2 := hi2.off b hb
    rw [g1] at hoff2
    by_cases c7 : 2 * c6 ((bi z b).2.1 ||| (1#32 <<< i)) > n
    · have e7 : decide ((2 * c6 ((bi z b).2.1 ||| (1#32 <<< i)) : Nat) > n) = true := decide_eq_true c7
      have e8 : decide ((c6 ((bi z b).2.1 ||| (1#32 <<< i)) : Int) * 2 > (n : Int)) = true := decide_eq_true (by omega)
      refine ⟨0, z1, vi O b, O, _, _, _, Q, _, ?_, ?_, hi2⟩
      · simp only [F58, e1, e2, e3, cond_true, cond_false, f1, f2, f3, idx_bi z hb, Option.bind_some, e4, hP, e5, hT, hV, hsh, hoff, Int.toNat_natCast] at h1 ⊢
        simp only [hoff] at h1 g1
        simp only [h1, Option.bind_some, idx_bi z1 hb, g1, hmost, e7, cond_true]
      · simp only [F24_L0, hd, cond_true, cond_false, idx_some hg, Option.bind_some, e1, e2, e3, f1, f2, hio, e4, hP, e5, hT, hV, hk1, h2, Ctl.on, hw2, e8, happ, hws, Int.toNat_natCast]
    · have e7 : decide ((2 * c6 ((bi z b).2.1 ||| (1#32 <<< i)) : Nat) > n) = false := decide_eq_false c7
      have e8 : decide ((c6 ((bi z b).2.1 ||| (1#32 <<< i)) : Int) * 2 > (n : Int)) = false := decide_eq_false (by omega)
      refine ⟨0, z1, ch, O, _, _, _, Q, _, ?_, ?_, hi2⟩
      · simp only [F58, e1, e2, e3, cond_true, cond_false, f1, f2, f3, idx_bi z hb, Option.bind_some, e4, hP, e5, hT, hV, hsh, hoff, Int.toNat_natCast] at h1 ⊢
        simp only [hoff] at h1 g1
        simp only [h1, Option.bind_some, idx_bi z1 hb, g1, hmost, e7, cond_false]
      · simp only [F24_L0, hd, cond_true, cond_false, idx_some hg, Option.bind_some, e1, e2, e3, f1, f2, hio, e4, hP, e5, hT, hV, hk1, h2, Ctl.on, hw2, e8, happ, hws, Int.toNat_natCast]

theorem both {n : Nat} (hn1 : 1 ≤ n) (hn6 : n ≤ 6) {ms : List Mv} (hms : ms.length ≤ 60) : ∀ r k, k + r = ms.length → ∀ (z : T10 Bl) (O P Tk V : List Int) (Q : List Mv) (K : List (Int × Int)) (ch : Int) (codes : List Int), Inv n k z O P Tk V Q K → codes.length = k →
    ∃ cs z' ch' O' P' Tk' V', whileM (F23_L0 ms) (codes, P, Tk, V, z, (n : Int), ch, (k : Int)) = some (.brk (cs, P', Tk', V', z', (n : Int), ch')) ∧
      whileM (F24_L0 (n : Int) ms) (Q, K, codes, O, P, Tk, V, ch, (k : Int)) = some (.brk (cs, O', P', Tk', V', ch')) ∧
      cs.length = ms.length ∧ P'.length = n ∧ Tk'.length = n ∧ V'.length = n := by
  intro r
  induction r with
  | zero =>
    intro k hk z O P Tk V Q K ch codes h hc
    obtain rfl : k = ms.length := by omega
    have hd : decide (((ms.length : Nat) : Int) < (ms.length : Int)) = false := by simp
    exact ⟨codes, z, ch, O, P, Tk, V, whileM_brk (by simp only [F23_L0, hd, cond_false]), whileM_brk (by simp only [F24_L0, hd, cond_false]), hc, h.lp, h.lt, h.lv⟩
  | succ r ih =>
    intro k hk z O P Tk V Q K ch codes h hc
    have hkl : k < ms.length := by omega
    have hg := List.getElem?_eq_getElem hkl
    obtain ⟨cd, z', ch', O', P', Tk', V', Q', K', h1, h2, h3⟩ := step hn1 hn6 hms hkl hg h ch hc
    obtain ⟨cs, z2, ch2, O2, P2, Tk2, V2, a1, a2, a3⟩ := ih (k + 1) (by omega) z' O' P' Tk' V' Q' K' ch' (codes ++ [cd]) h3 (by simp [hc])
    have hd : decide ((k : Int) < (ms.length : Int)) = true := by rw [decide_eq_true_eq]; omega
    refine ⟨cs, z2, ch2, O2, P2, Tk2, V2, ?_, ?_, a3⟩
    · rw [whileM_nxt (s' := (codes ++ [cd], P', Tk', V', z', (n : Int), ch', ((k + 1 : Nat) : Int)))]
      · exact a1
      · simp only [F23_L0, hd, cond_true, idx_some hg, Option.bind_some, h1, app1 8 (by omega) codes cd (by omega), w64_succ hkl (show ms.length ≤ 9223372036854775807 by omega)]
    · rw [whileM_nxt h2]; exact a2
theorem codes_self (l : List Int) (hl : l.length ≤ 9223372036854775807) : F18 l l = some true := by
  have h : whileM (F18_L0 l l) 0 = some (found () (scan (fun _ (_ : Int) => (none : Option Bool)) l 0)) := by
    refine while_scan hl _ (fun k e h => ?_) (by simp [F18_L0])
    have hk := lt_of_get h
    simp [F18_L0, idx_some h, hk, going]
  have hn : scan (fun _ (_ : Int) => (none : Option Bool)) l 0 = none := scan_none.2 fun _ _ _ => rfl
  unfold F18
  rw [h, hn]
  simp [found, Ctl.on]
theorem ints_self (l : List Int) (hl : l.length ≤ 9223372036854775807) : F25 l l = some true := by
  have h : whileM (F25_L0 l l) 0 = some (found () (scan (fun _ (_ : Int) => (none : Option Bool)) l 0)) := by
    refine while_scan hl _ (fun k e h => ?_) (by simp [F25_L0])
    have hk := lt_of_get h
    simp [F25_L0, idx_some h, hk, going]
  have hn : scan (fun _ (_ : Int) => (none : Option Bool)) l 0 = none := scan_none.2 fun _ _ _ => rfl
  unfold F25
  rw [h, hn]
  simp [found, Ctl.on]
theorem law_PaxosPlays (a0 : Int) (_ : i64 a0) (a1 : List Mv) (h : a1.length ≤ 9223372036854775807) (_ : ∀ x ∈ a1, i64 x.1 ∧ i64 x.2.1 ∧ i64 x.2.2.1 ∧ i64 x.2.2.2) : F5 a0 a1 = some true := by
  have n18 : F18 [] [] = some true := codes_self [] (by simp)
  have n25 : F25 [] [] = some true := ints_self [] (by simp)
  unfold F5 F23 F21
  cases c : (((decide (a0 < 1)) || (decide (a0 > 6))) || (decide ((a1.length : Int) > 60))) with
  | true => simp [n18, n25]
  | false =>
    simp only [Bool.or_eq_false_iff, decide_eq_false_iff_not] at c
    obtain ⟨n, rfl⟩ : ∃ n : Nat, a0 = n := ⟨a0.toNat, by omega⟩
    have m1 : mkl (n : Int) 8 (0 : Int) = some (List.replicate n 0) := by unfold mkl; rw [if_pos ⟨by omega, by omega, by omega⟩]; simp
    have m2 : mkl 10 8 (0 : Int) = some (List.replicate 10 0) := by unfold mkl; rw [if_pos ⟨by omega, by omega, by omega⟩]; rfl
    have hz0 : ∀ b, b < 10 → bi ((0, 0, 0, 0, 0), (0, 0, 0, 0, 0), (0, 0, 0, 0, 0), (0, 0, 0, 0, 0), (0, 0, 0, 0, 0), (0, 0, 0, 0, 0), (0, 0, 0, 0, 0), (0, 0, 0, 0, 0), (0, 0, 0, 0, 0), (0, 0, 0, 0, 0)) b = (0, 0, 0, 0, 0) := by decide
    have hr0 : ∀ m i, i < m → vi (List.replicate m 0) i = 0 := fun m i hi => by unfold vi; rw [List.getD_eq_getElem?_getD, List.getElem?_replicate]; simp [hi]
    obtain ⟨cs, z', ch', O', P', Tk', V', w1, w2, l1, l2, l3, l4⟩ := both (n := n) (by omega) (by omega) (ms := a1) (by omega) a1.length 0 (by omega) ((0, 0, 0, 0, 0), (0, 0, 0, 0, 0), (0, 0, 0, 0, 0), (0, 0, 0, 0, 0), (0, 0, 0, 0, 0), (0, 0, 0, 0, 0), (0, 0, 0, 0, 0), (0, 0, 0, 0, 0), (0, 0, 0, 0, 0), (0, 0, 0, 0, 0)) (List.replicate 10 0) (List.replicate n 0) (List.replicate n 0) (List.replicate n 0) [] [] (-1) []
      ⟨by simp, by simp, by simp, by simp, by simp, by simp, fun b hb => by rw [hz0 b hb, hr0 10 b hb], fun b hb i => by rw [hz0 b hb]; simp, fun b hb i => by rw [hz0 b hb]; simp, fun b hb => by rw [hz0 b hb]; exact ⟨rfl, rfl, rfl⟩, fun q hq => by simp at hq, fun q hq => by simp at hq⟩ rfl
    have w1' : whileM (F23_L0 a1) ([], List.replicate n 0, List.replicate n 0, List.replicate n 0, ((0, 0, 0, 0, 0), (0, 0, 0, 0, 0), (0, 0, 0, 0, 0), (0, 0, 0, 0, 0), (0, 0, 0, 0, 0), (0, 0, 0, 0, 0), (0, 0, 0, 0, 0), (0, 0, 0, 0, 0), (0, 0, 0, 0, 0), (0, 0, 0, 0, 0)), (n : Int), -1, 0) = _ := w1
    have w2' : whileM (F24_L0 (n : Int) a1) ([], [], [], List.replicate 10 0, List.replicate n 0, List.replicate n 0, List.replicate n 0, -1, 0) = _ := w2
    have h24 : F24 (n : Int) a1 = some (cs, ch', P', Tk', V') := by
      unfold F24
      simp only [m1, m2, Option.bind_some, w2', Ctl.on]
    simp only [m1, h24, Option.bind_some, w1', Ctl.on, cond_false, cond_true, beq_self_eq_true, codes_self cs (by omega), ints_self P' (by omega), ints_self Tk' (by omega), ints_self V' (by omega), Bool.and_true, Bool.true_and]
end Go.Proofs.Ythfkdepcnhhepaa
