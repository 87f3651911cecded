/-
  The plain law of ElectPlays.
-/
import Derived.Test.YthfkdepcnhhepaaSM
import Derived.Test.YthfkdepcnhhepaaPw
import Derived.Test.YthfkdepcnhhepaaBk6
namespace Go.Proofs.Ythfkdepcnhhepaa
open Go Go.Bk
set_option linter.unusedVariables false
set_option linter.unusedSimpArgs false
set_option linter.unusedSectionVars false

abbrev Mv := Int × Int × Int × Int
abbrev One := Int × Int × Int × BitVec 32
abbrev Vr := Int × Int × Int × List Int × List (Int × Int) × Int × List Int × List Int
def ge {α : Type} (d : α) (l : List α) (j : Nat) : α := l.getD j d
theorem get_ge {α : Type} (d : α) {l : List α} {j : Nat} (h : j < l.length) : l[j]? = some (ge d l j) := by simp [ge, List.getD_eq_getElem?_getD, List.getElem?_eq_getElem h]
theorem idx_ge {α : Type} (d : α) {l : List α} {j : Nat} (h : j < l.length) : idx l (j : Int) = some (ge d l j) := idx_some (get_ge d h)
theorem ge_set {α : Type} {d : α} {l : List α} {i b : Nat} {v : α} (hi : i < l.length) : ge d (l.set i v) b = if b = i then v else ge d l b := by
  unfold ge
  rw [List.getD_eq_getElem?_getD, List.getD_eq_getElem?_getD, List.getElem?_set]
  by_cases c : i = b
  · subst c; simp [hi]
  · have : ¬ b = i := fun e => c e.symm
    simp [c, this]
theorem ge_rep {α : Type} (d v : α) {n i : Nat} (h : i < n) : ge d (List.replicate n v) i = v := by
  unfold ge; rw [List.getD_eq_getElem?_getD, List.getElem?_replicate]; simp [h]
theorem w64i {x : Int} (h0 : -9000000000 ≤ x) (h1 : x ≤ 9000000000) : w64 x = x := w64_of (by omega) (by omega)
theorem app1 {α : Type} (b : Nat) (hb : b ≤ 128) (l : List α) (z : α) (h : l.length ≤ 60) : appl b l [z] = some (l ++ [z]) := by
  unfold appl; rw [if_pos]
  simp
  have : (l.length + 1) * b ≤ 61 * 128 := Nat.mul_le_mul (by omega) hb
  omega
theorem idx_setG {α : Type} {l : List α} {j : Nat} (h : j < l.length) (v : α) : idx (l.set j v) (j : Int) = some v := idx_some (by rw [List.getElem?_set_self h])
theorem idx_setN {α : Type} (d : α) {l : List α} {i j : Nat} (h : j < l.length) (hi : i < l.length) (v : α) : idx (l.set i v) (j : Int) = some (if j = i then v else ge d l j) := by
  rw [idx_ge d (by simpa using h), ge_set hi]
theorem mkl_rep {α : Type} {n b : Nat} (hn : n ≤ 6) (hb : b ≤ 128) (z : α) : mkl (n : Int) b z = some (List.replicate n z) := by
  unfold mkl
  rw [if_pos]; simp
  refine ⟨by omega, ?_, by omega⟩
  have : (b : Int) * (n : Int) ≤ 128 * 6 := Int.mul_le_mul (by omega) (by omega) (by omega) (by omega)
  omega
theorem nat_of {a : Int} (h : 0 ≤ a) : ∃ c : Nat, a = (c : Int) := ⟨a.toNat, by omega⟩
theorem while_ex {σ τ β ρ : Type} {body : σ → Option (Ctl σ β ρ)} (S : Nat → τ → σ) (n : Nat) (out : τ → β) (I : Nat → τ → Prop)
    (hstep : ∀ k t, k < n → I k t → ∃ t', body (S k t) = some (.nxt (S (k + 1) t')) ∧ I (k + 1) t') (hend : ∀ t, I n t → body (S n t) = some (.brk (out t))) (t : τ) (h0 : I 0 t) :
    ∃ t', whileM body (S 0 t) = some (.brk (out t')) ∧ I n t' := by
  have key : ∀ m k t, k + m = n → I k t → ∃ t', whileM body (S k t) = some (.brk (out t')) ∧ I n t' := by
    intro m
    induction m with
    | zero =>
      intro k t hk hI
      obtain rfl : k = n := by omega
      exact ⟨t, whileM_brk (hend t hI), hI⟩
    | succ m ih =>
      intro k t hk hI
      obtain ⟨t', h1, h2⟩ := hstep k t (by omega) hI
      rw [whileM_nxt h1]
      exact ih (k + 1) t' (by omega) h2
  exact key n 0 t (by omega) h0
theorem nodup_le : ∀ {l m : List Int}, l.Nodup → (∀ x ∈ l, x ∈ m) → l.length ≤ m.length
  | [], m, _, _ => by simp
  | x :: l, m, h, s => by
    rw [List.nodup_cons] at h
    have hx : x ∈ m := s x (by simp)
    have := nodup_le (l := l) (m := m.erase x) h.2 fun y hy => (List.mem_erase_of_ne (fun e => h.1 (by rw [← e]; exact hy))).2 (s y (by simp [hy]))
    rw [List.length_erase_of_mem hx] at this
    have : 0 < m.length := List.length_pos_of_mem hx
    simp; omega
theorem has_val (l : List Int) (hl : l.length ≤ 1000) (a : Int) : F66 l a = some (decide (a ∈ l)) := by
  have h : whileM (F66_L0 l a) 0 = some (found () (cond (l.any (fun e => a == e)) (some true) none)) := by
    rw [← scan_any (k := 0)]
    refine while_scan (by omega) _ (fun k e h => ?_) (by simp [F66_L0])
    have hk := lt_of_get h
    have hd : decide ((k : Int) < (l.length : Int)) = true := by rw [decide_eq_true_eq]; omega
    cases c : (a == e) <;> (simp only [F66_L0, idx_some h, hd, c, going, Option.bind_some, cond_true, cond_false]; simp)
  have e : l.any (fun e => a == e) = decide (a ∈ l) := by
    rw [Bool.eq_iff_iff, List.any_eq_true, decide_eq_true_eq]
    constructor
    · rintro ⟨x, hx, e⟩; rw [beq_iff_eq] at e; rw [e]; exact hx
    · intro h; exact ⟨a, h, by simp⟩
  unfold F66
  rw [h, e]
  cases c : decide (a ∈ l) <;> simp [found, Ctl.on]

/-! How many bits. -/
def c6 (w : BitVec 32) : Nat := (List.range 6).countP fun i => w.getLsbD i
theorem f129_small : ∀ v, v < 64 → F129 (BitVec.ofNat 32 v) = some ((c6 (BitVec.ofNat 32 v) : Nat) : Int) := by decide +kernel
theorem f129_val {w : BitVec 32} (h : ∀ b, w.getLsbD b = true → b < 6) : F129 w = some (c6 w : Int) := by
  have hs : w.toNat < 64 := by
    refine Classical.byContradiction fun q => ?_
    obtain ⟨b, hb, h2⟩ := Nat.exists_ge_and_testBit_of_ge_two_pow (n := 6) (x := w.toNat) (by omega)
    have := h b (by rw [BitVec.getLsbD]; exact h2)
    omega
  have hw : w = BitVec.ofNat 32 w.toNat := by simp
  have := f129_small w.toNat hs
  rw [← hw] at this; exact this
/-- A word and a list of the same numbers. -/
structure Same (n : Nat) (w : BitVec 32) (l : List Int) : Prop where
  nd : l.Nodup
  low : ∀ b ∈ l, ∃ c : Nat, c < n ∧ b = (c : Int)
  bit : ∀ b, w.getLsbD b = true ↔ (b : Int) ∈ l
theorem Same.len {n : Nat} (hn : n ≤ 6) {w : BitVec 32} {l : List Int} (h : Same n w l) : F129 w = some (l.length : Int) := by
  rw [f129_val (fun b hb => by obtain ⟨c, hc, e⟩ := h.low _ ((h.bit b).1 hb); omega)]
  have e : c6 w = l.length := by
    unfold c6
    rw [List.countP_eq_length_filter]
    have hA : ((List.range 6).filter fun i => w.getLsbD i).length = (((List.range 6).filter fun i => w.getLsbD i).map (fun i : Nat => (i : Int))).length := by simp
    rw [hA]
    refine Nat.le_antisymm (nodup_le ?_ ?_) (nodup_le h.nd ?_)
    · exact List.Pairwise.map _ (fun a b e q => e (by exact_mod_cast q)) ((List.filter_sublist).nodup List.nodup_range)
    · intro x hx
      obtain ⟨b, hb, rfl⟩ := List.mem_map.1 hx
      exact (h.bit b).1 (List.mem_filter.1 hb).2
    · intro x hx
      obtain ⟨c, hc, rfl⟩ := h.low x hx
      exact List.mem_map.2 ⟨c, List.mem_filter.2 ⟨List.mem_range.2 (by omega), (h.bit c).2 hx⟩, rfl⟩
  rw [e]
theorem Same.zero {n : Nat} : Same n 0#32 [] := ⟨List.nodup_nil, fun b h => (by cases h), fun b => by simp⟩
theorem Same.le {n : Nat} {w : BitVec 32} {l : List Int} (h : Same n w l) : l.length ≤ n := by
  have : l.length ≤ ((List.range n).map (fun i : Nat => (i : Int))).length := nodup_le h.nd fun x hx => by
    obtain ⟨c, hc, rfl⟩ := h.low x hx
    exact List.mem_map.2 ⟨c, List.mem_range.2 hc, rfl⟩
  simpa using this
theorem Same.old {n b : Nat} (hb : b < 32) {w : BitVec 32} {l : List Int} (h : Same n w l) (hm : (b : Int) ∈ l) : Same n (w ||| (1#32 <<< b)) l := by
  have : w ||| (1#32 <<< b) = w := by
    apply BitVec.eq_of_getLsbD_eq
    intro i hi
    rw [BitVec.getLsbD_or, bit_one hb]
    by_cases e : i = b
    · subst e; simp [(h.bit i).2 hm]
    · simp [e]
  rw [this]; exact h
theorem Same.new {n b : Nat} (hb : b < n) (hn : n ≤ 6) {w : BitVec 32} {l : List Int} (h : Same n w l) (hm : (b : Int) ∉ l) : Same n (w ||| (1#32 <<< b)) (l ++ [(b : Int)]) := by
  refine ⟨?_, ?_, ?_⟩
  · rw [List.nodup_append]
    exact ⟨h.nd, by simp, fun a ha c hc => by simp at hc; subst hc; exact fun e => hm (e ▸ ha)⟩
  · intro x hx
    rcases List.mem_append.1 hx with hx | hx
    · exact h.low x hx
    · simp at hx; exact ⟨b, hb, hx⟩
  · intro i
    rw [BitVec.getLsbD_or, bit_one (by omega), Bool.or_eq_true, h.bit i, List.mem_append, List.mem_singleton, decide_eq_true_eq]
    exact or_congr Iff.rfl (by omega)

/-! What both hold. -/
abbrev d1 : One := (0, 0, 0, 0)
abbrev d2 : Vr := (0, 0, 0, [], [], 0, [], [])
structure R (n k : Nat) (x : One) (y : Vr) : Prop where
  term : y.1 = x.1
  role : y.2.1 = x.2.1
  vote : y.2.2.1 = x.2.2.1
  by' : Same n x.2.2.2 y.2.2.2.1
  log : y.2.2.2.2.1 = []
  t0 : 0 ≤ x.1
  t1 : x.1 ≤ (k : Int)
structure Inv (n k : Nat) (G : List One) (V : List Vr) : Prop where
  lg : G.length = n
  lv : V.length = n
  r : ∀ i, i < n → R n k (ge d1 G i) (ge d2 V i)
theorem R.up {n k : Nat} {x : One} {y : Vr} (h : R n k x y) : R n (k + 1) x y := { h with t1 := by have := h.t1; push_cast; omega }
section
variable {n k : Nat} {G : List One} {V : List Vr}
theorem Inv.up (h : Inv n k G V) : Inv n (k + 1) G V := ⟨h.lg, h.lv, fun i hi => (h.r i hi).up⟩
theorem Inv.set (h : Inv n k G V) {i : Nat} (hi : i < n) {x : One} {y : Vr} (hr : R n k x y) : Inv n k (G.set i x) (V.set i y) := by
  refine ⟨by rw [List.length_set]; exact h.lg, by rw [List.length_set]; exact h.lv, fun j hj => ?_⟩
  rw [ge_set (by rw [h.lg]; exact hi), ge_set (by rw [h.lv]; exact hi)]
  by_cases e : j = i
  · simp only [if_pos e]; exact hr
  · simp only [if_neg e]; exact h.r j hj
/-- A greater term. -/
theorem know_both (h : Inv n k G V) {i : Nat} (hi : i < n) {t : Int} (h0 : 0 ≤ t) (h1 : t ≤ (k : Int)) : ∃ G' V', F137 G (i : Int) t = some G' ∧ F113 V (i : Int) t = some V' ∧ Inv n k G' V' := by
  have ig := idx_ge d1 (l := G) (j := i) (by rw [h.lg]; exact hi)
  have iv := idx_ge d2 (l := V) (j := i) (by rw [h.lv]; exact hi)
  have hiv : i < V.length := by rw [h.lv]; exact hi
  have r := h.r i hi
  by_cases c : (ge d1 G i).1 < t
  · refine ⟨G.set i (t, 0, -1, 0#32), V.set i (t, 0, -1, [], (ge d2 V i).2.2.2.2), by simp [F137, ig, c], by simp [F113, iv, r.term, c, idx_setG hiv, List.set_set], h.set hi ⟨rfl, rfl, rfl, Same.zero, r.log, h0, h1⟩⟩
  · exact ⟨G, V, by simp [F137, ig, c], by simp [F113, iv, r.term, c], h⟩
theorem led_loop {i : Nat} (hi : i < n) (hn : n ≤ 6) (hv : V.length = n) (a b c : Int) (by_ : List Int) (lg : List (Int × Int)) (s : Int) (hs nx : List Int) (hnx : nx.length = n) :
    ∃ nx', whileM (F112_L0 (i : Int)) (V.set i (a, b, c, by_, lg, s, hs, nx), 0) = some (.brk (V.set i (a, b, c, by_, lg, s, hs, nx'))) := by
  have hiv : i < V.length := by omega
  obtain ⟨t, h1, _⟩ := while_ex (body := F112_L0 (i : Int)) (fun k nx => (V.set i (a, b, c, by_, lg, s, hs, nx), (k : Int))) n (fun nx => V.set i (a, b, c, by_, lg, s, hs, nx)) (fun _ nx => nx.length = n)
    (fun k nx hk hl => by
      refine ⟨nx.set k (lg.length : Int), ?_, by rw [List.length_set]; exact hl⟩
      have hd : decide ((k : Int) < ((V.set i (a, b, c, by_, lg, s, hs, nx)).length : Int)) = true := by rw [decide_eq_true_eq, List.length_set]; omega
      have hnk := idx_ge (0 : Int) (l := nx) (j := k) (by omega)
      simp only [F112_L0, hd, cond_true, idx_setG hiv, Option.bind_some, hnk, List.set_set, Int.toNat_natCast, w64_succ hk (by omega)])
    (fun nx hl => by
      have hd : decide ((n : Int) < ((V.set i (a, b, c, by_, lg, s, hs, nx)).length : Int)) = false := by rw [decide_eq_false_iff_not, List.length_set]; omega
      simp only [F112_L0, hd, cond_false]) nx hnx
  exact ⟨t, h1⟩
/-- A vote. -/
theorem count_both (h : Inv n k G V) {i b : Nat} (hi : i < n) (hb : b < n) (hn : n ≤ 6) {led : List (Int × Int)} (hl : led.length ≤ 60) :
    ∃ G' V' led', F136 (G, led) (i : Int) (b : Int) = some (G', led') ∧ F112 (V, led) (i : Int) (b : Int) = some (V', led') ∧ Inv n k G' V' ∧ led'.length ≤ led.length + 1 := by
  have hig : i < G.length := by rw [h.lg]; exact hi
  have hiv : i < V.length := by rw [h.lv]; exact hi
  have ig := idx_ge d1 hig
  have iv := idx_ge d2 hiv
  have r := h.r i hi
  rcases hx : ge d1 G i with ⟨t', ro', vo', w⟩
  rcases hy : ge d2 V i with ⟨t, ro, vo, l, lg, su, hs, nx⟩
  rw [hx] at ig r
  rw [hy] at iv r
  obtain ⟨e1, e2, e3, hs', e5, h0, h1⟩ := r
  simp only at e1 e2 e3 hs' e5 h0 h1
  subst e1; subst e2; subst e3; subst e5
  have hle := hs'.le
  have hhas := has_val l (by omega) (b : Int)
  have glen : ((G.set i (t, ro, vo, w ||| (1#32 <<< b))).length : Int) = n := by rw [List.length_set, h.lg]
  have m8 := mkl_rep hn (show 8 ≤ 128 by decide) (0 : Int)
  have ap := app1 16 (by decide) led (t, (i : Int)) hl
  -- the new list
  obtain ⟨l', hl', hsame, hV1⟩ : ∃ l', (if (b : Int) ∈ l then l else l ++ [(b : Int)]) = l' ∧ Same n (w ||| (1#32 <<< b)) l' ∧ True := by
    by_cases hm : (b : Int) ∈ l
    · exact ⟨l, if_pos hm, hs'.old (by omega) hm, trivial⟩
    · exact ⟨l ++ [(b : Int)], if_neg hm, hs'.new hb hn hm, trivial⟩
  have hl6 := hsame.le
  have hpop := hsame.len hn
  have hw1 : w64 (2 * (l'.length : Int)) = 2 * (l'.length : Int) := w64i (by omega) (by omega)
  have hw2 : w64 ((l'.length : Int) * 2) = (l'.length : Int) * 2 := w64i (by omega) (by omega)
  -- the reference's first part
  have first : ∀ (K : List Vr → Option (List Vr × List (Int × Int))), (Option.bind (α := List Vr) (cond (!(decide ((b : Int) ∈ l))) (Option.bind (appl 8 l ([(b : Int)] : List Int)) fun (y19 : List Int) => some (V.set i (t, ro, vo, y19, [], su, hs, nx))) (some V)) K) = K (V.set i (t, ro, vo, l', [], su, hs, nx)) := fun K => by
    by_cases hm : (b : Int) ∈ l
    · rw [if_pos hm] at hl'; subst hl'
      have : V.set i (t, ro, vo, l, [], su, hs, nx) = V := by
        apply List.ext_getElem?
        intro j
        rw [List.getElem?_set]
        by_cases e : i = j
        · subst e; rw [if_pos rfl, if_pos hiv, get_ge d2 hiv, hy]
        · rw [if_neg e]
      simp [hm, this]
    · rw [if_neg hm] at hl'; subst hl'
      simp [hm, app1 8 (by decide) l (b : Int) (by omega)]
  have vl : ((V.set i (t, ro, vo, l', [], su, hs, nx)).length : Int) = n := by rw [List.length_set, h.lv]
  by_cases hro : ro = 1
  · subst hro
    by_cases c : (n : Int) < 2 * (l'.length : Int)
    · obtain ⟨nx', hloop⟩ := led_loop (V := V) hi hn h.lv t 2 vo l' [] su (List.replicate n 0) (List.replicate n 0) (by simp)
      have c2 : (n : Int) < (l'.length : Int) * 2 := by omega
      refine ⟨G.set i (t, 2, vo, w ||| (1#32 <<< b)), V.set i (t, 2, vo, l', [], su, List.replicate n 0, nx'), led ++ [(t, (i : Int))], ?_, ?_, h.set hi ⟨rfl, rfl, rfl, hsame, rfl, h0, h1⟩, by simp⟩
      · simp [F136, ig, shc_nat, idx_setG hig, hpop, hw1, h.lg, c, ap, List.set_set]
      · unfold F112
        simp only [iv, Option.bind_some, hhas, Int.toNat_natCast]
        rw [first]
        simp [idx_setG hiv, hw2, h.lv, c2, ap, List.set_set, m8, hloop, Ctl.on]
    · have c2 : ¬ (n : Int) < (l'.length : Int) * 2 := by omega
      refine ⟨G.set i (t, 1, vo, w ||| (1#32 <<< b)), V.set i (t, 1, vo, l', [], su, hs, nx), led, ?_, ?_, h.set hi ⟨rfl, rfl, rfl, hsame, rfl, h0, h1⟩, by simp⟩
      · simp [F136, ig, shc_nat, idx_setG hig, hpop, hw1, h.lg, c]
      · unfold F112
        simp only [iv, Option.bind_some, hhas, Int.toNat_natCast]
        rw [first]
        simp [idx_setG hiv, hw2, h.lv, c2]
  · have q : (ro == 1) = false := by simpa using hro
    refine ⟨G.set i (t, ro, vo, w ||| (1#32 <<< b)), V.set i (t, ro, vo, l', [], su, hs, nx), led, ?_, ?_, h.set hi ⟨rfl, rfl, rfl, hsame, rfl, h0, h1⟩, by simp⟩
    · simp [F136, ig, shc_nat, idx_setG hig, q]
    · unfold F112
      simp only [iv, Option.bind_some, hhas, Int.toNat_natCast]
      rw [first]
      simp [idx_setG hiv, q]
end

/-! One move. -/
section
variable {n k : Nat} {G : List One} {V : List Vr} {led : List (Int × Int)} {x : Mv}
def Both (n k : Nat) (G : List One) (V : List Vr) (led : List (Int × Int)) (x : Mv) : Prop :=
  ∃ (e : Int) (G' : List One) (V' : List Vr) (led' : List (Int × Int)), F75 (G, led) x = some (e, (G', led')) ∧ F77 (V, led) x false = some (e, (V', led')) ∧ Inv n (k + 1) G' V' ∧ led'.length ≤ k + 1
variable (h : Inv n k G V) (hn : n ≤ 6) (hk : k < 60) (hl : led.length ≤ k)
include h hn hk hl
theorem wrongKind (c : ((((!((x.1 == 2) || (x.1 == 3))) && (x.1 != 1)) && (x.1 != 6))) = true) : Both n k G V led x := by
  have c2 : (((decide (x.1 < 1)) || (decide (x.1 > 6))) || ((!false) && ((x.1 == 4) || (x.1 == 5)))) = true := by
    simp only [Bool.and_eq_true, Bool.not_eq_true', Bool.or_eq_false_iff, beq_eq_false_iff_ne, bne_iff_ne, Bool.or_eq_true, decide_eq_true_eq, beq_iff_eq, Bool.not_false, true_and] at c ⊢
    omega
  exact ⟨6, G, V, led, by simp only [F75, c, cond_true], by simp only [F77, c2, cond_true], h.up, by omega⟩
theorem kinds (c : ((((!((x.1 == 2) || (x.1 == 3))) && (x.1 != 1)) && (x.1 != 6))) = false) : (x.1 = 1 ∨ x.1 = 2 ∨ x.1 = 3 ∨ x.1 = 6) ∧ (((decide (x.1 < 1)) || (decide (x.1 > 6))) || ((!false) && ((x.1 == 4) || (x.1 == 5)))) = false := by
  have c1 : x.1 = 1 ∨ x.1 = 2 ∨ x.1 = 3 ∨ x.1 = 6 := by
    simp only [Bool.and_eq_false_iff, Bool.not_eq_false', Bool.or_eq_true, beq_iff_eq, bne_eq_false_iff_eq] at c
    omega
  refine ⟨c1, ?_⟩
  rcases c1 with e | e | e | e <;> rw [e] <;> rfl
omit hn hk hl in
/-- Is it wrong? Both say the same. -/
theorem args {two : Bool} : ∃ bad : Bool, (Option.bind (F107 x.2.1 G.length) fun r11 => Option.bind (cond (r11) (some true) (Option.bind (cond two (Option.bind (F107 x.2.2.1 G.length) fun r19 => some (r19 || (x.2.1 == x.2.2.1))) (some false)) fun b17 => some b17)) fun b14 => some b14) = some bad ∧
    F57 (V.length : Int) (x.1, x.2.1, x.2.2.1, x.2.2.2) two = some (!bad) ∧ (bad = false → 0 ≤ x.2.1 ∧ x.2.1 < (n : Int) ∧ (two = true → 0 ≤ x.2.2.1 ∧ x.2.2.1 < (n : Int) ∧ x.2.2.1 ≠ x.2.1)) := by
  unfold F107 F57
  rw [h.lg, h.lv]
  cases c : ((decide (x.2.1 < 0)) || (decide (x.2.1 ≥ (n : Int)))) with
  | true => exact ⟨true, by simp, by simp, fun e => by cases e⟩
  | false =>
    simp only [Bool.or_eq_false_iff, decide_eq_false_iff_not] at c
    cases two with
    | false => exact ⟨false, by simp, by simp, fun _ => ⟨by omega, by omega, fun e => by cases e⟩⟩
    | true =>
      refine ⟨((decide (x.2.2.1 < 0)) || (decide (x.2.2.1 ≥ (n : Int)))) || (x.2.1 == x.2.2.1), by simp, ?_, fun e => ?_⟩
      · simp only [cond_false, Bool.not_true, Bool.false_or, Option.some.injEq]
        rw [Bool.eq_iff_iff]
        simp only [Bool.and_eq_true, decide_eq_true_eq, bne_iff_ne, Bool.not_eq_true', Bool.or_eq_false_iff, decide_eq_false_iff_not, beq_eq_false_iff_ne]
        omega
      · simp only [Bool.or_eq_false_iff, decide_eq_false_iff_not, beq_eq_false_iff_ne] at e
        exact ⟨by omega, by omega, fun _ => ⟨by omega, by omega, fun q => e.2 q.symm⟩⟩
theorem stands {i : Nat} {a b : Int} (hx : x = (1, (i : Int), a, b)) (hi : i < n) : Both n k G V led x := by
  subst hx
  have hig : i < G.length := by rw [h.lg]; exact hi
  have hiv : i < V.length := by rw [h.lv]; exact hi
  have ig := idx_ge d1 hig
  have iv := idx_ge d2 hiv
  have r := h.r i hi
  have e107 : F107 (i : Int) G.length = some false := by unfold F107; rw [h.lg]; simp; omega
  have e57 : F57 (V.length : Int) (1, (i : Int), a, b) false = some true := by
    have f1 : ¬ n ≤ i := by omega
    have f2 : ¬ (i : Int) < 0 := by omega
    unfold F57; rw [h.lv]; simp [f1, f2]
  by_cases c : (ge d1 G i).2.1 = 2
  · have c2 : (ge d2 V i).2.1 = 2 := by rw [r.role]; exact c
    exact ⟨7, G, V, led, by simp [F75, F108, e107, ig, c], by simp [F77, e57, iv, c2], h.up, by omega⟩
  · have c2 : ¬ (ge d2 V i).2.1 = 2 := by rw [r.role]; exact c
    have c3 : ((ge d1 G i).2.1 == 2) = false := by simpa using c
    have c4 : ((ge d2 V i).2.1 == 2) = false := by simpa using c2
    have ht := r.t1
    have h0 := r.t0
    have hw : w64 ((ge d1 G i).1 + 1) = (ge d1 G i).1 + 1 := w64i (by omega) (by omega)
    have I : Inv n (k + 1) (G.set i ((ge d1 G i).1 + 1, 1, (i : Int), 0#32)) (V.set i ((ge d1 G i).1 + 1, 1, (i : Int), [], (ge d2 V i).2.2.2.2)) :=
      h.up.set hi ⟨rfl, rfl, rfl, Same.zero, r.log, by show 0 ≤ (ge d1 G i).1 + 1; omega, by show (ge d1 G i).1 + 1 ≤ ((k + 1 : Nat) : Int); push_cast; omega⟩
    obtain ⟨G', V', led', q1, q2, q3, q4⟩ := count_both I hi hi hn (led := led) (by omega)
    refine ⟨0, G', V', led', ?_, ?_, q3, by omega⟩
    · simp [F75, F108, e107, ig, c3, hw, q1]
    · simp [F77, e57, iv, c4, r.term, hw, idx_setG hiv, List.set_set, q2]
theorem crashes {i : Nat} {a b : Int} (hx : x = (6, (i : Int), a, b)) (hi : i < n) : Both n k G V led x := by
  subst hx
  have hig : i < G.length := by rw [h.lg]; exact hi
  have hiv : i < V.length := by rw [h.lv]; exact hi
  have ig := idx_ge d1 hig
  have iv := idx_ge d2 hiv
  have r := h.r i hi
  have e107 : F107 (i : Int) G.length = some false := by unfold F107; rw [h.lg]; simp; omega
  have e57 : F57 (V.length : Int) (6, (i : Int), a, b) false = some true := by
    have f1 : ¬ n ≤ i := by omega
    have f2 : ¬ (i : Int) < 0 := by omega
    unfold F57; rw [h.lv]; simp [f1, f2]
  refine ⟨0, G.set i ((ge d1 G i).1, 0, (ge d1 G i).2.2.1, 0#32), V.set i ((ge d2 V i).1, 0, (ge d2 V i).2.2.1, [], (ge d2 V i).2.2.2.2.1, 0, (ge d2 V i).2.2.2.2.2.2), led, ?_, ?_, h.up.set hi ⟨r.term, rfl, r.vote, Same.zero, r.log, r.up.t0, r.up.t1⟩, by omega⟩
  · simp [F75, F111, e107, ig, idx_setG hig, List.set_set]
  · simp [F77, e57, iv, idx_setG hiv, List.set_set]
theorem votes {i j : Nat} {b : Int} (hx : x = (2, (i : Int), (j : Int), b)) (hi : i < n) (hj : j < n) (hij : j ≠ i) : Both n k G V led x := by
  subst hx
  have hig : i < G.length := by rw [h.lg]; exact hi
  have hiv : i < V.length := by rw [h.lv]; exact hi
  have hjg : j < G.length := by rw [h.lg]; exact hj
  have hjv : j < V.length := by rw [h.lv]; exact hj
  have jg := idx_ge d1 hjg
  have jv := idx_ge d2 hjv
  have iv0 := idx_ge d2 hiv
  have r := h.r j hj
  have e107 : F107 (i : Int) G.length = some false := by unfold F107; rw [h.lg]; simp; omega
  have e107j : F107 (j : Int) G.length = some false := by unfold F107; rw [h.lg]; simp; omega
  have hne : ((i : Int) == (j : Int)) = false := by simp; omega
  have hne2 : ¬ (i : Int) = (j : Int) := by omega
  have e57 : F57 (V.length : Int) (2, (i : Int), (j : Int), b) true = some true := by
    have f1 : ¬ n ≤ i := by omega
    have f2 : ¬ (i : Int) < 0 := by omega
    have f3 : ((j : Int) != (i : Int)) = true := by simp; omega
    unfold F57; rw [h.lv]; simp [f1, f2, f3, hj]
  by_cases c : (ge d1 G j).2.1 = 1
  · have c1 : ((ge d1 G j).2.1 != 1) = false := by simp [c]
    have c2 : ((ge d2 V j).2.1 != 1) = false := by rw [r.role]; exact c1
    obtain ⟨G1, V1, q1, q2, I1⟩ := know_both h.up hi (t := (ge d1 G j).1) r.t0 (by have := r.t1; push_cast; omega)
    have ig1 := idx_ge d1 (l := G1) (j := i) (by rw [I1.lg]; exact hi)
    have iv1 := idx_ge d2 (l := V1) (j := i) (by rw [I1.lv]; exact hi)
    have jg1 := idx_ge d1 (l := G1) (j := j) (by rw [I1.lg]; exact hj)
    have jv1 := idx_ge d2 (l := V1) (j := j) (by rw [I1.lv]; exact hj)
    have ri := I1.r i hi
    have rj := I1.r j hj
    by_cases c3 : (ge d1 G1 j).1 < (ge d1 G1 i).1
    · obtain ⟨G2, V2, q3, q4, I2⟩ := know_both I1 hj (t := (ge d1 G1 i).1) ri.t0 ri.t1
      refine ⟨8, G2, V2, led, ?_, ?_, I2, by omega⟩
      · simp [F75, F109, e107, e107j, hne, hne2, jg, c1, q1, ig1, jg1, c3, q3]
      · simp [F77, e57, iv0, jv, c2, r.term, q2, iv1, jv1, ri.term, rj.term, c3, q4]
    · have c3' : decide ((ge d1 G1 i).1 > (ge d1 G1 j).1) = false := by simpa using c3
      by_cases c4 : 0 ≤ (ge d1 G1 i).2.2.1 ∧ (ge d1 G1 i).2.2.1 ≠ (j : Int)
      · have d4 : decide ((ge d1 G1 i).2.2.1 ≥ 0) = true := by simpa using c4.1
        have d5 : ((ge d1 G1 i).2.2.1 != (j : Int)) = true := by simpa using c4.2
        refine ⟨7, G1, V1, led, ?_, ?_, I1, by omega⟩
        · simp [F75, F109, e107, e107j, hne, hne2, jg, c1, q1, ig1, jg1, c3, c4.1, c4.2, d5]
        · simp [F77, e57, iv0, jv, c2, r.term, q2, iv1, jv1, ri.term, rj.term, ri.vote, c3, c4.1, c4.2, d5]
      · have c5 : (decide ((ge d1 G1 i).2.2.1 ≥ 0) && ((ge d1 G1 i).2.2.1 != (j : Int))) = false := by
          cases q : (decide ((ge d1 G1 i).2.2.1 ≥ 0) && ((ge d1 G1 i).2.2.1 != (j : Int))) with
          | false => rfl
          | true => simp only [Bool.and_eq_true, decide_eq_true_eq, bne_iff_ne] at q; exact absurd q c4
        have c6 : (cond (decide ((ge d1 G1 i).2.2.1 ≥ 0)) (some ((ge d1 G1 i).2.2.1 != (j : Int))) (some false)) = some false := by
          cases q : decide ((ge d1 G1 i).2.2.1 ≥ 0) <;> rw [q] at c5 <;> simp at c5 ⊢
          exact c5
        have I2 : Inv n (k + 1) (G1.set i ((ge d1 G1 i).1, (ge d1 G1 i).2.1, (j : Int), (ge d1 G1 i).2.2.2)) (V1.set i ((ge d2 V1 i).1, (ge d2 V1 i).2.1, (j : Int), (ge d2 V1 i).2.2.2)) :=
          I1.set hi ⟨ri.term, ri.role, rfl, ri.by', ri.log, ri.t0, ri.t1⟩
        obtain ⟨G', V', led', q5, q6, q7, q8⟩ := count_both I2 hj hi hn (led := led) (by omega)
        refine ⟨0, G', V', led', ?_, ?_, q7, by omega⟩
        · simp only [F75, F109, e107, e107j, hne, jg, c1, q1, ig1, jg1, c3', c5, Option.bind_some, cond_true, cond_false, Bool.or_false, Bool.not_true, Int.toNat_natCast, q5, beq_self_eq_true, show ((2 : Int) == 3) = false from rfl, show ((2 : Int) == 1) = false from rfl, show ((2 : Int) != 1) = true from rfl, show ((2 : Int) != 6) = true from rfl, Bool.true_or, Bool.not_true, Bool.false_and]
        · simp only [F77, e57, iv0, jv, c2, r.term, q2, iv1, jv1, ri.term, rj.term, ri.vote, c3', c6, Option.bind_some, cond_true, cond_false, Bool.or_false, Bool.not_true, Int.toNat_natCast, beq_self_eq_true, show ((2 : Int) == 3) = false from rfl, show ((2 : Int) == 1) = false from rfl, show (decide ((2 : Int) < 1)) = false from rfl, show (decide ((2 : Int) > 6)) = false from rfl, show ((2 : Int) == 4) = false from rfl, show ((2 : Int) == 5) = false from rfl, Bool.true_or, Bool.not_false, Bool.and_false, Bool.false_or]
          rw [ri.term] at q6
          simp only [q6, Option.bind_some]
  · have c1 : ((ge d1 G j).2.1 != 1) = true := by simpa using c
    have c2 : ((ge d2 V j).2.1 != 1) = true := by rw [r.role]; exact c1
    refine ⟨5, G, V, led, ?_, ?_, h.up, by omega⟩
    · simp [F75, F109, e107, e107j, hne, hne2, jg, c1]
    · simp [F77, e57, iv0, jv, c2]
theorem beats {i j : Nat} {b : Int} (hx : x = (3, (i : Int), (j : Int), b)) (hi : i < n) (hj : j < n) (hij : j ≠ i) : Both n k G V led x := by
  subst hx
  have hig : i < G.length := by rw [h.lg]; exact hi
  have hiv : i < V.length := by rw [h.lv]; exact hi
  have hjg : j < G.length := by rw [h.lg]; exact hj
  have hjv : j < V.length := by rw [h.lv]; exact hj
  have ig := idx_ge d1 hig
  have iv := idx_ge d2 hiv
  have jg := idx_ge d1 hjg
  have jv := idx_ge d2 hjv
  have ri := h.r i hi
  have rj := h.r j hj
  have e107 : F107 (i : Int) G.length = some false := by unfold F107; rw [h.lg]; simp; omega
  have e107j : F107 (j : Int) G.length = some false := by unfold F107; rw [h.lg]; simp; omega
  have hne2 : ¬ (i : Int) = (j : Int) := by omega
  have hne : ((i : Int) == (j : Int)) = false := by simp; omega
  have e57 : F57 (V.length : Int) (3, (i : Int), (j : Int), b) true = some true := by
    have f1 : ¬ n ≤ i := by omega
    have f2 : ¬ (i : Int) < 0 := by omega
    have f3 : ((j : Int) != (i : Int)) = true := by simp; omega
    unfold F57; rw [h.lv]; simp [f1, f2, f3, hj]
  by_cases c : (ge d1 G i).2.1 = 2
  · have c1 : ((ge d1 G i).2.1 != 2) = false := by simp [c]
    have c2 : ((ge d2 V i).2.1 != 2) = false := by rw [ri.role]; exact c1
    by_cases c3 : (ge d1 G i).1 < (ge d1 G j).1
    · obtain ⟨G1, V1, q1, q2, I1⟩ := know_both h.up hi (t := (ge d1 G j).1) rj.t0 (by have := rj.t1; push_cast; omega)
      refine ⟨8, G1, V1, led, ?_, ?_, I1, by omega⟩
      · simp [F75, F110, e107, e107j, hne, hne2, ig, jg, c1, c3, q1]
      · simp [F77, e57, iv, jv, c2, ri.term, rj.term, c3, q2]
    · obtain ⟨G1, V1, q1, q2, I1⟩ := know_both h.up hj (t := (ge d1 G i).1) ri.t0 (by have := ri.t1; push_cast; omega)
      have jg1 := idx_ge d1 (l := G1) (j := j) (by rw [I1.lg]; exact hj)
      have jv1 := idx_ge d2 (l := V1) (j := j) (by rw [I1.lv]; exact hj)
      have r1 := I1.r j hj
      refine ⟨0, G1.set j ((ge d1 G1 j).1, 0, (ge d1 G1 j).2.2.1, (ge d1 G1 j).2.2.2), V1.set j ((ge d2 V1 j).1, 0, (ge d2 V1 j).2.2.1, (ge d2 V1 j).2.2.2), led, ?_, ?_, I1.set hj ⟨r1.term, rfl, r1.vote, r1.by', r1.log, r1.t0, r1.t1⟩, by omega⟩
      · simp [F75, F110, e107, e107j, hne, hne2, ig, jg, c1, c3, q1, jg1]
      · simp [F77, e57, iv, jv, c2, ri.term, rj.term, c3, q2, jv1]
  · have c1 : ((ge d1 G i).2.1 != 2) = true := by simpa using c
    have c2 : ((ge d2 V i).2.1 != 2) = true := by rw [ri.role]; exact c1
    refine ⟨5, G, V, led, ?_, ?_, h.up, by omega⟩
    · simp [F75, F110, e107, e107j, hne, hne2, ig, c1]
    · simp [F77, e57, iv, jv, c2]
end
theorem move {n k : Nat} {G : List One} {V : List Vr} {led : List (Int × Int)} {x : Mv} (h : Inv n k G V) (hn : n ≤ 6) (hk : k < 60) (hl : led.length ≤ k) : Both n k G V led x := by
  cases c : ((((!((x.1 == 2) || (x.1 == 3))) && (x.1 != 1)) && (x.1 != 6))) with
  | true => exact wrongKind h hn hk hl c
  | false =>
    obtain ⟨hq, hc⟩ := kinds h hn hk hl c
    obtain ⟨bad, a1, a2, a3⟩ := args (x := x) h (two := ((x.1 == 2) || (x.1 == 3)))
    cases bad with
    | true =>
      refine ⟨2, G, V, led, ?_, ?_, h.up, by omega⟩
      · unfold F75
        simp only [c, cond_false]
        cases e1 : F107 x.2.1 G.length with
        | none => rw [e1] at a1; cases a1
        | some r =>
          rw [e1] at a1
          simp only [Option.bind_some] at a1 ⊢
          cases e2 : (cond (r) (some true) (Option.bind (cond ((x.1 == 2) || (x.1 == 3)) (Option.bind (F107 x.2.2.1 G.length) fun r19 => some (r19 || (x.2.1 == x.2.2.1))) (some false)) fun b17 => some b17)) with
          | none => rw [e2] at a1; cases a1
          | some b => rw [e2] at a1; simp only [Option.bind_some, Option.some.injEq] at a1 ⊢; subst a1; rfl
      · have a2' : F57 (V.length : Int) (x.1, x.2.1, x.2.2.1, x.2.2.2) ((x.1 == 2) || (x.1 == 3)) = some false := a2
        unfold F77
        simp only [hc, cond_false]
        simp only [a2', Option.bind_some, Bool.not_false, cond_true]
    | false =>
      obtain ⟨b1, b2, b3⟩ := a3 rfl
      obtain ⟨q, a, t, b⟩ := x
      simp only at hq b1 b2 b3
      obtain ⟨i, rfl⟩ := nat_of b1
      have hi : i < n := by omega
      rcases hq with rfl | rfl | rfl | rfl
      · exact stands h hn hk hl rfl hi
      · obtain ⟨b4, b5, b6⟩ := b3 rfl
        obtain ⟨j, rfl⟩ := nat_of b4
        exact votes h hn hk hl rfl hi (by omega) (by omega)
      · obtain ⟨b4, b5, b6⟩ := b3 rfl
        obtain ⟨j, rfl⟩ := nat_of b4
        exact beats h hn hk hl rfl hi (by omega) (by omega)
      · exact crashes h hn hk hl rfl hi
theorem run_both {n : Nat} {l : List Mv} (hn : n ≤ 6) (hl : l.length ≤ 60) : ∀ (m k : Nat), k + m = l.length → ∀ {cs : List Int} {G : List One} {V : List Vr} {led : List (Int × Int)},
    cs.length = k → led.length ≤ k → Inv n k G V →
    ∃ (cs' : List Int) (G' : List One) (V' : List Vr) (led' : List (Int × Int)),
      whileM (F41_L0 l) (cs, led, G, (k : Int)) = some (.brk (cs', led', G')) ∧
      whileM (F42_L0 l) (cs, led, V, (k : Int)) = some (.brk (cs', led', V')) ∧
      cs'.length = l.length ∧ led'.length ≤ l.length ∧ Inv n l.length G' V' := by
  intro m
  induction m with
  | zero =>
    intro k hk cs G V led hcs hle h
    obtain rfl : k = l.length := by omega
    exact ⟨_, _, _, _, whileM_brk (by simp [F41_L0]), whileM_brk (by simp [F42_L0]), hcs, hle, h⟩
  | succ m ih =>
    intro k hk cs G V led hcs hle h
    have hlt : k < l.length := by omega
    have hg : l[k]? = some l[k] := List.getElem?_eq_getElem hlt
    obtain ⟨e, G1, V1, led1, r1, r2, r3, r4⟩ := move (x := l[k]) h hn (by omega) hle
    have hd : decide ((k : Int) < (l.length : Int)) = true := by rw [decide_eq_true_eq]; omega
    have n1 : F41_L0 l (cs, led, G, (k : Int)) = some (.nxt (cs ++ [e], led1, G1, ((k + 1 : Nat) : Int))) := by
      simp only [F41_L0, hd, cond_true, idx_some hg, Option.bind_some, r1, app1 8 (by decide) cs e (by omega), w64_succ hlt (by omega)]
    have n2 : F42_L0 l (cs, led, V, (k : Int)) = some (.nxt (cs ++ [e], led1, V1, ((k + 1 : Nat) : Int))) := by
      simp only [F42_L0, hd, cond_true, idx_some hg, Option.bind_some, r2, app1 8 (by decide) cs e (by omega), w64_succ hlt (by omega)]
    obtain ⟨cs', G', V', led', w1, w2, w3, w4, w5⟩ := ih (k + 1) (by omega) (cs := cs ++ [e]) (by simp [hcs]) r4 r3
    exact ⟨cs', G', V', led', by rw [whileM_nxt n1]; exact w1, by rw [whileM_nxt n2]; exact w2, w3, w4, w5⟩
theorem same_ints (l : List Int) (hl : l.length ≤ 1000) : F25 l l = some true := by
  have h : whileM (F25_L0 l l) 0 = some (.brk ()) := by
    refine while_upto (fun k => (k : Int)) l.length (fun k hk => ?_) (by simp [F25_L0]) (by simp)
    have hg : l[k]? = some l[k] := List.getElem?_eq_getElem hk
    have hd : decide ((k : Int) < (l.length : Int)) = true := by rw [decide_eq_true_eq]; omega
    simp only [F25_L0, hd, cond_true, idx_some hg, Option.bind_some, bne_self_eq_false, cond_false, w64_succ hk (by omega)]
  unfold F25
  rw [h]; simp [Ctl.on]
theorem same_codes (l : List Int) (hl : l.length ≤ 1000) : F18 l l = some true := same_ints l hl
theorem same_twos (l : List (Int × Int)) (hl : l.length ≤ 1000) : F43 l l = some true := by
  have h : whileM (F43_L0 l l) 0 = some (.brk ()) := by
    refine while_upto (fun k => (k : Int)) l.length (fun k hk => ?_) (by simp [F43_L0]) (by simp)
    have hg : l[k]? = some l[k] := List.getElem?_eq_getElem hk
    have hd : decide ((k : Int) < (l.length : Int)) = true := by rw [decide_eq_true_eq]; omega
    simp only [F43_L0, hd, cond_true, idx_some hg, Option.bind_some, beq_self_eq_true, Bool.and_true, Bool.not_true, cond_false, w64_succ hk (by omega)]
  unfold F43
  rw [h]; simp [Ctl.on]
theorem take_succ' {α : Type} {L : List α} {k : Nat} (hk : k < L.length) : L.take (k + 1) = L.take k ++ [L[k]] := by
  rw [List.take_add_one, List.getElem?_eq_getElem hk]; rfl
theorem tell1 {G : List One} (hl : G.length ≤ 60) : whileM (F41_L1 G) ([], [], [], 0) = some (.brk (G.map (·.1), G.map (·.2.1), G.map (·.2.2.1))) := by
  have h := while_upto (body := F41_L1 G) (fun k => ((G.take k).map (·.1), (G.take k).map (·.2.1), (G.take k).map (·.2.2.1), (k : Int))) G.length (c := .brk (G.map (·.1), G.map (·.2.1), G.map (·.2.2.1))) (fun k hk => ?_) (by simp [F41_L1]) (by simp)
  · simpa using h
  · have hg : G[k]? = some G[k] := List.getElem?_eq_getElem hk
    have hd : decide ((k : Int) < (G.length : Int)) = true := by rw [decide_eq_true_eq]; omega
    simp only [F41_L1, hd, cond_true, idx_some hg, Option.bind_some, app1 8 (by decide) ((G.take k).map (·.1)) G[k].1 (by simp; omega), app1 8 (by decide) ((G.take k).map (·.2.1)) G[k].2.1 (by simp; omega), app1 8 (by decide) ((G.take k).map (·.2.2.1)) G[k].2.2.1 (by simp; omega), w64_succ hk (by omega)]
    simp only [take_succ' hk, List.map_append, List.map_cons, List.map_nil]
theorem tell2 {G : List Vr} (hl : G.length ≤ 60) : whileM (F42_L1 G) ([], [], [], 0) = some (.brk (G.map (·.1), G.map (·.2.1), G.map (·.2.2.1))) := by
  have h := while_upto (body := F42_L1 G) (fun k => ((G.take k).map (·.1), (G.take k).map (·.2.1), (G.take k).map (·.2.2.1), (k : Int))) G.length (c := .brk (G.map (·.1), G.map (·.2.1), G.map (·.2.2.1))) (fun k hk => ?_) (by simp [F42_L1]) (by simp)
  · simpa using h
  · have hg : G[k]? = some G[k] := List.getElem?_eq_getElem hk
    have hd : decide ((k : Int) < (G.length : Int)) = true := by rw [decide_eq_true_eq]; omega
    simp only [F42_L1, hd, cond_true, idx_some hg, Option.bind_some, app1 8 (by decide) ((G.take k).map (·.1)) G[k].1 (by simp; omega), app1 8 (by decide) ((G.take k).map (·.2.1)) G[k].2.1 (by simp; omega), app1 8 (by decide) ((G.take k).map (·.2.2.1)) G[k].2.2.1 (by simp; omega), w64_succ hk (by omega)]
    simp only [take_succ' hk, List.map_append, List.map_cons, List.map_nil]
theorem map_same {β : Type} {n k : Nat} {G : List One} {V : List Vr} (h : Inv n k G V) (f : One → β) (g : Vr → β) (e : ∀ x y, R n k x y → g y = f x) : V.map g = G.map f := by
  apply List.ext_getElem?
  intro i
  rw [List.getElem?_map, List.getElem?_map]
  by_cases hi : i < n
  · rw [get_ge d2 (by rw [h.lv]; exact hi), get_ge d1 (by rw [h.lg]; exact hi)]
    simp only [Option.map_some, e _ _ (h.r i hi)]
  · rw [List.getElem?_eq_none (by rw [h.lv]; omega), List.getElem?_eq_none (by rw [h.lg]; omega)]
    rfl
theorem begin1 {n : Nat} (hn : n ≤ 6) : F74 (n : Int) = some (List.replicate n (0, 0, -1, 0), []) := by
  have hm := mkl_rep hn (show 32 ≤ 128 by decide) ((0, 0, 0, 0) : One)
  have key : whileM (F74_L0 (List.replicate n ((0, 0, 0, 0) : One))) (List.replicate n (0, 0, 0, 0), 0) = some (.brk (List.replicate n (0, 0, -1, 0))) := by
    have : n = 0 ∨ n = 1 ∨ n = 2 ∨ n = 3 ∨ n = 4 ∨ n = 5 ∨ n = 6 := by omega
    have h := while_upto (body := F74_L0 (List.replicate n ((0, 0, 0, 0) : One))) (fun k => (List.replicate k (0, 0, -1, 0) ++ List.replicate (n - k) (0, 0, 0, 0), (k : Int))) n (c := .brk (List.replicate n (0, 0, -1, 0))) (fun k hk => ?_) (by simp [F74_L0]) (by simp)
    · simpa using h
    · have hd : decide ((k : Int) < ((List.replicate n ((0, 0, 0, 0) : One)).length : Int)) = true := by rw [decide_eq_true_eq]; simp; omega
      have hs : n - k = (n - (k + 1)) + 1 := by omega
      have hi : idx (List.replicate k ((0, 0, -1, 0) : One) ++ List.replicate (n - k) (0, 0, 0, 0)) (k : Int) = some (0, 0, 0, 0) := idx_some (by rw [List.getElem?_append_right (by simp), List.length_replicate, Nat.sub_self, List.getElem?_replicate, if_pos (by omega)])
      simp only [F74_L0, hd, cond_true, hi, Option.bind_some, Int.toNat_natCast, w64_succ hk (by omega)]
      rw [hs, List.replicate_succ, List.set_append_right _ _ (by simp)]
      simp [List.replicate_succ']
  unfold F74
  rw [hm]
  simp only [Option.bind_some, key, Ctl.on]
theorem begin2 {n : Nat} (hn : n ≤ 6) : F76 (n : Int) = some (List.replicate n (0, 0, -1, [], [], 0, [], []), []) := by
  have h := while_upto (body := F76_L0 (n : Int)) (fun k => (List.replicate k ((0, 0, -1, [], [], 0, [], []) : Vr), (k : Int))) n (c := .brk (List.replicate n (0, 0, -1, [], [], 0, [], []))) (fun k hk => ?_) (by simp [F76_L0]) (by simp)
  · unfold F76
    have h' : whileM (F76_L0 (n : Int)) ([], 0) = some (.brk (List.replicate n (0, 0, -1, [], [], 0, [], []))) := h
    rw [h']; simp [Ctl.on]
  · have hd : decide ((k : Int) < (n : Int)) = true := by rw [decide_eq_true_eq]; omega
    simp only [F76_L0, hd, cond_true, app1 128 (by decide) (List.replicate k ((0, 0, -1, [], [], 0, [], []) : Vr)) (0, 0, -1, [], [], 0, [], []) (by simp; omega), Option.bind_some, w64_succ hk (by omega), ← List.replicate_succ']
theorem law_ElectPlays (x0 : Int) (b0 : -9223372036854775808 ≤ x0 ∧ x0 ≤ 9223372036854775807) (x1 : List Mv) (l1 : x1.length ≤ 9223372036854775807) (w1 : ∀ x ∈ x1, (-9223372036854775808 ≤ x.1 ∧ x.1 ≤ 9223372036854775807) ∧ (-9223372036854775808 ≤ x.2.1 ∧ x.2.1 ≤ 9223372036854775807) ∧ (-9223372036854775808 ≤ x.2.2.1 ∧ x.2.2.1 ≤ 9223372036854775807) ∧ (-9223372036854775808 ≤ x.2.2.2 ∧ x.2.2.2 ≤ 9223372036854775807)) :
    F12 x0 x1 = some true := by
  cases c : (((decide (x0 < 1)) || (decide (x0 > 6))) || (decide ((x1.length : Int) > 60))) with
  | true =>
    have h1 := same_codes [] (by simp)
    have h2 := same_twos [] (by simp)
    have h3 := same_ints [] (by simp)
    simp [F12, F41, F21, c, h1, h2, h3]
  | false =>
    have c' := c
    simp only [Bool.or_eq_false_iff, decide_eq_false_iff_not] at c'
    obtain ⟨n, rfl⟩ := nat_of (a := x0) (by omega)
    have hn : n ≤ 6 := by omega
    have hl : x1.length ≤ 60 := by omega
    have I : Inv n 0 (List.replicate n (0, 0, -1, 0)) (List.replicate n (0, 0, -1, [], [], 0, [], [])) := by
      refine ⟨by simp, by simp, fun i hi => ?_⟩
      rw [ge_rep _ _ hi, ge_rep _ _ hi]
      exact ⟨rfl, rfl, rfl, Same.zero, rfl, by decide, by decide⟩
    obtain ⟨cs', G', V', led', r1, r2, r3, r4, r5⟩ := run_both hn hl x1.length 0 (by omega) (cs := []) (led := []) rfl (by simp) I
    have eF41 : F41 (n : Int) x1 = some ((cs', G'.map (·.1), G'.map (·.2.1), G'.map (·.2.2.1), led'), 0) := by
      have r1' : whileM (F41_L0 x1) ([], [], List.replicate n (0, 0, -1, 0), 0) = some (.brk (cs', led', G')) := r1
      simp only [F41, c, cond_false, begin1 hn, Option.bind_some, r1', Ctl.on, tell1 (G := G') (by rw [r5.lg]; omega)]
    have eF42 : F42 (n : Int) x1 = some (cs', V'.map (·.1), V'.map (·.2.1), V'.map (·.2.2.1), led') := by
      have r2' : whileM (F42_L0 x1) ([], [], List.replicate n (0, 0, -1, [], [], 0, [], []), 0) = some (.brk (cs', led', V')) := r2
      simp only [F42, begin2 hn, Option.bind_some, r2', Ctl.on, tell2 (G := V') (by rw [r5.lv]; omega)]
    rw [map_same r5 (·.1) (·.1) (fun x y h => h.term), map_same r5 (·.2.1) (·.2.1) (fun x y h => h.role), map_same r5 (·.2.2.1) (·.2.2.1) (fun x y h => h.vote)] at eF42
    have h1 := same_codes cs' (by omega)
    have h2 := same_twos led' (by omega)
    have h3 := same_ints (G'.map (·.1)) (by rw [List.length_map, r5.lg]; omega)
    have h4 := same_ints (G'.map (·.2.1)) (by rw [List.length_map, r5.lg]; omega)
    have h5 := same_ints (G'.map (·.2.2.1)) (by rw [List.length_map, r5.lg]; omega)
    have eF21 : F21 (n : Int) (x1.length : Int) = some 0 := by simp only [F21, c, cond_false]
    simp [F12, eF41, eF42, eF21, h1, h2, h3, h4, h5]
end Go.Proofs.Ythfkdepcnhhepaa
