/-
  The plain law of ForkRounds.
-/
import Derived.Test.YtdjmlbjkendobaaPForkTurns
import Derived.Test.YtdjmlbjkendobaaPd
import Derived.Test.YtdjmlbjkendobaaPg
namespace Go.Proofs.Ytdjmlbjkendobaa
open Go Go.Bk
set_option linter.unusedVariables false
set_option linter.unusedSimpArgs false

/-- The links are of n processes. -/
def okl (n : Nat) (l : List Lk) : Prop := ∀ x ∈ l, 0 ≤ x.1 ∧ x.1 < n ∧ 0 ≤ x.2 ∧ x.2 < n
theorem okl_of {n : Nat} {l : List Lk} (h : ∀ x ∈ l, offL (n : Int) x = false) : okl n l := fun x hx => by
  have := h x hx
  simp only [offL, Bool.or_eq_false_iff, decide_eq_false_iff_not] at this
  omega
theorem okl_filter {n : Nat} {l : List Lk} {p : Lk → Bool} (h : okl n l) : okl n (l.filter p) := fun x hx => h x (List.mem_filter.1 hx).1
def lowW (n : Nat) (l : List Lk) : W32 := l.foldl (fun t x => t &&& ~~~(1#32 <<< x.1.toNat)) ((1#32 <<< n) - 1#32)
theorem f50_val {n : Nat} (hn : n ≤ 6) {l : List Lk} (hl : l.length ≤ 9223372036854775807) (h : okl n l) : F50 (n : Int) l = some (lowW n l) := by
  have h50 : ∀ s : BitVec 32, whileM (F50_L0 l) (s, 0) = some (.brk (l.foldl (fun t x => t &&& ~~~(1#32 <<< x.1.toNat)) s)) := fun s => by
    have := while_fold (xs := l) (body := F50_L0 l) (fun k t => (t, (k : Int))) (fun _ (x : Lk) t => t &&& ~~~(1#32 <<< x.1.toNat)) id s
      (fun k e t h' => by
        have hk := lt_of_get h'
        have he := h e (List.mem_of_getElem? h')
        have hs : shc e.1 = some e.1.toNat := by unfold shc; rw [if_pos he.1]
        simp only [F50_L0, idx_some h', hs, Option.bind_some, w64_succ hk hl]
        simp [hk])
      (fun t => by simp [F50_L0])
    rw [foldl_zip (fun (x : Lk) t => t &&& ~~~(1#32 <<< x.1.toNat))] at this
    exact this
  unfold F50
  simp only [shc_nat, Option.bind_some, h50]
  rfl
theorem lowW_bit {n : Nat} (hn : n ≤ 6) {l : List Lk} (h : okl n l) (b : Nat) : (lowW n l).getLsbD b = (decide (b < n) && l.all (fun x => decide (x.1.toNat ≠ b))) := by
  unfold lowW
  rw [fold_out (fun x : Lk => x.1.toNat) l _ (fun x hx => by have := h x hx; omega)]
  by_cases hb : b < 32
  · rw [ones_bit n (by omega) b hb]
  · have h1 : ¬ b < n := by omega
    have h2 : ((1#32 <<< n) - 1#32).getLsbD b = false := BitVec.getLsbD_of_ge _ _ (by omega)
    rw [h2]; simp [h1]
theorem f79_val {z : Lk} {s : W32} (h : 0 ≤ z.2) : F79 z s = some (s.getLsbD z.2.toNat) := by
  have hs : shc z.2 = some z.2.toNat := by unfold shc; rw [if_pos h]
  unfold F79
  rw [hs]
  simp only [Option.bind_some, and_one]
  cases s.getLsbD z.2.toNat <;> rfl
theorem f78_val {n : Nat} {l : List Lk} (hl : l.length ≤ 9223372036854775807) (h : okl n l) (s : W32) : F78 l (fun z => F79 z s) = some (l.filter (fun x => !(s.getLsbD x.2.toNat))) :=
  del_val l (0, 0) hl (t := fun z => F79 z s) (p := fun x => s.getLsbD x.2.toNat) (fun x hx => f79_val (h x hx).2.2.1) (F90 := F90) rfl
def nxt (n : Nat) (l : List Lk) (s : W32) : W32 := lowW n (l.filter (fun x => !(s.getLsbD x.2.toNat)))
def out (n : Nat) (l : List Lk) : Nat → W32
  | 0 => 0#32
  | t + 1 => nxt n l (out n l t)
theorem fold_out' (n : Nat) (l : List Lk) : ∀ m, (List.range m).foldl (fun t _ => nxt n l t) 0#32 = out n l m
  | 0 => rfl
  | m + 1 => by rw [List.range_succ, List.foldl_append, fold_out' n l m]; rfl
theorem f52_val {n : Nat} (hn : n ≤ 6) {l : List Lk} (hl : l.length ≤ 15) (h : okl n l) : F52 (n : Int) l = some (out n l n != ((1#32 <<< n) - 1#32)) := by
  have h54 : F54 l = some l := by unfold F54 appl; rw [if_pos]; simp; simp; omega
  have hw : whileM (F52_L0 (n : Int) l) (0#32, 0) = some (.brk ((List.range n).foldl (fun t _ => nxt n l t) 0#32)) :=
    while_foldN (fun k t => (t, (k : Int))) n (fun _ t => nxt n l t) id 0#32
      (fun k t hk => by
        have h1 := f78_val (by omega) h t
        have h2 : F50 (n : Int) (l.filter (fun x => !(t.getLsbD x.2.toNat))) = some (nxt n l t) := f50_val hn (Nat.le_trans (List.length_filter_le _ _) (by omega)) (okl_filter h)
        simp only [F52_L0, h54, h1, h2, Option.bind_some, w64_succ hk (by omega)]
        simp [hk])
      (fun t => by simp [F52_L0])
  unfold F52
  rw [hw, fold_out']
  simp [Ctl.on, shc_nat]
def upd (y : List W32) (x : Lk) : List W32 := y.set x.1.toNat (wd y x.1.toNat ||| (1#32 <<< x.2.toNat))
theorem upd_len : ∀ (l : List Lk) (y : List W32), (l.foldl upd y).length = y.length
  | [], y => rfl
  | x :: l, y => by rw [List.foldl_cons, upd_len l]; simp [upd]
theorem wd_set {y : List W32} {i b : Nat} {v : W32} (hi : i < y.length) : wd (y.set i v) b = if b = i then v else wd y b := by
  unfold wd
  rw [List.getD_eq_getElem?_getD, List.getD_eq_getElem?_getD, List.getElem?_set]
  by_cases c : i = b
  · subst c; simp [hi]
  · have : ¬ b = i := fun e => c e.symm
    simp [c, this]
theorem upd_bit {n : Nat} (hn : n ≤ 6) (b c : Nat) : ∀ (l : List Lk) (y : List W32), okl n l → y.length = n →
    (wd (l.foldl upd y) b).getLsbD c = ((wd y b).getLsbD c || l.any (fun x => decide (x.1.toNat = b) && decide (x.2.toNat = c)))
  | [], y, _, _ => by simp
  | x :: l, y, h, hy => by
    have hx := h x (by simp)
    rw [List.foldl_cons, upd_bit hn b c l _ (fun z hz => h z (by simp [hz])) (by simp [upd, hy])]
    unfold upd
    rw [wd_set (by omega), List.any_cons]
    by_cases e : b = x.1.toNat
    · subst e
      simp only [if_true, BitVec.getLsbD_or, bit_one (show x.2.toNat < 32 by omega), decide_true, Bool.true_and, Bool.or_assoc]
      congr 2
      by_cases q : c = x.2.toNat <;> simp [q, eq_comm]
    · have : ¬ x.1.toNat = b := fun q => e q.symm
      simp [e, this]
def gr (n : Nat) (l : List Lk) : List W32 := l.foldl upd (List.replicate n 0#32)
theorem gr_len (n : Nat) (l : List Lk) : (gr n l).length = n := by unfold gr; rw [upd_len]; simp
theorem gr_bit {n : Nat} (hn : n ≤ 6) {l : List Lk} (h : okl n l) (b c : Nat) : (wd (gr n l) b).getLsbD c = l.any (fun x => decide (x.1.toNat = b) && decide (x.2.toNat = c)) := by
  unfold gr
  rw [upd_bit hn b c l _ h (by simp)]
  have : wd (List.replicate n 0#32) b = 0#32 := by
    unfold wd; rw [List.getD_eq_getElem?_getD, List.getElem?_replicate]; split <;> rfl
  rw [this]; simp
theorem f53_val {g : List W32} (hn : g.length ≤ 6) {i : Nat} (hi : i < g.length) : F53 g (i : Int) = some (R g i) := by
  have hb : ∀ {w : W32} {k : Nat}, k < 32 → F23 w (k : Int) = some (w.getLsbD k) := fun {w k} hk => by have := f23_val (w := w) (j := (k : Int)) (by omega) (by omega); simpa using this
  have h1 : ∀ s, whileM (F53_L1 g) (s, 0) = some (.brk (pass g.length cR (wd g) s)) := fun s =>
    while_foldN (fun k t => (t, (k : Int))) g.length (fun k t => stp cR (wd g) t k) id s
      (fun k t hk => by
        simp only [F53_L1, hb (show k < 32 by omega), idx_some (get_wd hk), Option.bind_some, w64_succ hk (by omega)]
        unfold stp cR
        cases t.getLsbD k <;> simp [hk])
      (fun t => by simp [F53_L1])
  have h0 : ∀ s, whileM (F53_L0 g) (s, 0) = some (.brk (iter g.length cR (wd g) s)) := fun s =>
    while_foldN (fun k t => (t, (k : Int))) g.length (fun k t => pass g.length cR (wd g) t) id s
      (fun k t hk => by simp only [F53_L0, h1, Option.bind_some, w64_succ hk (by omega)]; simp [hk, Ctl.on])
      (fun t => by simp [F53_L0])
  unfold F53
  rw [idx_some (get_wd hi)]
  simp only [Option.bind_some, h0]
  rfl
theorem f27_l0 {n : Nat} (hn : n ≤ 6) {l : List Lk} (hl : l.length ≤ 15) (h : okl n l) : whileM (F27_L0 l) (List.replicate n 0#32, 0) = some (.brk (gr n l)) := by
  have hw := while_upto (body := F27_L0 l) (fun k => ((l.take k).foldl upd (List.replicate n 0#32), (k : Int))) l.length (c := .brk (gr n l))
    (fun k hk => by
      have hg : l[k]? = some l[k] := List.getElem?_eq_getElem hk
      have hx := h _ (List.getElem_mem hk)
      have hlen : ((l.take k).foldl upd (List.replicate n 0#32)).length = n := by rw [upd_len]; simp
      have hnext : (l.take (k + 1)).foldl upd (List.replicate n 0#32) = upd ((l.take k).foldl upd (List.replicate n 0#32)) l[k] := by
        rw [List.take_add_one, hg, List.foldl_append]; rfl
      rw [hnext]
      generalize (l.take k).foldl upd (List.replicate n 0#32) = y at *
      have hy : idx y l[k].1 = some (wd y l[k].1.toNat) := by
        unfold idx; rw [if_pos hx.1, get_wd (by omega)]
      have hu : (u64 l[k].2).toNat = l[k].2.toNat := by
        have := u64_nat (n := l[k].2.toNat) (by omega)
        rwa [Int.toNat_of_nonneg hx.2.2.1] at this
      simp only [F27_L0, idx_some hg, hy, hu, Option.bind_some, w64_succ hk (by omega)]
      simp [hk, upd])
    (by simp [F27_L0, gr]) (by intro s h; cases h)
  simpa using hw
theorem f27_val {n : Nat} (h1n : 1 ≤ n) (hn : n ≤ 6) {l : List Lk} (hl : l.length ≤ 15) (h : okl n l) : F27 (n : Int) l = some ((List.range n).any (fun i => (R (gr n l) i).getLsbD i)) := by
  have hb : ∀ {w : W32} {k : Nat}, k < 32 → F23 w (k : Int) = some (w.getLsbD k) := fun {w k} hk => by have := f23_val (w := w) (j := (k : Int)) (by omega) (by omega); simpa using this
  have hm : mkl (n : Int) 4 (0#32 : BitVec 32) = some (List.replicate n 0#32) := by unfold mkl; rw [if_pos ⟨by omega, by omega, by omega⟩]; simp
  have hgl := gr_len n l
  have hw : whileM (F27_L1 (n : Int) (gr n l)) 0 = _ := while_scanN (fun k => (k : Int)) n (b := ()) (fun k => if (R (gr n l) k).getLsbD k = true then some true else none)
    (fun k hk => by
      simp only [F27_L1, f53_val (g := gr n l) (by omega) (show k < (gr n l).length by omega), hb (show k < 32 by omega), Option.bind_some, w64_succ hk (by omega)]
      cases (R (gr n l) k).getLsbD k <;> simp [hk, going])
    (by simp [F27_L1])
  unfold F27
  have hm' : mkl (n : Int) 4 (0 : BitVec 32) = some (List.replicate n 0#32) := hm
  rw [hm']
  simp only [Option.bind_some, f27_l0 hn hl h, Ctl.on, hw]
  cases hs : scan (fun k (_ : Unit) => if (R (gr n l) k).getLsbD k = true then some true else none) (List.replicate n ()) 0 with
  | none =>
    have : (List.range n).any (fun i => (R (gr n l) i).getLsbD i) = false := by
      rw [List.any_eq_false]
      intro i hi
      have := scanN_none.1 hs i (by simpa using hi)
      intro hc; rw [if_pos hc] at this; cases this
    rw [this]; simp [found, Ctl.on]
  | some r =>
    obtain ⟨k, hk, hv⟩ := scanN_val hs
    have hc : (R (gr n l) k).getLsbD k = true := by
      cases c : (R (gr n l) k).getLsbD k with
      | true => rfl
      | false => rw [c] at hv; simp at hv
    have : (List.range n).any (fun i => (R (gr n l) i).getLsbD i) = true := List.any_eq_true.2 ⟨k, by simpa using hk, hc⟩
    rw [if_pos hc] at hv
    simp at hv
    subst hv
    rw [this]; simp [found, Ctl.on]
theorem round_same {n : Nat} (h1n : 1 ≤ n) (hn : n ≤ 6) {l : List Lk} (hl : l.length ≤ 15) (h : okl n l) : ∃ r, F52 (n : Int) l = some r ∧ F27 (n : Int) l = some r := by
  refine ⟨_, f52_val hn hl h, ?_⟩
  rw [f27_val h1n hn hl h]
  refine congrArg some ?_
  have hgl := gr_len n l
  have hw : ∀ j, j < (gr n l).length → lim (gr n l).length (wd (gr n l) j) := fun j hj b hb => by
    rw [gr_bit hn h, List.any_eq_true] at hb
    obtain ⟨x, hx, hc⟩ := hb
    have := h x hx
    simp at hc
    omega
  have hS : ∀ t b, b < (gr n l).length → ((out n l (t + 1)).getLsbD b = true ↔ ∀ c, (wd (gr n l) b).getLsbD c = true → (out n l t).getLsbD c = true) := fun t b hb => by
    have hbn : b < n := by omega
    show (nxt n l (out n l t)).getLsbD b = true ↔ _
    unfold nxt
    rw [lowW_bit hn (okl_filter h)]
    simp only [decide_eq_true hbn, Bool.true_and, List.all_eq_true, List.mem_filter, decide_eq_true_eq]
    constructor
    · intro hh c hc
      rw [gr_bit hn h, List.any_eq_true] at hc
      obtain ⟨x, hx, hc⟩ := hc
      simp at hc
      cases y : (out n l t).getLsbD c with
      | true => rfl
      | false => exact absurd hc.1 (hh x ⟨hx, by rw [hc.2, y]; rfl⟩)
    · intro hh x hx e
      have := hh x.2.toNat (by rw [gr_bit hn h, List.any_eq_true]; exact ⟨x, hx.1, by simp [e]⟩)
      rw [this] at hx
      simp at hx
  have key := gone_iff hw (out n l) rfl hS
  rw [hgl] at key
  have hlim : ∀ b, n ≤ b → (out n l n).getLsbD b = false := fun b hb => by
    cases n with
    | zero => omega
    | succ m =>
      show (nxt (m + 1) l (out (m + 1) l m)).getLsbD b = false
      unfold nxt
      rw [lowW_bit hn (okl_filter h)]
      have : ¬ b < m + 1 := by omega
      simp [this]
  have heq : out n l n = ((1#32 <<< n) - 1#32) ↔ ∀ b, b < n → (out n l n).getLsbD b = true := by
    constructor
    · intro e b hb; rw [e, ones_bit n (by omega) b (by omega)]; simpa using hb
    · intro hh
      apply BitVec.eq_of_getLsbD_eq
      intro b hb
      rw [ones_bit n (by omega) b hb]
      by_cases c : b < n
      · rw [hh b c]; simp [c]
      · rw [hlim b (by omega)]; simp [c]
  cases c : (List.range n).any (fun i => (R (gr n l) i).getLsbD i) with
  | true =>
    rw [List.any_eq_true] at c
    obtain ⟨i, hi, hc⟩ := c
    symm
    rw [bne_iff_ne]
    intro e
    have := key.1 (heq.1 e) i (by simpa using hi)
    rw [this] at hc; cases hc
  | false =>
    rw [List.any_eq_false] at c
    symm
    have : out n l n = ((1#32 <<< n) - 1#32) := heq.2 (key.2 fun i hi => by have := c i (by simpa using hi); simpa using this)
    rw [this]; simp
theorem len15 {n : Int} {l : List Lk} (h : F49 n l = some 0) : l.length ≤ 15 := by
  unfold F49 at h
  cases c : (((decide (n < 1)) || (decide (n > 6))) || (decide ((l.length : Int) > 15))) with
  | true => rw [c] at h; simp at h
  | false => simp only [Bool.or_eq_false_iff, decide_eq_false_iff_not] at c; omega

theorem law_ForkRounds (a0 : Int) (_ : i64 a0) (a1 : List Lk) (h : a1.length ≤ 9223372036854775807) (_ : ∀ x ∈ a1, i64 x.1 ∧ i64 x.2) : F7 a0 a1 = some true := by
  obtain ⟨r, h1, h2, h3⟩ := check_same a0 a1 h
  unfold F7 F26
  rw [h1, h2]
  by_cases c : r = 0
  · subst c
    obtain ⟨q1, q2, q3⟩ := h3 rfl
    obtain ⟨n, rfl⟩ : ∃ n : Nat, a0 = n := ⟨a0.toNat, by omega⟩
    obtain ⟨s, e1, e2⟩ := round_same (n := n) (by omega) (by omega) (len15 h1) (okl_of q3)
    simp [e1, e2]
  · have c1 : (r != 0) = true := by simpa using c
    have c2 : (r == 0) = false := by simpa using c
    simp [c1, c2, c]
end Go.Proofs.Ytdjmlbjkendobaa
