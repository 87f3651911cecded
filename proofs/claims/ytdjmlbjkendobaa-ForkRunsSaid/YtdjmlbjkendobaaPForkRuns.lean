/-
  The plain law of ForkRuns.
-/
import Derived.Test.YtdjmlbjkendobaaPForkRounds
namespace Go.Proofs.Ytdjmlbjkendobaa
open Go Go.Bk
set_option linter.unusedVariables false
set_option linter.unusedSimpArgs false

def flipS (s : W32) (x : Lk) : Lk := cond (s.getLsbD x.2.toNat) (x.2, x.1) x
theorem bitS {w : W32} {k : Nat} (hk : k < 32) : F23 w (k : Int) = some (w.getLsbD k) := by have := f23_val (w := w) (j := (k : Int)) (by omega) (by omega); simpa using this
theorem turnS_val {n : Nat} (hn : n ≤ 6) (l : List Lk) (s : W32) (hl : l.length ≤ 15) (hb : okl n l) : F51 l s = some (l.map (flipS s)) := by
  have h54 : F54 l = some l := by unfold F54 appl; rw [if_pos]; simp; simp; omega
  unfold F51
  rw [h54]
  simp only [Option.bind_some]
  have hw := while_upto (body := F51_L0 s l) (fun k => ((l.take k).map (flipS s) ++ l.drop k, (k : Int))) l.length (c := .brk (l.map (flipS s)))
    (fun k hk => by
      have hg : l[k]? = some l[k] := List.getElem?_eq_getElem hk
      have hx := hb _ (List.getElem_mem hk)
      have hlen : ((l.take k).map (flipS s)).length = k := by simp; omega
      have hd : l.drop k = l[k] :: l.drop (k + 1) := List.drop_eq_getElem_cons hk
      have hgy : ((l.take k).map (flipS s) ++ l.drop k)[k]? = some l[k] := by
        rw [List.getElem?_append_right (by omega), hlen, hd]; simp
      have hs : shc l[k].2 = some l[k].2.toNat := by unfold shc; rw [if_pos hx.2.2.1]
      have hnext : (l.take (k + 1)).map (flipS s) ++ l.drop (k + 1) = (l.take k).map (flipS s) ++ flipS s l[k] :: l.drop (k + 1) := by
        rw [List.take_add_one, hg, List.map_append]; simp only [Option.toList_some, List.map_cons, List.map_nil, List.append_assoc, List.singleton_append]
      have hset : ∀ z, ((l.take k).map (flipS s) ++ l.drop k).set k z = (l.take k).map (flipS s) ++ z :: l.drop (k + 1) := fun z => by
        rw [List.set_append_right _ _ (by omega), hlen, hd, Nat.sub_self]; rfl
      simp only [F51_L0, idx_some hgy, hs, and_one, Option.bind_some, w64_succ hk (by omega)]
      rw [hnext]
      have hfl : flipS s l[k] = cond (s.getLsbD l[k].2.toNat) (l[k].2, l[k].1) l[k] := rfl
      rw [hfl]
      generalize hA : (l.take k).map (flipS s) = A at *
      cases c : s.getLsbD l[k].2.toNat
      · rw [hd]; simp [hk]
      · have := hset (l[k].2, l[k].1)
        simp [hk, this])
    (by simp [F51_L0]) (by intro s h; cases h)
  have hw' : whileM (F51_L0 s l) (l, 0) = some (.brk (l.map (flipS s))) := by
    have := hw
    simp only [List.take_zero, List.map_nil, List.drop_zero, List.nil_append] at this
    exact this
  rw [hw']
  rfl
theorem turnedS_val {n : Nat} (hn : n ≤ 6) (l : List Lk) (s : W32) (hl : l.length ≤ 15) (hb : okl n l) (hlow : ∀ x ∈ l, s.getLsbD x.1.toNat = false) : F25 l s = some (l.map (flipS s)) := by
  have hw := while_upto (body := F25_L0 l s) (fun k => ((l.take k).map (flipS s), (k : Int))) l.length (c := .brk (l.map (flipS s)))
    (fun k hk => by
      have hg : l[k]? = some l[k] := List.getElem?_eq_getElem hk
      have hx := hb _ (List.getElem_mem hk)
      have hlo := hlow _ (List.getElem_mem hk)
      have hlen : ((l.take k).map (flipS s)).length = k := by simp; omega
      have happ : ∀ z : Lk, appl 16 ((l.take k).map (flipS s)) [z] = some ((l.take k).map (flipS s) ++ [z]) := fun z => by unfold appl; rw [if_pos]; rw [hlen]; simp; omega
      have hnext : (l.take (k + 1)).map (flipS s) = (l.take k).map (flipS s) ++ [flipS s l[k]] := by rw [List.take_add_one, hg, List.map_append]; rfl
      simp only [F25_L0, idx_some hg, f23_val hx.1 (show l[k].1 < 32 by omega), f23_val hx.2.2.1 (show l[k].2 < 32 by omega), hlo, Option.bind_some, w64_succ hk (by omega), cond_false]
      rw [hnext]
      have hfl : flipS s l[k] = cond (s.getLsbD l[k].2.toNat) (l[k].2, l[k].1) l[k] := rfl
      rw [hfl]
      generalize hA : (l.take k).map (flipS s) = A at *
      cases c : s.getLsbD l[k].2.toNat <;> simp [hk, happ])
    (by simp [F25_L0]) (by intro s h; cases h)
  unfold F25
  have hw' : whileM (F25_L0 l s) ([], 0) = some (.brk (l.map (flipS s))) := by
    have := hw
    simp only [List.take_zero, List.map_nil] at this
    exact this
  rw [hw']
  rfl
theorem ints_self (l : List Int) (hl : l.length ≤ 9223372036854775807) : F29 l l = some true := by
  have h : whileM (F29_L0 l l) 0 = some (found () (scan (fun _ (_ : Int) => (none : Option Bool)) l 0)) := by
    refine while_scan hl _ (fun k e h => ?_) (by simp [F29_L0])
    have hk := lt_of_get h
    simp [F29_L0, idx_some h, hk, going]
  have hn : scan (fun _ (_ : Int) => (none : Option Bool)) l 0 = none := scan_none.2 fun _ _ _ => rfl
  unfold F29
  rw [h, hn]
  simp [found, Ctl.on]
theorem i64_w64 (x : Int) : i64 (w64 x) := by
  unfold i64 w64 IntKind.wrap
  simp [IntKind.bits, IntKind.signed]
  omega
def incS (s : W32) (k : Nat) (y : List Int) : List Int := cond (s.getLsbD k) (y.set k (w64 (y.getD k 0 + 1))) y
def okz (n : Nat) (y : List Int) : Prop := y.length = n ∧ ∀ x ∈ y, i64 x
theorem okz_inc {n : Nat} {s : W32} {k : Nat} {y : List Int} (h : okz n y) : okz n (incS s k y) := by
  unfold incS
  cases s.getLsbD k with
  | false => exact h
  | true =>
    refine ⟨by simp [h.1], fun x hx => ?_⟩
    rcases List.mem_or_eq_of_mem_set hx with q | q
    · exact h.2 x q
    · rw [q]; exact i64_w64 _
theorem getz {n : Nat} {y : List Int} (h : okz n y) {k : Nat} (hk : k < n) : y[k]? = some (y.getD k 0) := by
  have : k < y.length := by rw [h.1]; exact hk
  simp [List.getD_eq_getElem?_getD, List.getElem?_eq_getElem this]
theorem w64_i64 {x : Int} (h : i64 x) : w64 x = x := w64_of h.1 h.2
def incA (n : Nat) (s : W32) (y : List Int) : List Int := (List.range n).foldl (fun y k => incS s k y) y
theorem f28_l1 {n : Nat} (hn : n ≤ 6) (s : W32) (y : List Int) (hy : okz n y) : whileM (F28_L1 (n : Int) s) (y, 0) = some (.brk (incA n s y)) ∧ okz n (incA n s y) :=
  while_foldI (fun k t => (t, (k : Int))) n (incS s) id (fun _ y => okz n y) y hy
    (fun k t hk hI => by
      refine ⟨?_, okz_inc hI⟩
      have hg := getz hI hk
      have hmem : t.getD k 0 ∈ t := List.mem_of_getElem? hg
      have hset : t.set k (t.getD k 0) = t := by
        have hlt : k < t.length := by rw [hI.1]; exact hk
        have : t.getD k 0 = t[k] := by rw [List.getElem?_eq_getElem hlt] at hg; exact (Option.some.inj hg).symm
        rw [this]; exact List.set_getElem_self _
      simp only [F28_L1, idx_some hg, shc_nat, and_one, Option.bind_some, w64_succ hk (by omega)]
      unfold incS
      cases s.getLsbD k with
      | true => simp [hk]
      | false =>
        have hv := w64_i64 (hI.2 _ hmem)
        generalize t.getD k 0 = v at *
        simp [hk, hv, hset])
    (fun t hI => by simp [F28_L1])
theorem f8_l1 {n : Nat} (hn : n ≤ 6) (s : W32) (y : List Int) (hy : okz n y) : whileM (F8_L1 (n : Int) s) (y, 0) = some (.brk (incA n s y)) ∧ okz n (incA n s y) :=
  while_foldI (fun k t => (t, (k : Int))) n (incS s) id (fun _ y => okz n y) y hy
    (fun k t hk hI => by
      refine ⟨?_, okz_inc hI⟩
      have hg := getz hI hk
      simp only [F8_L1, idx_some hg, bitS (show k < 32 by omega), Option.bind_some, w64_succ hk (by omega)]
      unfold incS
      cases s.getLsbD k with
      | true => simp [hk]
      | false => simp [hk])
    (fun t hI => by simp [F8_L1])
theorem okl_flip {n : Nat} {l : List Lk} {s : W32} (h : okl n l) : okl n (l.map (flipS s)) := fun x hx => by
  obtain ⟨y, hy, rfl⟩ := List.mem_map.1 hx
  have := h y hy
  unfold flipS
  cases s.getLsbD y.2.toNat
  · exact this
  · exact ⟨this.2.2.1, this.2.2.2, this.1, this.2.1⟩
def stepR (n : Nat) (t : List Lk × List Int) : List Lk × List Int := (t.1.map (flipS (lowW n t.1)), incA n (lowW n t.1) t.2)
def okt (n : Nat) (t : List Lk × List Int) : Prop := okl n t.1 ∧ t.1.length ≤ 15 ∧ okz n t.2
theorem f21_val {n : Nat} (h1n : 1 ≤ n) (hn : n ≤ 6) {l : List Lk} (hl : l.length ≤ 15) (h : okl n l) (hd : ∀ x ∈ l, offL (n : Int) x = false) : F21 (n : Int) l = some (lowW n l) := by
  obtain ⟨s, e1, e2, e3⟩ := low_same n hn l (by omega) hd
  rw [f50_val hn (by omega) h] at e1
  rw [e2]; exact e1.symm
/-- The two of a link are not the same. -/
def apt (l : List Lk) : Prop := ∀ x ∈ l, x.1 ≠ x.2
theorem off_of {n : Nat} {l : List Lk} (h : okl n l) (ha : apt l) : ∀ x ∈ l, offL (n : Int) x = false := fun x hx => by
  have h1 := h x hx
  have h2 := ha x hx
  simp only [offL, Bool.or_eq_false_iff, decide_eq_false_iff_not, beq_eq_false_iff_ne]
  exact ⟨⟨⟨⟨by omega, by omega⟩, by omega⟩, by omega⟩, h2⟩
theorem apt_flip {l : List Lk} {s : W32} (h : apt l) : apt (l.map (flipS s)) := fun x hx => by
  obtain ⟨y, hy, rfl⟩ := List.mem_map.1 hx
  have := h y hy
  unfold flipS
  cases s.getLsbD y.2.toNat
  · exact this
  · exact fun e => this e.symm
def runs (n m : Nat) (l : List Lk) : List Lk × List Int := (List.range m).foldl (fun t _ => stepR n t) (l, List.replicate n 0)
theorem okt_start {n : Nat} {l : List Lk} (hl : l.length ≤ 15) (h : okl n l) : okz n (List.replicate n (0 : Int)) := ⟨by simp, fun x hx => by rw [(List.mem_replicate.1 hx).2]; unfold i64; omega⟩
theorem f28_l0 {n : Nat} (h1n : 1 ≤ n) (hn : n ≤ 6) {m : Nat} (hm : m ≤ 60) {l : List Lk} (hl : l.length ≤ 15) (h : okl n l) : whileM (F28_L0 (n : Int) (m : Int)) (l, List.replicate n 0, 0) = some (.brk (runs n m l)) ∧ ((runs n m l).1.length ≤ 15 ∧ (runs n m l).2.length = n) := by
  have := while_foldI (body := F28_L0 (n : Int) (m : Int)) (fun k (t : List Lk × List Int) => (t.1, t.2, (k : Int))) m (fun _ t => stepR n t) id (fun _ t => okt n t) (l, List.replicate n 0) ⟨h, hl, okt_start hl h⟩
    (fun k t hk hI => by
      obtain ⟨hi1, hi2, hi3⟩ := hI
      obtain ⟨hz1, hz2⟩ := f28_l1 hn (lowW n t.1) t.2 hi3
      refine ⟨?_, okl_flip hi1, by simpa [stepR] using hi2, hz2⟩
      simp only [F28_L0, f50_val hn (show t.1.length ≤ 9223372036854775807 by omega) hi1, hz1, turnS_val hn t.1 (lowW n t.1) hi2 hi1, Option.bind_some, Ctl.on, w64_succ hk (by omega)]
      simp [hk, stepR])
    (fun t hI => by simp [F28_L0])
  exact ⟨this.1, this.2.2.1, this.2.2.2.1⟩
theorem f8_l0 {n : Nat} (h1n : 1 ≤ n) (hn : n ≤ 6) {m : Nat} (hm : m ≤ 60) {l : List Lk} (hl : l.length ≤ 15) (h : okl n l) (ha : apt l) : whileM (F8_L0 (n : Int) (m : Int)) (l, List.replicate n 0, 0) = some (.brk (runs n m l)) := by
  have := while_foldI (body := F8_L0 (n : Int) (m : Int)) (fun k (t : List Lk × List Int) => (t.1, t.2, (k : Int))) m (fun _ t => stepR n t) id (fun _ t => okt n t ∧ apt t.1) (l, List.replicate n 0) ⟨⟨h, hl, okt_start hl h⟩, ha⟩
    (fun k t hk hI => by
      obtain ⟨⟨hi1, hi2, hi3⟩, hi4⟩ := hI
      obtain ⟨hz1, hz2⟩ := f8_l1 hn (lowW n t.1) t.2 hi3
      refine ⟨?_, ⟨okl_flip hi1, by simpa [stepR] using hi2, hz2⟩, apt_flip hi4⟩
      have hlow : ∀ x ∈ t.1, (lowW n t.1).getLsbD x.1.toNat = false := fun x hx => by
        rw [lowW_bit hn hi1]
        have : t.1.all (fun y => decide (y.1.toNat ≠ x.1.toNat)) = false := by
          rw [List.all_eq_false]; exact ⟨x, hx, by simp⟩
        rw [this, Bool.and_false]
      simp only [F8_L0, f21_val h1n hn hi2 hi1 (off_of hi1 hi4), hz1, turnedS_val hn t.1 (lowW n t.1) hi2 hi1 hlow, Option.bind_some, Ctl.on, w64_succ hk (by omega)]
      simp [hk, stepR])
    (fun t hI => by simp [F8_L0])
  exact this.1

theorem law_ForkRuns (a0 : Int) (_ : i64 a0) (a1 : List Lk) (h : a1.length ≤ 9223372036854775807) (_ : ∀ x ∈ a1, i64 x.1 ∧ i64 x.2) (a2 : Int) (_ : i64 a2) : F8 a0 a1 a2 = some true := by
  obtain ⟨r, h1, h2, h3⟩ := check_same a0 a1 h
  unfold F8 F28
  rw [h1, h2]
  by_cases c : r = 0
  · subst c
    obtain ⟨q1, q2, q3⟩ := h3 rfl
    have hl := len15 h1
    obtain ⟨n, rfl⟩ : ∃ n : Nat, a0 = n := ⟨a0.toNat, by omega⟩
    have hok := okl_of q3
    have hap : apt a1 := fun x hx => by
      have := q3 x hx
      simp only [offL, Bool.or_eq_false_iff, beq_eq_false_iff_ne] at this
      exact this.2
    cases d : ((decide (a2 < 0)) || (decide (a2 > 60))) with
    | true => simp [d]
    | false =>
      have d' := d
      simp only [Bool.or_eq_false_iff, decide_eq_false_iff_not] at d'
      obtain ⟨m, rfl⟩ : ∃ m : Nat, a2 = m := ⟨a2.toNat, by omega⟩
      obtain ⟨s, e1, e2⟩ := round_same (n := n) (by omega) (by omega) hl hok
      cases s with
      | true => simp [e1, e2, d]
      | false =>
        have hm : mkl (n : Int) 8 (0 : Int) = some (List.replicate n 0) := by unfold mkl; rw [if_pos ⟨by omega, by omega, by omega⟩]; simp
        have h54 : F54 a1 = some a1 := by unfold F54 appl; rw [if_pos]; simp; simp; omega
        obtain ⟨w1, w2, w3⟩ := f28_l0 (n := n) (by omega) (by omega) (m := m) (by omega) hl hok
        have w4 := f8_l0 (n := n) (by omega) (by omega) (m := m) (by omega) hl hok hap
        simp only [e1, e2, d, hm, h54, w1, w4, Option.bind_some, Ctl.on, cond_false, cond_true, bne_self_eq_false, beq_self_eq_true, Bool.false_eq_true, if_false, Bool.and_false]
        simp [twos_self _ (show (runs n m a1).1.length ≤ 9223372036854775807 by omega), ints_self _ (show (runs n m a1).2.length ≤ 9223372036854775807 by omega)]
  · have c1 : (r != 0) = true := by simpa using c
    have c2 : (r == 0) = false := by simpa using c
    simp [c1, c2, c]
end Go.Proofs.Ytdjmlbjkendobaa
