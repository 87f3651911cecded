/-
  The plain law of SuspectPlays.
-/
import Derived.Test.YthfkdepcnhhepaaSM
import Derived.Test.YthfkdepcnhhepaaPw
import Derived.Test.YthfkdepcnhhepaaBk6
namespace Go.Proofs.Ythfkdepcnhhepaa
open Go Go.Bk
set_option linter.unusedVariables false
set_option linter.unusedSimpArgs false

abbrev Mv := Int × Int × Int × Int
def vi (y : List Int) (j : Nat) : Int := y.getD j 0
theorem idx_vi {y : List Int} {j : Nat} (h : j < y.length) : idx y (j : Int) = some (vi y j) := idx_some (by simp [vi, List.getD_eq_getElem?_getD, List.getElem?_eq_getElem h])
theorem idx_set {α : Type} {y : List α} {j : Nat} (h : j < y.length) (v : α) : idx (y.set j v) (j : Int) = some v := idx_some (by rw [List.getElem?_set_self h])
theorem vi_set {y : List Int} {i b : Nat} {v : Int} (hi : i < y.length) : vi (y.set i v) b = if b = i then v else vi y b := by
  unfold vi
  rw [List.getD_eq_getElem?_getD, List.getD_eq_getElem?_getD, List.getElem?_set]
  by_cases c : i = b
  · subst c; simp [hi]
  · have : ¬ b = i := fun e => c e.symm
    simp [c, this]
theorem w64i {x : Int} (h0 : -9000000000 ≤ x) (h1 : x ≤ 9000000000) : w64 x = x := w64_of (by omega) (by omega)
theorem app8 (l : List Int) (z : Int) (h : l.length ≤ 60) : appl 8 l [z] = some (l ++ [z]) := by
  unfold appl; rw [if_pos]; simp; omega

theorem f131_val : ∀ n : Nat, n < 7 → F131 1 (n : Int) = some (0, (n : Int)) := by
  intro n hn
  have : n = 0 ∨ n = 1 ∨ n = 2 ∨ n = 3 ∨ n = 4 ∨ n = 5 ∨ n = 6 := by omega
  rcases this with rfl | rfl | rfl | rfl | rfl | rfl | rfl <;> rfl
theorem rep_val {n : Nat} (h1 : 1 ≤ n) (h6 : n ≤ 6) : F63 [1] (n : Int) = some (List.replicate n 1) := by
  have e1 : u64 (([1] : List Int).length : Int) = 1 := by rfl
  have e2 : u64 (n : Int) = n := u64_of (by omega) (by omega)
  have e3 : w64 (n : Int) = n := w64_of (by omega) (by omega)
  have hm : mkl (n : Int) 8 (0 : Int) = some (List.replicate n 0) := by unfold mkl; rw [if_pos ⟨by omega, by omega, by omega⟩]; simp
  have hd : decide ((n : Int) < 0) = false := by rw [decide_eq_false_iff_not]; omega
  have hd2 : decide ((n : Int) > 9223372036854775807) = false := by rw [decide_eq_false_iff_not]; omega
  have key : whileM F63_L0 ((cpy (List.replicate n (0 : Int)) (0 : Int).toNat [1]), ((min ([1] : List Int).length ((List.replicate n (0 : Int)).length - (0 : Int).toNat) : Nat) : Int)) = some (.brk (List.replicate n 1)) := by
    have : n = 1 ∨ n = 2 ∨ n = 3 ∨ n = 4 ∨ n = 5 ∨ n = 6 := by omega
    rcases this with rfl | rfl | rfl | rfl | rfl | rfl
    · exact whileM_brk (by rfl)
    · exact (whileM_nxt (s' := ([1, 1], 2)) (by rfl)).trans (whileM_brk (by rfl))
    · exact (whileM_nxt (s' := ([1, 1, 0], 2)) (by rfl)).trans ((whileM_nxt (s' := ([1, 1, 1], 3)) (by rfl)).trans (whileM_brk (by rfl)))
    · exact (whileM_nxt (s' := ([1, 1, 0, 0], 2)) (by rfl)).trans ((whileM_nxt (s' := ([1, 1, 1, 1], 4)) (by rfl)).trans (whileM_brk (by rfl)))
    · exact (whileM_nxt (s' := ([1, 1, 0, 0, 0], 2)) (by rfl)).trans ((whileM_nxt (s' := ([1, 1, 1, 1, 0], 4)) (by rfl)).trans ((whileM_nxt (s' := ([1, 1, 1, 1, 1], 5)) (by rfl)).trans (whileM_brk (by rfl))))
    · exact (whileM_nxt (s' := ([1, 1, 0, 0, 0, 0], 2)) (by rfl)).trans ((whileM_nxt (s' := ([1, 1, 1, 1, 0, 0], 4)) (by rfl)).trans ((whileM_nxt (s' := ([1, 1, 1, 1, 1, 1], 6)) (by rfl)).trans (whileM_brk (by rfl))))
  unfold F63 F95
  simp only [e1, e2, f131_val n (by omega), hd, cond_false, Option.bind_some, hd2, Bool.or_false, e3, hm, key, Ctl.on]
  rfl

section
variable {n : Nat}
/-- What both hold at the same time. -/
structure SR (n k : Nat) (H W Y : List Int) (now wr : Int) : Prop where
  lh : H.length = n
  lw : W.length = n
  ly : Y.length = n
  now0 : 0 ≤ now
  now1 : now ≤ k
  wr0 : 0 ≤ wr
  wr1 : wr ≤ k
  old : ∀ i, i < n → 0 ≤ vi H i ∧ vi H i ≤ now ∧ vi Y i = now - vi H i ∧ 1 ≤ vi W i ∧ vi W i ≤ k + 1
theorem tick {H W : List Int} {now : Int} (hn6 : n ≤ 6) (hH : H.length = n) (hW : W.length = n) (h0 : 0 ≤ now) (h1 : now ≤ 60) (hb : ∀ i, i < n → 0 ≤ vi H i ∧ vi H i ≤ now) : ∀ (m j : Nat) (y : List Int) (S : BitVec 32), j + m = n → y.length = n →
    (∀ i, i < n → vi y i = if i < j then now + 1 - vi H i else now - vi H i) →
    ∃ S' y', whileM (F29_L1 H W now) (S, (j : Int)) = some (.brk S') ∧ whileM (F30_L2 (n : Int) W) (y, S, (j : Int)) = some (.brk (y', S')) ∧ y'.length = n ∧ ∀ i, i < n → vi y' i = now + 1 - vi H i
  | 0, j, y, S, hj, hy, hv => by
    have hd : decide ((j : Int) < (H.length : Int)) = false := by rw [decide_eq_false_iff_not]; omega
    have hd2 : decide ((j : Int) < (n : Int)) = false := by rw [decide_eq_false_iff_not]; omega
    refine ⟨S, y, whileM_brk (by simp only [F29_L1, hd, cond_false]), whileM_brk (by simp only [F30_L2, hd2, cond_false]), hy, fun i hi => by rw [hv i hi, if_pos (by omega)]⟩
  | m + 1, j, y, S, hj, hy, hv => by
    have hjn : j < n := by omega
    have hd : decide ((j : Int) < (H.length : Int)) = true := by rw [decide_eq_true_eq]; omega
    have hd2 : decide ((j : Int) < (n : Int)) = true := by rw [decide_eq_true_eq]; omega
    have hu : (u64 (j : Int)).toNat = j := u64_nat (by omega)
    have hyj := hv j hjn
    rw [if_neg (by omega)] at hyj
    have hbj := hb j hjn
    have hw1 : w64 ((j : Int) + 1) = ((j + 1 : Nat) : Int) := w64_succ (n := n) hjn (by omega)
    have hset : ∀ i, i < n → vi (y.set j (now + 1 - vi H j)) i = if i < j + 1 then now + 1 - vi H i else now - vi H i := fun i hi => by
      rw [vi_set (by omega)]
      by_cases c : i = j
      · subst c; rw [if_pos rfl, if_pos (by omega)]
      · rw [if_neg c, hv i hi]
        by_cases c2 : i < j
        · rw [if_pos c2, if_pos (by omega)]
        · rw [if_neg c2, if_neg (by omega)]
    have step : ∀ S', F29_L1 H W now (S, (j : Int)) = some (.nxt (S', ((j + 1 : Nat) : Int))) → F30_L2 (n : Int) W (y, S, (j : Int)) = some (.nxt (y.set j (now + 1 - vi H j), S', ((j + 1 : Nat) : Int))) →
        ∃ S' y', whileM (F29_L1 H W now) (S, (j : Int)) = some (.brk S') ∧ whileM (F30_L2 (n : Int) W) (y, S, (j : Int)) = some (.brk (y', S')) ∧ y'.length = n ∧ ∀ i, i < n → vi y' i = now + 1 - vi H i := fun S' a b => by
      obtain ⟨S2, y2, p, q, r, s⟩ := tick hn6 hH hW h0 h1 hb m (j + 1) (y.set j (now + 1 - vi H j)) S' (by omega) (by simpa using hy) hset
      exact ⟨S2, y2, by rw [whileM_nxt a, p], by rw [whileM_nxt b, q], r, s⟩
    have ex : w64 (w64 (now + 1) - vi H j) = now + 1 - vi H j := by rw [w64i (x := now + 1) (by omega) (by omega), w64i (by omega) (by omega)]
    have ey : w64 (vi y j + 1) = now + 1 - vi H j := by rw [hyj, w64i (by omega) (by omega)]; omega
    have hs : idx (y.set j (now + 1 - vi H j)) (j : Int) = some (now + 1 - vi H j) := idx_set (by omega) _
    cases c : decide (now + 1 - vi H j > vi W j) with
    | true =>
      refine step (S ||| (1#32 <<< j)) ?_ ?_
      · simp only [F29_L1, hd, cond_true, idx_vi (y := H) (by omega : j < H.length), idx_vi (y := W) (by omega : j < W.length), Option.bind_some, ex, c, shc_nat, hw1]
      · simp only [F30_L2, hd2, cond_true, idx_vi (y := y) (by omega : j < y.length), idx_vi (y := W) (by omega : j < W.length), Option.bind_some, ey, Int.toNat_natCast, hs, c, hu, hw1]
    | false =>
      refine step S ?_ ?_
      · simp only [F29_L1, hd, cond_true, idx_vi (y := H) (by omega : j < H.length), idx_vi (y := W) (by omega : j < W.length), Option.bind_some, ex, c, cond_false, hw1]
      · simp only [F30_L2, hd2, cond_true, idx_vi (y := y) (by omega : j < y.length), idx_vi (y := W) (by omega : j < W.length), Option.bind_some, ey, Int.toNat_natCast, hs, c, cond_false, hw1]

theorem out_bit {S : BitVec 32} {i : Nat} (hi : i < 32) (h : S.getLsbD i = true) : S - (1#32 <<< i) = S &&& ~~~(1#32 <<< i) := by
  have e : S = (S &&& ~~~(1#32 <<< i)) ||| (1#32 <<< i) := by
    apply BitVec.eq_of_getLsbD_eq
    intro b hb
    rw [BitVec.getLsbD_or, BitVec.getLsbD_and, BitVec.getLsbD_not, bit_one hi]
    by_cases c : b = i
    · subst c; simp [h, hi]
    · simp [c, hb]
  have d : (S &&& ~~~(1#32 <<< i)) &&& (1#32 <<< i) = 0#32 := by
    apply BitVec.eq_of_getLsbD_eq
    intro b hb
    simp only [BitVec.getLsbD_and, BitVec.getLsbD_not, BitVec.getLsbD_zero]
    cases (1#32 <<< i).getLsbD b <;> simp
  have s : (S &&& ~~~(1#32 <<< i)) + (1#32 <<< i) = S := by rw [BitVec.add_eq_or_of_and_eq_zero _ _ d, ← e]
  exact (BitVec.eq_sub_iff_add_eq.2 s).symm
theorem f64_val {S : BitVec 32} {i : Nat} (hi : i < 32) : F64 S (i : Int) = some (S.getLsbD i) := by
  have h1 : decide ((i : Int) ≥ 0) = true := by rw [decide_eq_true_eq]; omega
  have h2 : decide ((i : Int) < 32) = true := by rw [decide_eq_true_eq]; omega
  unfold F64
  rw [h1, h2, u64_nat (by omega), and_bit hi]; rfl
theorem plays {ms : List Mv} (hn1 : 1 ≤ n) (hn6 : n ≤ 6) (hms : ms.length ≤ 60) : ∀ (d k : Nat) (H W Y codes : List Int) (S : BitVec 32) (now wr : Int), k + d = ms.length → SR n k H W Y now wr → codes.length = k →
    ∃ (c H' W' Y' : List Int) (S' : BitVec 32) (now' wr' : Int), whileM (F29_L0 (n : Int) ms) (codes, H, W, S, wr, now, (k : Int)) = some (.brk (c, H', W', S', wr')) ∧
      whileM (F30_L1 (n : Int) ms) (codes, W, Y, S, wr, (k : Int)) = some (.brk (c, W', Y', S', wr')) ∧ c.length = ms.length ∧ W'.length = n
  | 0, k, H, W, Y, codes, S, now, wr, hk, R, hc => by
    have hkl : decide ((k : Int) < (ms.length : Int)) = false := by rw [decide_eq_false_iff_not]; omega
    exact ⟨codes, H, W, Y, S, now, wr, whileM_brk (by simp only [F29_L0, hkl, cond_false]), whileM_brk (by simp only [F30_L1, hkl, cond_false]), by omega, R.lw⟩
  | d + 1, k, H, W, Y, codes, S, now, wr, hk, R, hc => by
    have hkm : k < ms.length := by omega
    have hkl : decide ((k : Int) < (ms.length : Int)) = true := by rw [decide_eq_true_eq]; omega
    have hg : ms[k]? = some ms[k] := List.getElem?_eq_getElem hkm
    have hsucc := w64_succ hkm (show ms.length ≤ 9223372036854775807 by omega)
    have step : ∀ (c : Int) (H' W' Y' : List Int) (S' : BitVec 32) (now' wr' : Int), SR n (k + 1) H' W' Y' now' wr' →
        F29_L0 (n : Int) ms (codes, H, W, S, wr, now, (k : Int)) = some (.nxt (codes ++ [c], H', W', S', wr', now', ((k + 1 : Nat) : Int))) →
        F30_L1 (n : Int) ms (codes, W, Y, S, wr, (k : Int)) = some (.nxt (codes ++ [c], W', Y', S', wr', ((k + 1 : Nat) : Int))) →
        ∃ (c H' W' Y' : List Int) (S' : BitVec 32) (now' wr' : Int), whileM (F29_L0 (n : Int) ms) (codes, H, W, S, wr, now, (k : Int)) = some (.brk (c, H', W', S', wr')) ∧
          whileM (F30_L1 (n : Int) ms) (codes, W, Y, S, wr, (k : Int)) = some (.brk (c, W', Y', S', wr')) ∧ c.length = ms.length ∧ W'.length = n := fun c H' W' Y' S' now' wr' R' a b => by
      obtain ⟨c2, H2, W2, Y2, S2, n2, r2, p, q, r, s⟩ := plays hn1 hn6 hms d (k + 1) H' W' Y' (codes ++ [c]) S' now' wr' (by omega) R' (by simp; omega)
      exact ⟨c2, H2, W2, Y2, S2, n2, r2, by rw [whileM_nxt a, p], by rw [whileM_nxt b, q], r, s⟩
    generalize he : ms[k] = e at hg
    obtain ⟨K, F, T, V⟩ := e
    have ha := fun c => app8 codes c (show codes.length ≤ 60 by omega)
    have R1 : SR n (k + 1) H W Y now wr := ⟨R.lh, R.lw, R.ly, R.now0, by have := R.now1; omega, R.wr0, by have := R.wr1; omega, fun i hi => by have := R.old i hi; omega⟩
    have hn0 := R.now0
    have hn1' := R.now1
    have hw0 := R.wr0
    have hw1 := R.wr1
    by_cases c2 : K = 2
    · subst c2
      obtain ⟨S', y', p, q, ly, hv⟩ := tick (n := n) (H := H) (W := W) (now := now) hn6 R.lh R.lw R.now0 (by omega) (fun i hi => ⟨(R.old i hi).1, (R.old i hi).2.1⟩) n 0 Y S (by omega) R.ly (fun i hi => by rw [if_neg (by omega), (R.old i hi).2.2.1])
      have p' : whileM (F29_L1 H W now) (S, 0) = _ := p
      have q' : whileM (F30_L2 (n : Int) W) (Y, S, 0) = _ := q
      have hw : w64 (now + 1) = now + 1 := w64i (by omega) (by omega)
      refine step 0 H W y' S' (now + 1) wr ⟨R.lh, R.lw, ly, by omega, by push_cast; omega, R.wr0, by push_cast; omega, fun i hi => by have := R.old i hi; have := hv i hi; push_cast; omega⟩ ?_ ?_
      · simp [F29_L0, hkm, idx_some hg, p', Ctl.on, hw, ha, hsucc]
      · simp [F30_L1, hkm, idx_some hg, q', Ctl.on, ha, hsucc]
    · have b2 : (K == 2) = false := by simpa using c2
      have b2' : (K != 2) = true := by simpa using c2
      by_cases c1 : K = 1
      · subst c1
        cases c3 : ((decide (F < 0)) || (decide (F ≥ (n : Int)))) with
        | true =>
          refine step 2 H W Y S now wr R1 ?_ ?_
          · simp only [F29_L0, hkl, idx_some hg, c3, ha, hsucc, Option.bind_some, cond_true, cond_false]; rfl
          · simp only [F30_L1, hkl, idx_some hg, c3, ha, hsucc, Option.bind_some, cond_true, cond_false]; rfl
        | false =>
          simp only [Bool.or_eq_false_iff, decide_eq_false_iff_not] at c3
          obtain ⟨i, rfl⟩ : ∃ i : Nat, F = i := ⟨F.toNat, by omega⟩
          have hi : i < n := by omega
          have c3' : ((decide ((i : Int) < 0)) || (decide ((i : Int) ≥ (n : Int)))) = false := by simp only [Bool.or_eq_false_iff, decide_eq_false_iff_not]; omega
          have hR := R.old i hi
          have hb : ((((S >>> i) &&& (1#32)) == (1#32))) = S.getLsbD i := by rw [and_one]; cases S.getLsbD i <;> rfl
          have hu : (u64 (i : Int)).toNat = i := u64_nat (by omega)
          have hwv : w64 (vi W i + 1) = vi W i + 1 := w64i (by omega) (by omega)
          have hww : w64 (wr + 1) = wr + 1 := w64i (by omega) (by omega)
          have iH := idx_vi (y := H) (j := i) (by have := R.lh; omega)
          have iW := idx_vi (y := W) (j := i) (by have := R.lw; omega)
          have iY := idx_vi (y := Y) (j := i) (by have := R.ly; omega)
          cases cb : S.getLsbD i with
          | true =>
            refine step 0 (H.set i now) (W.set i (vi W i + 1)) (Y.set i 0) (S &&& ~~~(1#32 <<< i)) now (wr + 1) ⟨by simp [R.lh], by simp [R.lw], by simp [R.ly], by omega, by push_cast; omega, by omega, by push_cast; omega, fun b hb' => ?_⟩ ?_ ?_
            · have := R.old b hb'
              have l1 := R.lh
              have l2 := R.lw
              have l3 := R.ly
              rw [vi_set (by omega), vi_set (by omega), vi_set (by omega)]
              by_cases cc : b = i
              · subst cc; simp only [if_true]; push_cast; omega
              · simp only [if_neg cc]; push_cast; omega
            · simp only [F29_L0, hkl, idx_some hg, c3', ha, hsucc, Option.bind_some, cond_true, cond_false, shc_nat, hb, cb, iH, iW, hwv, hww, Int.toNat_natCast]; rfl
            · simp only [F30_L1, hkl, idx_some hg, c3', ha, hsucc, Option.bind_some, cond_true, cond_false, f64_val (S := S) (i := i) (by omega), hu, cb, iY, iW, hwv, hww, Int.toNat_natCast, out_bit (by omega : i < 32) cb]; rfl
          | false =>
            refine step 0 (H.set i now) W (Y.set i 0) S now wr ⟨by simp [R.lh], R.lw, by simp [R.ly], by omega, by push_cast; omega, by omega, by push_cast; omega, fun b hb' => ?_⟩ ?_ ?_
            · have := R.old b hb'
              have l1 := R.lh
              have l2 := R.lw
              have l3 := R.ly
              rw [vi_set (by omega), vi_set (by omega)]
              by_cases cc : b = i
              · subst cc; simp only [if_true]; push_cast; omega
              · simp only [if_neg cc]; push_cast; omega
            · simp only [F29_L0, hkl, idx_some hg, c3', ha, hsucc, Option.bind_some, cond_true, cond_false, shc_nat, hb, cb, iH, iW, Int.toNat_natCast]; rfl
            · simp only [F30_L1, hkl, idx_some hg, c3', ha, hsucc, Option.bind_some, cond_true, cond_false, f64_val (S := S) (i := i) (by omega), cb, iY, iW, Int.toNat_natCast]; rfl
      · have b1' : (K != 1) = true := by simpa using c1
        refine step 6 H W Y S now wr R1 ?_ ?_
        · simp only [F29_L0, hkl, idx_some hg, b1', b2', ha, hsucc, Option.bind_some, cond_true, Bool.and_true]
        · simp only [F30_L1, hkl, idx_some hg, b1', b2, ha, hsucc, Option.bind_some, cond_true, cond_false]
end
theorem codes_self (l : List Int) (hl : l.length ≤ 9223372036854775807) : F18 l l = some true := by
  have h : whileM (F18_L0 l l) 0 = some (found () (scan (fun _ (_ : Int) => (none : Option Bool)) l 0)) := by
    refine while_scan hl _ (fun k e h => ?_) (by simp [F18_L0])
    have hk := lt_of_get h
    simp [F18_L0, idx_some h, hk, going]
  have hn : scan (fun _ (_ : Int) => (none : Option Bool)) l 0 = none := scan_none.2 fun _ _ _ => rfl
  unfold F18
  rw [h, hn]
  simp [found, Ctl.on]
theorem ints_self (l : List Int) (hl : l.length ≤ 9223372036854775807) : F25 l l = some true := by
  have h : whileM (F25_L0 l l) 0 = some (found () (scan (fun _ (_ : Int) => (none : Option Bool)) l 0)) := by
    refine while_scan hl _ (fun k e h => ?_) (by simp [F25_L0])
    have hk := lt_of_get h
    simp [F25_L0, idx_some h, hk, going]
  have hn : scan (fun _ (_ : Int) => (none : Option Bool)) l 0 = none := scan_none.2 fun _ _ _ => rfl
  unfold F25
  rw [h, hn]
  simp [found, Ctl.on]
theorem ones_val {n : Nat} (hn : n ≤ 6) : whileM (F30_L0 (n : Int)) (List.replicate n 0, 0) = some (.brk (List.replicate n 1)) := by
  have hw := while_upto (body := F30_L0 (n : Int)) (fun m => (List.replicate m (1 : Int) ++ List.replicate (n - m) 0, (m : Int))) n (c := .brk (List.replicate n 1)) (fun k hk => ?_) ?_ (fun s h => by cases h)
  · simpa using hw
  · have hd : decide ((k : Int) < (n : Int)) = true := by rw [decide_eq_true_eq]; omega
    have hi : idx (List.replicate k (1 : Int) ++ List.replicate (n - k) 0) (k : Int) = some 0 := by
      rw [idx_nat, List.getElem?_append_right (by simp), List.length_replicate, Nat.sub_self, List.getElem?_replicate, if_pos (by omega)]
    have hs : (List.replicate k (1 : Int) ++ List.replicate (n - k) 0).set k 1 = List.replicate (k + 1) (1 : Int) ++ List.replicate (n - (k + 1)) 0 := by
      rw [List.set_append_right _ _ (by simp)]
      obtain ⟨m, hm⟩ : ∃ m, n - k = m + 1 := ⟨n - k - 1, by omega⟩
      rw [hm, List.replicate_succ]
      simp only [List.length_replicate, Nat.sub_self, List.set_cons_zero]
      rw [List.replicate_succ' (n := k), List.append_assoc, show n - (k + 1) = m by omega]; rfl
    simp only [F30_L0, hd, cond_true, hi, Option.bind_some, Int.toNat_natCast, hs, w64_succ hk (show n ≤ 9223372036854775807 by omega)]
  · have hd : decide ((n : Int) < (n : Int)) = false := by rw [decide_eq_false_iff_not]; omega
    simp [F30_L0]
theorem law_SuspectPlays (a0 : Int) (_ : i64 a0) (a1 : List Mv) (h : a1.length ≤ 9223372036854775807) (_ : ∀ x ∈ a1, i64 x.1 ∧ i64 x.2.1 ∧ i64 x.2.2.1 ∧ i64 x.2.2.2) : F7 a0 a1 = some true := by
  have n18 : F18 [] [] = some true := codes_self [] (by simp)
  have n25 : F25 [] [] = some true := ints_self [] (by simp)
  unfold F7 F29 F21
  cases c : (((decide (a0 < 1)) || (decide (a0 > 6))) || (decide ((a1.length : Int) > 60))) with
  | true => simp [n18, n25]
  | false =>
    simp only [Bool.or_eq_false_iff, decide_eq_false_iff_not] at c
    obtain ⟨n, rfl⟩ : ∃ n : Nat, a0 = n := ⟨a0.toNat, by omega⟩
    have m1 : mkl (n : Int) 8 (0 : Int) = some (List.replicate n 0) := by unfold mkl; rw [if_pos ⟨by omega, by omega, by omega⟩]; simp
    have hz : ∀ i z, i < n → vi (List.replicate n z) i = z := fun i z hi => by unfold vi; rw [List.getD_eq_getElem?_getD, List.getElem?_replicate]; simp [hi]
    obtain ⟨cs, H, W, Y, S, now, wr, w1, w2, l1, l2⟩ := plays (n := n) (by omega) (by omega) (ms := a1) (by omega) a1.length 0 (List.replicate n 0) (List.replicate n 1) (List.replicate n 0) [] 0#32 0 0 (by omega)
      ⟨by simp, by simp, by simp, by omega, by omega, by omega, by omega, fun i hi => by rw [hz i 0 hi, hz i 1 hi]; omega⟩ rfl
    have w1' : whileM (F29_L0 (n : Int) a1) ([], List.replicate n 0, List.replicate n 1, 0, 0, 0, 0) = _ := w1
    have w2' : whileM (F30_L1 (n : Int) a1) ([], List.replicate n 1, List.replicate n 0, 0, 0, 0) = _ := w2
    have h30 : F30 (n : Int) a1 = some (cs, S, wr, W) := by
      unfold F30
      simp only [m1, Option.bind_some, ones_val (n := n) (by omega), w2', Ctl.on]
    simp only [m1, h30, Option.bind_some, w1', Ctl.on, cond_false, cond_true, beq_self_eq_true, codes_self cs (by omega), ints_self W (by omega), rep_val (n := n) (by omega) (by omega), Bool.and_true, Bool.true_and]
end Go.Proofs.Ythfkdepcnhhepaa
