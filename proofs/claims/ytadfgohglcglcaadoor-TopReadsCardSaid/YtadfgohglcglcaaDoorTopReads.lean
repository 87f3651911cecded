/-
  The tied card TopReadsCardSaid: for every input the call of the Go function beaconry/beaconrytop.TopReads returns true, and each argument reads afterwards as it read before. No condition narrows the inputs.
-/
import Derived.Test.YtadfgohglcglcaaDoorCards
import Derived.Test.YtadfgohglcglcaaDoorTie
import Derived.Lay
import Derived.LaidOnce
import Derived.SevenTiedAt
import Derived.LaidMore
import Derived.Stop.Joined
import Derived.WalkKit
import Derived.ProofKit
import Derived.Test.YtadfgohglcglcaaDoorBk40
import Derived.Test.YtadfgohglcglcaaDoorZW
import Derived.Test.YtadfgohglcglcaaDoorNW
import Derived.Test.YtadfgohglcglcaaDoorKM
import Derived.Test.YtadfgohglcglcaaDoorPl
import Derived.Test.YtadfgohglcglcaaDoorPw
import Derived.Laws.RangeAny
import Derived.Laws.RangeString
import Derived.Lib.IndexLaws
import Derived.Sort.Walk0
import Derived.Test.YtadfgohglcglcaaDoorBk6
import Derived.Test.YtadfgohglcglcaaDoorXM
import Derived.Test.YtadfgohglcglcaaDoorZM
namespace Go.Proofs.YtadfgohglcglcaaDoor
open Go Go.Bk
set_option linter.unusedVariables false
set_option linter.unusedSimpArgs false
theorem sEq_iff (x y : ByteArray) : sEq x y = decide (x = y) := by
  unfold sEq
  rw [ByteArray.toList_eq, ByteArray.toList_eq]
  by_cases h : x = y
  · subst h; simp
  · rw [decide_eq_false h, beq_eq_false_iff_ne]
    intro e
    apply h
    rw [← lb_bl x, ← lb_bl y]
    exact congrArg lb e
theorem bget (s : ByteArray) (i : Nat) : s[i]? = (bl s)[i]? := by
  unfold bl
  by_cases h : i < s.size
  · rw [getElem?_pos s i h, Array.getElem?_toList, Array.getElem?_eq_getElem h]; rfl
  · rw [getElem?_neg s i h, Array.getElem?_toList, Array.getElem?_eq_none (by simpa using h)]
theorem bl_len (s : ByteArray) : (bl s).length = s.size := by unfold bl; simp
theorem bl_extract (s : ByteArray) (a b : Nat) : bl (s.extract a b) = ((bl s).take b).drop a := by
  unfold bl
  rw [ByteArray.data_extract, Array.toList_extract, List.drop_take]
theorem bl_inj {x y : ByteArray} (h : bl x = bl y) : x = y := by rw [← lb_bl x, ← lb_bl y, h]
def inr (c : UInt8) : Bool := decide (97 ≤ c.toNat) && decide (c.toNat ≤ 122)
def fR (x : Nat) : Bool := decide ((x : Int) < 97) || decide ((x : Int) > 122)
theorem fR_lo (c : UInt8) : fR c.toNat = !inr c := by
  unfold fR inr
  by_cases a : 97 ≤ c.toNat <;> by_cases b : c.toNat ≤ 122 <;> simp [a, b] <;> omega
theorem idxF (s : ByteArray) : ∀ fuel pos, s.size ≤ pos + fuel → decide (0 ≤ Lib.idxFuncFrom fR true s fuel pos) = ((bl s).drop pos).any (fun c => !inr c)
  | 0, pos, h => by
    rw [List.drop_eq_nil_of_le (by rw [bl_len]; omega)]
    rfl
  | fuel + 1, pos, h => by
    unfold Lib.idxFuncFrom
    by_cases hp : pos < s.size
    · rw [if_pos hp]
      have hg : (bl s)[pos]? = some (s[pos]'hp) := by rw [← bget, getElem?_pos s pos hp]
      have hd : (bl s).drop pos = s[pos]'hp :: (bl s).drop (pos + 1) := by
        rw [← List.getElem_cons_drop (by rw [bl_len]; exact hp)]
        congr 1
      rw [hd, List.any_cons]
      by_cases ha : (s[pos]'hp).toNat < 128
      · rw [decode_ascii s pos hp ha]
        simp only [fR_lo]
        cases inr (s[pos]'hp) with
        | true =>
          simp only [Bool.not_true, Bool.false_or, Bool.false_eq_true, if_false]
          exact idxF s fuel (pos + 1) (by omega)
        | false => simp
      · obtain ⟨h1, _⟩ := decode_high s pos hp (by omega)
        have h2 : fR (Utf8.decode s pos).1 = true := by unfold fR; simp; omega
        have h3 : inr (s[pos]'hp) = false := by unfold inr; simp; omega
        rw [if_pos h2, h3]
        simp
    · rw [if_neg hp, List.drop_eq_nil_of_le (by rw [bl_len]; omega)]
      rfl
theorem goodP_val (s : ByteArray) : goodP s = (!(bl s).isEmpty && (bl s).all inr) := by
  unfold goodP Lib.idxFunc
  have h := idxF s s.size 0 (by omega)
  unfold fR at h
  rw [h, List.drop_zero, sEq_iff, Bool.not_or]
  congr 1
  · have : (s = ByteArray.mk #[]) ↔ bl s = [] := ⟨fun e => by rw [e]; rfl, fun e => bl_inj (by rw [e]; rfl)⟩
    rw [decide_eq_decide.2 this]
    by_cases e : bl s = []
    · have : (bl s).isEmpty = true := by simpa using e
      rw [this, decide_eq_true e]
    · have : (bl s).isEmpty = false := by simpa using e
      rw [this, decide_eq_false e]
  · rw [List.all_eq_not_any_not]
/-- All parts are there and good. -/
def okL : Bool → List UInt8 → Bool
  | st, [] => !st
  | st, c :: cs => if c = 47 then !st && okL true cs else inr c && okL false cs
theorem okL_nil (st : Bool) : okL st [] = !st := rfl
theorem okL_cons (st : Bool) (c : UInt8) (cs : List UInt8) : okL st (c :: cs) = if c = 47 then !st && okL true cs else inr c && okL false cs := rfl
theorem inr47 : inr 47 = false := by decide
theorem okL_end {bs : List UInt8} (h : Lib.indexByte bs 47 < 0) : ∀ st, okL st bs = (bs.all inr && (!st || !bs.isEmpty)) := by
  induction bs with
  | nil => intro st; simp [okL]
  | cons b bs ih =>
    intro st
    unfold Lib.indexByte at h
    by_cases c : b = 47
    · subst c; simp at h
    · have hc : (b == 47) = false := by simpa using c
      rw [hc] at h
      have h2 : Lib.indexByte bs 47 < 0 := by
        have := Lib.indexByte_ge bs 47
        by_cases q : Lib.indexByte bs 47 = -1
        · omega
        · have q2 : (Lib.indexByte bs 47 == -1) = false := by simpa using q
          simp [q2] at h
          omega
      rw [okL_cons, if_neg c, ih h2 false]
      cases st <;> simp
theorem okL_more {bs : List UInt8} {i : Nat} (h : Lib.indexByte bs 47 = (i : Int)) : ∀ st, okL st bs = (((bs.take i).all inr && (!st || !(bs.take i).isEmpty)) && okL true (bs.drop (i + 1))) := by
  induction bs generalizing i with
  | nil => unfold Lib.indexByte at h; omega
  | cons b bs ih =>
    intro st
    unfold Lib.indexByte at h
    by_cases c : b = 47
    · subst c
      have : i = 0 := by simp at h; omega
      subst this
      rw [okL_cons, if_pos rfl]
      simp
    · have hc : (b == 47) = false := by simpa using c
      rw [hc] at h
      by_cases q : Lib.indexByte bs 47 = -1
      · simp [q] at h
      · have q2 : (Lib.indexByte bs 47 == -1) = false := by simpa using q
        simp only [q2, Bool.false_eq_true, if_false] at h
        have := Lib.indexByte_ge bs 47
        obtain ⟨j, hj⟩ := Int.eq_ofNat_of_zero_le (show 0 ≤ Lib.indexByte bs 47 by omega)
        have : i = j + 1 := by omega
        subst this
        rw [okL_cons, if_neg c, ih hj false, List.drop_succ_cons, List.take_succ_cons]
        cases st <;> simp [Bool.and_assoc]
theorem allG_val : ∀ (n : Nat) (s : ByteArray), s.size ≤ n → allG n s = okL true (bl s)
  | 0, s, h => by
    have : bl s = [] := List.eq_nil_of_length_eq_zero (by rw [bl_len]; omega)
    show goodP s = _
    rw [goodP_val, this]; rfl
  | n + 1, s, h => by
    unfold allG
    by_cases c : cutAt s < 0
    · rw [decide_eq_true c, cond_true, goodP_val, okL_end (bs := bl s) c true]
      simp [Bool.and_comm]
    · obtain ⟨i, hi⟩ := Int.eq_ofNat_of_zero_le (show 0 ≤ cutAt s by omega)
      have hi' : Lib.indexByte (bl s) 47 = (i : Int) := hi
      rw [decide_eq_false c, cond_false, hi, okL_more hi' true, goodP_val, bl_extract]
      have hlt : i < s.size := by
        have h1 := (Lib.indexByte_some hi').1
        have h2 := (List.getElem?_eq_some_iff.1 h1).1
        rw [bl_len] at h2; exact h2
      rw [Int.toNat_natCast, allG_val n (s.extract (i + 1) s.size) (by rw [ByteArray.size_extract]; omega), bl_extract, List.drop_zero]
      have : (bl s).take s.size = bl s := List.take_of_length_le (by rw [bl_len]; exact Nat.le_refl _)
      rw [this]
      simp [Bool.and_comm]
/-- What a name is. -/
def nameB (p : ByteArray) : Bool := match bl p with
  | [] => false
  | c :: cs => if c = 47 then cs.isEmpty || okL true cs else false

theorem sidx_at {p : ByteArray} {j : Nat} {c : UInt8} (h : (bl p)[j]? = some c) : sidx p (j : Int) = some (c.toNat : Int) := by
  unfold sidx
  rw [if_pos (by omega), Int.toNat_natCast, bget, h]; rfl
theorem u47 (c : UInt8) : ((c.toNat : Int) == 47) = decide (c = 47) := by
  by_cases h : c = 47
  · subst h; rfl
  · rw [decide_eq_false h, beq_eq_false_iff_ne]
    intro e
    apply h
    have : c.toNat = (47 : UInt8).toNat := by
      have h2 : (47 : UInt8).toNat = 47 := rfl
      omega
    exact UInt8.toNat_inj.1 this
theorem uinr (c : UInt8) : (decide ((c.toNat : Int) < 97) || decide ((c.toNat : Int) > 122)) = !inr c := by
  have := fR_lo c
  unfold fR at this
  exact this
theorem sslc_at {s : ByteArray} {a b : Nat} (h1 : a ≤ b) (h2 : b ≤ s.size) : sslc s (a : Int) (b : Int) = some (s.extract a b) := by
  unfold sslc
  rw [if_pos ⟨by omega, by omega, by omega⟩]
  simp
/-- The program's look. -/
theorem f44_val (p : ByteArray) : F44 p (ByteArray.mk #[47]) = some (match bl p with
    | c :: _ => if c = 47 then (p.extract 1 p.size, true) else (p, false)
    | [] => (p, false)) := by
  have hs : (((ByteArray.mk #[47]).size : Nat) : Int) = ((1 : Nat) : Int) := rfl
  unfold F44 F50 F56
  rw [hs]
  cases hp : bl p with
  | nil =>
    have : p.size = 0 := by rw [← bl_len, hp]; rfl
    have hd : decide ((p.size : Int) ≥ ((1 : Nat) : Int)) = false := by rw [decide_eq_false_iff_not]; omega
    rw [hd]
    rfl
  | cons c cs =>
    have hl : p.size = cs.length + 1 := by rw [← bl_len, hp]; rfl
    have hd : decide ((p.size : Int) ≥ ((1 : Nat) : Int)) = true := by rw [decide_eq_true_eq]; omega
    have h1 : sslc p 0 ((1 : Nat) : Int) = some (p.extract 0 1) := sslc_at (a := 0) (by omega) (by omega)
    have h2 : sslc p ((1 : Nat) : Int) (p.size : Int) = some (p.extract 1 p.size) := sslc_at (by omega) (by omega)
    have he : sEq (p.extract 0 1) (ByteArray.mk #[47]) = decide (c = 47) := by
      rw [sEq_iff]
      apply decide_eq_decide.2
      constructor
      · intro h
        have := congrArg bl h
        rw [bl_extract, hp] at this
        simpa [bl] using this
      · intro h
        subst h
        apply bl_inj
        rw [bl_extract, hp]
        rfl
    rw [hd, h1, h2]
    simp only [cond_true, Option.bind_some, he]
    by_cases hc : c = 47 <;> simp [hc]
theorem f35_val {p : ByteArray} (hs : p.size ≤ 9223372036854775807) : F35 p = some (nameB p) := by
  unfold F35 nameB
  rw [f44_val, sEq_iff]
  cases hp : bl p with
  | nil =>
    have : p ≠ ByteArray.mk #[47] := fun e => by rw [e] at hp; cases hp
    simp [this]
  | cons c cs =>
    have hl : p.size = cs.length + 1 := by rw [← bl_len, hp]; rfl
    by_cases hc : c = 47
    · subst hc
      by_cases he : cs = []
      · subst he
        have : p = ByteArray.mk #[47] := bl_inj (by rw [hp]; rfl)
        simp [this]
      · have : p ≠ ByteArray.mk #[47] := fun e => by
          rw [e] at hp
          have h2 : bl (ByteArray.mk #[47]) = [47] := rfl
          rw [h2] at hp
          exact he (List.cons.inj hp).2.symm
        have h3 : cs.isEmpty = false := by simpa using he
        have h4 : (p.extract 1 p.size).size ≤ 9223372036854775807 := by rw [ByteArray.size_extract]; omega
        have h5 : bl (p.extract 1 p.size) = cs := by
          rw [bl_extract, hp, List.take_of_length_le (by simp; omega)]; rfl
        simp only [this, decide_false, cond_false, if_true, Option.bind_some, Bool.not_true, if_pos h4, h3, Bool.false_or]
        rw [allG_val _ _ (Nat.le_refl _), h5]
    · have : p ≠ ByteArray.mk #[47] := fun e => by
        rw [e] at hp
        have h2 : bl (ByteArray.mk #[47]) = [47] := rfl
        rw [h2] at hp
        exact hc (List.cons.inj hp).1.symm
      simp [this, hc]
/-! The reference's look. -/
/-- No fault behind a letter. -/
def nb : UInt8 → List UInt8 → Bool
  | _, [] => true
  | pv, c :: cs => (if c = 47 then !decide (pv = 47) else inr c) && nb c cs
theorem okL_nb : ∀ (cs : List UInt8) (pv : UInt8), okL (decide (pv = 47)) cs = (!decide ((pv :: cs).getLast (by simp) = 47) && nb pv cs)
  | [], pv => by
    rw [okL_nil]
    by_cases h : pv = 47 <;> simp [nb, h]
  | c :: cs, pv => by
    have ih := okL_nb cs c
    rw [okL_cons, List.getLast_cons (by simp)]
    unfold nb
    by_cases h : c = 47
    · rw [if_pos h, if_pos h]
      rw [decide_eq_true h] at ih
      rw [ih]
      cases decide (pv = 47) <;> simp
    · rw [if_neg h, if_neg h]
      rw [decide_eq_false h] at ih
      rw [ih]
      cases inr c <;> simp
theorem f39_loop {p : ByteArray} (hsz : p.size ≤ 9223372036854775807) : ∀ (cs : List UInt8) (j : Nat) (pv : UInt8), (bl p).drop j = cs → 0 < j → j ≤ p.size → (bl p)[j - 1]? = some pv → whileM (F39_L0 p) (j : Int) = some (if nb pv cs = true then .brk () else .ret false)
  | [], j, pv, hd, h0, hj, hp => by
    have hl : p.size ≤ j := by
      have := List.drop_eq_nil_iff.1 hd
      rwa [bl_len] at this
    have e : decide ((j : Int) < (p.size : Int)) = false := by rw [decide_eq_false_iff_not]; omega
    have hb : F39_L0 p (j : Int) = some (.brk ()) := by simp only [F39_L0, e, cond_false]
    rw [whileM_brk hb]
    rfl
  | c :: cs, j, pv, hd, h0, hj, hp => by
    have hg : (bl p)[j]? = some c := by
      have := congrArg (fun l => l[0]?) hd
      simpa [List.getElem?_drop] using this
    have hlt : j < p.size := by have := (List.getElem?_eq_some_iff.1 hg).1; rwa [bl_len] at this
    have hd2 : (bl p).drop (j + 1) = cs := by
      rw [← List.drop_drop, hd]; rfl
    have e : decide ((j : Int) < (p.size : Int)) = true := by rw [decide_eq_true_eq]; omega
    have e0 : decide ((j : Int) > 0) = true := by rw [decide_eq_true_eq]; omega
    have hj1 : w64 ((j : Int) - 1) = ((j - 1 : Nat) : Int) := by rw [w64_of (by omega) (by omega)]; omega
    have hj2 : w64 ((j : Int) + 1) = ((j + 1 : Nat) : Int) := w64_succ hlt hsz
    have ih := f39_loop hsz cs (j + 1) c hd2 (by omega) (by omega) (by simpa using hg)
    have hbody : F39_L0 p (j : Int) = (if (if c = 47 then !decide (pv = 47) else inr c) = true then some (.nxt ((j + 1 : Nat) : Int)) else some (.ret false)) := by
      have hu := uinr c
      simp only [F39_L0, e, e0, cond_true, sidx_at hg, sidx_at hp, hj1, hj2, Option.bind_some, u47]
      by_cases h : c = 47
      · rw [decide_eq_true h, if_pos h]
        by_cases q : pv = 47 <;> simp [q]
      · rw [decide_eq_false h, if_neg h, cond_false]
        cases hx : decide ((c.toNat : Int) < 97) <;> cases hy : decide ((c.toNat : Int) > 122) <;> rw [hx, hy] at hu <;> simp at hu <;> simp [hu]
    unfold nb
    by_cases h : (if c = 47 then !decide (pv = 47) else inr c) = true
    · rw [if_pos h] at hbody
      rw [whileM_nxt hbody, ih, h, Bool.true_and]
    · rw [if_neg h] at hbody
      rw [whileM_ret hbody]
      have : (if c = 47 then !decide (pv = 47) else inr c) = false := eq_false_of_ne_true h
      rw [this]; rfl
theorem f39_val {p : ByteArray} (hs : p.size ≤ 9223372036854775807) : F39 p = some (nameB p) := by
  unfold F39 nameB
  rw [sEq_iff, sEq_iff]
  cases hp : bl p with
  | nil =>
    have h1 : p ≠ ByteArray.mk #[47] := fun e => by rw [e] at hp; cases hp
    have h2 : p = ByteArray.mk #[] := bl_inj (by rw [hp]; rfl)
    rw [decide_eq_false h1, decide_eq_true h2]
    rfl
  | cons c cs =>
    have hl : p.size = cs.length + 1 := by rw [← bl_len, hp]; rfl
    have h2 : p ≠ ByteArray.mk #[] := fun e => by rw [e] at hp; cases hp
    have h0 : (bl p)[0]? = some c := by rw [hp]; rfl
    have hs0 : sidx p 0 = some (c.toNat : Int) := sidx_at h0
    have hlast : (bl p)[cs.length]? = some ((c :: cs).getLast (by simp)) := by
      rw [hp, List.getLast_eq_getElem]
      simp
    have hs1 : sidx p (w64 ((p.size : Int) - 1)) = some (((c :: cs).getLast (by simp)).toNat : Int) := by
      rw [show w64 ((p.size : Int) - 1) = ((cs.length : Nat) : Int) by rw [w64_of (by omega) (by omega)]; omega]
      exact sidx_at hlast
    show _ = some (if c = 47 then cs.isEmpty || okL true cs else false)
    by_cases hc : c = 47
    · subst hc
      by_cases he : cs = []
      · subst he
        have : p = ByteArray.mk #[47] := bl_inj (by rw [hp]; rfl)
        rw [decide_eq_true this]
        rfl
      · have h1 : p ≠ ByteArray.mk #[47] := fun e => by
          rw [e] at hp
          have h2 : bl (ByteArray.mk #[47]) = [47] := rfl
          rw [h2] at hp
          exact he (List.cons.inj hp).2.symm
        have h3 : cs.isEmpty = false := by simpa using he
        have hst : F39_L0 p 0 = some (.nxt 1) := by
          have e : decide ((0 : Int) < (p.size : Int)) = true := by rw [decide_eq_true_eq]; omega
          simp only [F39_L0, e, cond_true, hs0, Option.bind_some, u47]
          rfl
        have hlp := f39_loop (p := p) (by omega) cs 1 47 (by rw [hp]; rfl) (by omega) (by omega) (by rw [hp]; rfl)
        have hok := okL_nb cs 47
        rw [show decide ((47 : UInt8) = 47) = true from rfl] at hok
        rw [decide_eq_false h1, decide_eq_false h2, cond_false, cond_false, hs0, Option.bind_some, if_pos rfl, h3, Bool.false_or, hok]
        have e5 : (((47 : UInt8).toNat : Int) != 47) = false := rfl
        rw [e5, Option.bind_some, cond_false, hs1, Option.bind_some, u47, Option.bind_some]
        cases decide ((47 :: cs).getLast (by simp) = 47) with
        | true => rfl
        | false =>
          rw [cond_false, whileM_nxt hst]
          have hlp' : whileM (F39_L0 p) 1 = _ := hlp
          rw [hlp']
          cases nb 47 cs <;> rfl
    · have h1 : p ≠ ByteArray.mk #[47] := fun e => by
        rw [e] at hp
        have h2 : bl (ByteArray.mk #[47]) = [47] := rfl
        rw [h2] at hp
        exact hc (List.cons.inj hp).1.symm
      have e5 : ((c.toNat : Int) != 47) = true := by rw [bne, u47, decide_eq_false hc]; rfl
      rw [decide_eq_false h1, decide_eq_false h2, cond_false, cond_false, hs0, Option.bind_some, e5, Option.bind_some, cond_true, if_neg hc]
      rfl
end Go.Proofs.YtadfgohglcglcaaDoor

namespace Go.Proofs.YtadfgohglcglcaaDoor
open Go Go.Bk
set_option linter.unusedVariables false
set_option linter.unusedSimpArgs false
theorem last_ex {p : ByteArray} {cs : List UInt8} (hp : bl p = 47 :: cs) (hs : p.size ≤ 9223372036854775807) : ∀ k, k < p.size → ∃ i, i ≤ k ∧ (bl p)[i]? = some 47 ∧ whileM (F55_L0 p 47) (k : Int) = some (.ret (i : Int)) ∧ whileM (F32_L0 p) (k : Int) = some (.brk (i : Int)) := by
  intro k
  induction k with
  | zero =>
    intro hk
    have hg : (bl p)[0]? = some 47 := by rw [hp]; rfl
    have e : decide (((0 : Nat) : Int) ≥ 0) = true := rfl
    refine ⟨0, Nat.le_refl _, hg, whileM_ret ?_, whileM_brk ?_⟩
    · simp only [F55_L0, e, cond_true, sidx_at hg, Option.bind_some]; rfl
    · simp only [F32_L0, sidx_at hg, Option.bind_some]; rfl
  | succ k ih =>
    intro hk
    have hl : k + 1 < (bl p).length := by rw [bl_len]; exact hk
    have hg : (bl p)[k + 1]? = some (bl p)[k + 1] := List.getElem?_eq_getElem hl
    have e : decide (((k + 1 : Nat) : Int) ≥ 0) = true := by rw [decide_eq_true_eq]; omega
    have hw : w64 (((k + 1 : Nat) : Int) - 1) = ((k : Nat) : Int) := by rw [w64_of (by omega) (by omega)]; omega
    generalize (bl p)[k + 1] = c at hg
    by_cases hc : c = 47
    · subst hc
      refine ⟨k + 1, Nat.le_refl _, hg, whileM_ret ?_, whileM_brk ?_⟩
      · simp only [F55_L0, e, cond_true, sidx_at hg, Option.bind_some]; rfl
      · simp only [F32_L0, sidx_at hg, Option.bind_some]; rfl
    · obtain ⟨i, h1, h2, h3, h4⟩ := ih (by omega)
      have hu := u47 c
      rw [decide_eq_false hc] at hu
      refine ⟨i, by omega, h2, ?_, ?_⟩
      · rw [whileM_nxt (s' := (k : Int)) ?_, h3]
        simp only [F55_L0, e, cond_true, sidx_at hg, Option.bind_some, hu, cond_false, hw]
      · rw [whileM_nxt (s' := (k : Int)) ?_, h4]
        have hu2 : ((c.toNat : Int) != 47) = true := by rw [bne, hu]; rfl
        simp only [F32_L0, sidx_at hg, Option.bind_some, hu2, cond_true, hw]
theorem name_cons {p : ByteArray} (h : nameB p = true) : ∃ cs, bl p = 47 :: cs := by
  unfold nameB at h
  cases hp : bl p with
  | nil => rw [hp] at h; cases h
  | cons c cs =>
    rw [hp] at h
    by_cases hc : c = 47
    · exact ⟨cs, by rw [hc]⟩
    · simp [hc] at h
/-- The parent, and the last part. -/
noncomputable def prt (p : ByteArray) : ByteArray × ByteArray := (F42 p).getD (ByteArray.empty, ByteArray.empty)
/-- A name as it may be. -/
structure OkN (p : ByteArray) : Prop where
  nm : nameB p = true
  sz : p.size ≤ 9223372036854775807
theorem prt_val {p : ByteArray} (h : OkN p) : F42 p = some (prt p) ∧ F32 p = some (prt p) := by
  have hb := h.sz
  obtain ⟨cs, hp⟩ := name_cons h.nm
  have hl : p.size = cs.length + 1 := by rw [← bl_len, hp]; rfl
  have hz : (0 : Int) < (p.size : Int) := by omega
  obtain ⟨i, h1, h2, h3, h4⟩ := last_ex hp (by omega) (p.size - 1) (by omega)
  have hs : w64 ((p.size : Int) - 1) = ((p.size - 1 : Nat) : Int) := by rw [w64_of (by omega) (by omega)]; omega
  have hi : i < p.size := by omega
  have hi1 : w64 ((i : Int) + 1) = ((i + 1 : Nat) : Int) := w64_succ hi (by omega)
  have hx5 : sslc p ((i + 1 : Nat) : Int) (p.size : Int) = some (p.extract (i + 1) p.size) := sslc_at (by omega) (by omega)
  have key : ∃ r, F42 p = some r ∧ F32 p = some r := by
    unfold F42 F49 F55 F32
    rw [hs, h3, h4]
    simp only [Option.bind_some, Ctl.on, hi1, hx5]
    by_cases c : i = 0
    · subst c
      have e0 : (((0 : Nat) : Int) == 0) = true := rfl
      have e1 : mx ((0 : Nat) : Int) 1 = ((1 : Nat) : Int) := rfl
      have e2 : sslc p 0 ((1 : Nat) : Int) = some (p.extract 0 1) := sslc_at (a := 0) (by omega) (by omega)
      have e3 : sslc p 1 (p.size : Int) = some (p.extract 1 p.size) := sslc_at (a := 1) (by omega) (by omega)
      have e4 : p.extract 0 1 = ByteArray.mk #[47] := by apply bl_inj; rw [bl_extract, hp]; rfl
      rw [e0, e1, e2, e3, e4]
      exact ⟨_, rfl, rfl⟩
    · have e0 : ((i : Int) == 0) = false := by rw [beq_eq_false_iff_ne]; omega
      have e1 : mx (i : Int) 1 = (i : Int) := by unfold mx; split <;> omega
      have e2 : sslc p 0 (i : Int) = some (p.extract 0 i) := sslc_at (a := 0) (by omega) (by omega)
      rw [e0, e1, e2]
      exact ⟨_, rfl, rfl⟩
  obtain ⟨r, k1, k2⟩ := key
  have : prt p = r := by unfold prt; rw [k1]; rfl
  rw [this]
  exact ⟨k1, k2⟩

/-! Sorting. -/
theorem sLt_iff (x y : ByteArray) : sLt x y = decide (bl x < bl y) := by
  unfold sLt
  rw [ByteArray.toList_eq, ByteArray.toList_eq]
  exact Go.Proofs.bytesLess_eq _ _
def insD (x : ByteArray) : List ByteArray → List ByteArray
  | [] => [x]
  | z :: rs => if sLt x z = true then z :: insD x rs else x :: z :: rs
theorem insD_perm (x : ByteArray) : ∀ rs, (insD x rs).Perm (x :: rs)
  | [] => List.Perm.refl _
  | z :: rs => by
    unfold insD
    split
    · exact ((insD_perm x rs).cons z).trans (List.Perm.swap x z rs)
    · exact List.Perm.refl _
def Dsc (rs : List ByteArray) : Prop := rs.Pairwise fun a b => bl b ≤ bl a
theorem insD_dsc {x : ByteArray} : ∀ {rs : List ByteArray}, Dsc rs → Dsc (insD x rs)
  | [], _ => List.pairwise_singleton _ _
  | z :: rs, h => by
    obtain ⟨h1, h2⟩ := List.pairwise_cons.1 h
    unfold insD
    split
    · rename_i c
      rw [sLt_iff, decide_eq_true_eq] at c
      refine List.pairwise_cons.2 ⟨fun y hy => ?_, insD_dsc h2⟩
      rcases List.mem_cons.1 ((insD_perm x rs).mem_iff.1 hy) with rfl | hy
      · exact List.le_of_lt c
      · exact h1 y hy
    · rename_i c
      rw [sLt_iff, decide_eq_true_eq] at c
      have hz : bl z ≤ bl x := List.not_lt.1 c
      refine List.pairwise_cons.2 ⟨fun y hy => ?_, h⟩
      rcases List.mem_cons.1 hy with rfl | hy
      · exact hz
      · exact List.le_trans (h1 y hy) hz
theorem dsc_sorted {rs c : List ByteArray} (h : Dsc rs) (hp : rs.Perm c) : rs.reverse = sortedS c := by
  unfold sortedS
  have tr : ∀ a b c : List UInt8, decide (a ≤ b) = true → decide (b ≤ c) = true → decide (a ≤ c) = true := fun a b c h1 h2 => by simp only [decide_eq_true_eq] at *; exact List.le_trans h1 h2
  have to : ∀ a b : List UInt8, (decide (a ≤ b) || decide (b ≤ a)) = true := fun a b => by simp only [Bool.or_eq_true, decide_eq_true_eq]; exact List.le_total a b
  have e : (rs.reverse).map bl = (c.map bl).mergeSort fun x y => decide (x ≤ y) := by
    refine List.Perm.eq_of_pairwise (le := fun a b => decide (a ≤ b) = true) (fun a b _ _ h1 h2 => ?_) ?_ (List.pairwise_mergeSort tr to _) ((((List.reverse_perm rs).trans hp).map bl).trans (List.mergeSort_perm _ _).symm)
    · simp only [decide_eq_true_eq] at h1 h2
      exact List.le_antisymm h1 h2
    · rw [List.pairwise_map, List.pairwise_reverse]
      exact h.imp fun q => by rw [decide_eq_true_eq]; exact q
  rw [← e, List.map_map]
  have : (lb ∘ bl) = id := funext lb_bl
  rw [this, List.map_id]
theorem f41_l2 : ∀ (rp : List ByteArray) (x : ByteArray) (tl : List ByteArray), rp.length ≤ 1000 → whileM F41_L2 (rp.reverse ++ x :: tl, (rp.length : Int)) = some (.brk ((insD x rp).reverse ++ tl))
  | [], x, tl, h => by
    refine whileM_brk ?_
    have e : decide ((([] : List ByteArray).length : Int) > 0) = false := rfl
    simp only [F41_L2, e, cond_false, Option.bind_some]
    rfl
  | z :: rs, x, tl, h => by
    have hl : rs.length ≤ 1000 := by simp at h; omega
    have e : decide ((((z :: rs).length : Nat) : Int) > 0) = true := by rw [decide_eq_true_eq]; simp
    have hy : (z :: rs).reverse ++ x :: tl = rs.reverse ++ z :: x :: tl := by simp
    have hn : (z :: rs).length = rs.length + 1 := rfl
    have i1 : idx (rs.reverse ++ z :: x :: tl) ((rs.length + 1 : Nat) : Int) = some x := idx_some (by rw [List.getElem?_append_right (by simp)]; simp)
    have i2 : idx (rs.reverse ++ z :: x :: tl) ((rs.length : Nat) : Int) = some z := idx_some (by rw [List.getElem?_append_right (by simp)]; simp)
    have hw : w64 (((rs.length + 1 : Nat) : Int) - 1) = ((rs.length : Nat) : Int) := by rw [w64_of (by omega) (by omega)]; omega
    rw [hy, hn]
    unfold insD
    have hb : F41_L2 (rs.reverse ++ z :: x :: tl, ((rs.length + 1 : Nat) : Int)) = (if sLt x z = true then some (.nxt (rs.reverse ++ x :: z :: tl, (rs.length : Int))) else some (.brk (rs.reverse ++ z :: x :: tl))) := by
      rw [hn] at e
      simp only [F41_L2, e, cond_true, i1, i2, hw, Option.bind_some]
      cases c : sLt x z with
      | false => rfl
      | true =>
        have s1 : (rs.reverse ++ z :: x :: tl).set (rs.length + 1) z = rs.reverse ++ z :: z :: tl := by
          rw [List.set_append, if_neg (by simp)]; simp
        have s2 : (rs.reverse ++ z :: z :: tl).set rs.length x = rs.reverse ++ x :: z :: tl := by
          rw [List.set_append]; simp
        have i3 : idx (rs.reverse ++ z :: z :: tl) ((rs.length : Nat) : Int) = some z := idx_some (by rw [List.getElem?_append_right (by simp)]; simp)
        simp only [cond_true, Int.toNat_natCast, s1, i3, s2, Option.bind_some, if_true]
    by_cases c : sLt x z = true
    · rw [if_pos c] at hb
      rw [whileM_nxt hb, f41_l2 rs x (z :: tl) hl, if_pos c]
      simp
    · rw [if_neg c] at hb
      rw [whileM_brk hb, if_neg c]
      simp
def dsc (c : List ByteArray) : List ByteArray := c.foldl (fun rs x => insD x rs) []
theorem dsc_snoc (c : List ByteArray) (x : ByteArray) : dsc (c ++ [x]) = insD x (dsc c) := by unfold dsc; rw [List.foldl_append]; rfl
theorem dsc_fold : ∀ (c rs : List ByteArray), Dsc rs → Dsc (c.foldl (fun rs x => insD x rs) rs) ∧ (c.foldl (fun rs x => insD x rs) rs).Perm (c ++ rs)
  | [], rs, h => ⟨h, List.Perm.refl _⟩
  | x :: c, rs, h => by
    obtain ⟨h1, h2⟩ := dsc_fold c (insD x rs) (insD_dsc h)
    refine ⟨h1, h2.trans ?_⟩
    exact ((insD_perm x rs).append_left c).trans List.perm_middle
theorem dsc_ok (c : List ByteArray) : Dsc (dsc c) ∧ (dsc c).Perm c := by
  have := dsc_fold c [] List.Pairwise.nil
  rwa [List.append_nil] at this
theorem f41_sort {c : List ByteArray} (hl : c.length ≤ 1000) : whileM F41_L1 (c, 1) = some (.brk (sortedS c)) := by
  have hfin : (dsc c).reverse = sortedS c := dsc_sorted (dsc_ok c).1 (dsc_ok c).2
  by_cases h0 : c = []
  · subst h0
    refine whileM_brk ?_
    have e : decide ((1 : Int) < ((([] : List ByteArray).length : Nat) : Int)) = false := rfl
    simp only [F41_L1, e, cond_false]
    rw [← hfin]; rfl
  · have h1 : 0 < c.length := List.length_pos_iff.2 h0
    have hst : ((fun (k : Nat) => ((dsc (c.take (k + 1))).reverse ++ c.drop (k + 1), ((k + 1 : Nat) : Int))) 0) = (c, 1) := by
      match c, h0 with
      | x :: cs, _ => simp [dsc, insD]
    rw [← hst]
    refine while_upto (fun (k : Nat) => ((dsc (c.take (k + 1))).reverse ++ c.drop (k + 1), ((k + 1 : Nat) : Int))) (c.length - 1) (fun k hk => ?_) ?_ (fun s h => by cases h)
    · have hlen : ((dsc (c.take (k + 1))).reverse ++ c.drop (k + 1)).length = c.length := by
        rw [List.length_append, List.length_reverse, (dsc_ok _).2.length_eq, List.length_take, List.length_drop]; omega
      have e : decide (((k + 1 : Nat) : Int) < ((((dsc (c.take (k + 1))).reverse ++ c.drop (k + 1)).length : Nat) : Int)) = true := by rw [hlen, decide_eq_true_eq]; omega
      have hd : c.drop (k + 1) = c[k + 1] :: c.drop (k + 1 + 1) := (List.getElem_cons_drop (by omega)).symm
      have hn : ((dsc (c.take (k + 1))).length : Int) = ((k + 1 : Nat) : Int) := by rw [(dsc_ok _).2.length_eq, List.length_take]; omega
      have hin := f41_l2 (dsc (c.take (k + 1))) c[k + 1] (c.drop (k + 1 + 1)) (by rw [(dsc_ok _).2.length_eq, List.length_take]; omega)
      rw [hn, ← hd] at hin
      have ht : c.take (k + 1 + 1) = c.take (k + 1) ++ [c[k + 1]] := by rw [List.take_add_one, List.getElem?_eq_getElem (by omega)]; rfl
      have hw : w64 (((k + 1 : Nat) : Int) + 1) = ((k + 1 + 1 : Nat) : Int) := w64_succ (n := c.length) (by omega) (by omega)
      simp only [F41_L1, e, cond_true, hin, Option.bind_some, Ctl.on, hw, ht, dsc_snoc]
    · have hlen : ((dsc (c.take (c.length - 1 + 1))).reverse ++ c.drop (c.length - 1 + 1)) = (dsc c).reverse := by
        rw [Nat.sub_add_cancel h1, List.take_length, List.drop_length, List.append_nil]
      have e : decide (((c.length - 1 + 1 : Nat) : Int) < (((dsc c).reverse.length : Nat) : Int)) = false := by
        rw [List.length_reverse, (dsc_ok _).2.length_eq, decide_eq_false_iff_not]; omega
      rw [hfin] at e hlen
      simp only [hlen, F41_L1, e, cond_false]
end Go.Proofs.YtadfgohglcglcaaDoor

namespace Go.Proofs.YtadfgohglcglcaaDoor
open Go Go.Bk
set_option linter.unusedVariables false
set_option linter.unusedSimpArgs false
abbrev Nd := ByteArray × ByteArray × Int
abbrev Mp := ByteArray → Option (ByteArray × Int)
abbrev Tl := Int × ByteArray × Int × List ByteArray
abbrev Dd := Int × ByteArray × ByteArray × Int
/-- The program's tree and the reference's. -/
structure R (M : Mp) (l : List Nd) : Prop where
  en : Enum M l
  nm : ∀ x ∈ l, OkN x.1
  len : l.length ≤ 12
theorem R.mem {M : Mp} {l : List Nd} (h : R M l) {p : ByteArray} {v : ByteArray × Int} : M p = some v ↔ (p, v) ∈ l := (h.en.2 p v).symm
theorem R.absent {M : Mp} {l : List Nd} (h : R M l) {p : ByteArray} : M p = none ↔ ∀ x ∈ l, x.1 ≠ p := by
  constructor
  · intro hp x hx e
    have := h.mem.2 (show (x.1, x.2) ∈ l from hx)
    rw [e, hp] at this; cases this
  · intro hx
    cases hp : M p with
    | none => rfl
    | some v => exact (hx _ (h.mem.1 hp) rfl).elim
/-- Where a name stands. -/
theorem f40_val {l : List Nd} (hl : l.length ≤ 1000) (p : ByteArray) : F40 l p = some (match scan (fun k (x : Nd) => if x.1 = p then some (k : Int) else none) l 0 with
    | some i => i
    | none => -1) := by
  have h : whileM (F40_L0 l p) 0 = some (found () (scan (fun k (x : Nd) => if x.1 = p then some (k : Int) else none) l 0)) := by
    refine while_scan (by omega) _ (fun k e hk => ?_) (by simp [F40_L0])
    have hlt := lt_of_get hk
    have hd : decide ((k : Int) < (l.length : Int)) = true := by simpa using hlt
    simp only [F40_L0, hd, cond_true, idx_some hk, Option.bind_some, sEq_iff]
    by_cases c : e.1 = p
    · simp [c, going]
    · simp [c, going]
  unfold F40
  rw [h]
  cases scan (fun k (x : Nd) => if x.1 = p then some (k : Int) else none) l 0 <;> rfl
theorem where_some {M : Mp} {l : List Nd} (h : R M l) {p : ByteArray} {v : ByteArray × Int} (hp : M p = some v) : ∃ i : Nat, i < l.length ∧ l[i]? = some (p, v) ∧ F40 l p = some (i : Int) := by
  rw [f40_val (by have := h.len; omega)]
  cases hs : scan (fun k (x : Nd) => if x.1 = p then some (k : Int) else none) l 0 with
  | none =>
    exfalso
    have hm := h.mem.1 hp
    obtain ⟨i, hi⟩ := List.getElem?_of_mem hm
    have := scan_none.1 hs i _ hi
    simp at this
  | some r =>
    obtain ⟨i, e, hi, hv⟩ := scan_val hs
    by_cases c : e.1 = p
    · simp [c] at hv
      subst hv
      have h2 := h.mem.2 (show (e.1, e.2) ∈ l from List.mem_of_getElem? hi)
      rw [c, hp] at h2
      have h3 : v = e.2 := Option.some.inj h2
      refine ⟨i, lt_of_get hi, ?_, rfl⟩
      rw [hi, h3, ← c]
    · simp [c] at hv
theorem where_none {M : Mp} {l : List Nd} (h : R M l) {p : ByteArray} (hp : M p = none) : F40 l p = some (-1) := by
  rw [f40_val (by have := h.len; omega)]
  have : scan (fun k (x : Nd) => if x.1 = p then some (k : Int) else none) l 0 = none := scan_none.2 fun i e hi => by
    have := h.absent.1 hp e (List.mem_of_getElem? hi)
    simp [this]
  rw [this]
/-- What stands below. -/
noncomputable def pick (path : ByteArray) (x : Nd) : Option ByteArray := if (prt x.1).1 = path ∧ x.1 ≠ ByteArray.mk #[47] then some (prt x.1).2 else none
theorem app16 (l : List ByteArray) (z : ByteArray) (h : l.length ≤ 1000) : appl 16 l [z] = some (l ++ [z]) := by
  unfold appl; rw [if_pos]; simp; omega
theorem pick_len (path : ByteArray) (l : List Nd) : (l.filterMap (pick path)).length ≤ l.length := List.length_filterMap_le _ _
theorem f37_fold (path : ByteArray) : ∀ (q : List Nd) (y : List ByteArray), (∀ x ∈ q, OkN x.1) → y.length + q.length ≤ 1000 → foldR (F37_L0 path) q y = some (.nxt (y ++ q.filterMap (pick path)))
  | [], y, _, _ => by simp [foldR]
  | x :: q, y, hn, hl => by
    have hx := prt_val (hn x (List.mem_cons_self ..))
    have hl' : y.length + (q.length + 1) ≤ 1000 := hl
    rw [foldR_cons]
    have hb : F37_L0 path x.1 x.2 y = some (.nxt (match pick path x with
        | some z => y ++ [z]
        | none => y)) := by
      unfold F37_L0 pick
      rw [hx.1]
      simp only [Option.bind_some, sEq_iff]
      by_cases c1 : (prt x.1).1 = path <;> by_cases c2 : x.1 = ByteArray.mk #[47] <;> simp [c1, c2, app16 y _ (by omega)]
    rw [hb]
    simp only []
    rw [f37_fold path q _ (fun z hz => hn z (List.mem_cons_of_mem _ hz)) (by cases pick path x <;> simp <;> omega)]
    rw [List.filterMap_cons]
    cases pick path x <;> simp
theorem f37_val {M : Mp} {l : List Nd} (h : R M l) (path : ByteArray) : F37 M path = some (sortedS (l.filterMap (pick path)), M) := by
  have hl := h.len
  have hall : ∀ q, Enum M q → ∃ t, foldR (F37_L0 path) q [] = some (.nxt t) ∧ t.Perm (l.filterMap (pick path)) := fun q hq => by
    have hp := Enum.perm hq h.en
    refine ⟨q.filterMap (pick path), ?_, hp.filterMap _⟩
    have := f37_fold path q [] (fun x hx => h.nm x (hp.mem_iff.1 hx)) (by rw [hp.length_eq]; simp; omega)
    simpa using this
  obtain ⟨c, hc⟩ := rangeQ_of (R := List.Perm) (ρ := Unit) (β := Unit) ⟨l, h.en⟩ hall
  obtain ⟨_, hc2⟩ := rangeQ_spec hc
  obtain ⟨t, ht, htc⟩ := hc2 l h.en
  obtain ⟨t', ht', htl⟩ := hall l h.en
  rw [ht] at ht'
  obtain rfl : t = t' := by simpa using ht'
  have hcl : c.Perm (l.filterMap (pick path)) := htc.symm.trans htl
  unfold F37
  rw [hc, Option.bind_some]
  refine permK_of fun z hz => ?_
  have hzl : z.Perm (l.filterMap (pick path)) := hz.trans hcl
  have hlen : z.length < 4611686018427387904 := by rw [hzl.length_eq]; have := pick_len path l; omega
  unfold srtS
  rw [if_pos hlen, Option.bind_some, sortedS_perm hzl]
theorem f41_val {M : Mp} {l : List Nd} (h : R M l) (path : ByteArray) : F41 l path = some (sortedS (l.filterMap (pick path))) := by
  have hl := h.len
  have hw : whileM (F41_L0 l path) ([], 0) = some (.brk (l.filterMap (pick path))) := by
    have hst : ((fun (k : Nat) => ((l.take k).filterMap (pick path), (k : Int))) 0) = ([], 0) := rfl
    rw [← hst]
    refine while_upto (fun (k : Nat) => ((l.take k).filterMap (pick path), (k : Int))) l.length (fun k hk => ?_) ?_ (fun s h => by cases h)
    · have hg : l[k]? = some l[k] := List.getElem?_eq_getElem hk
      have ht : l.take (k + 1) = l.take k ++ [l[k]] := by rw [List.take_add_one, hg]; rfl
      have hx := prt_val (h.nm _ (List.getElem_mem hk))
      have hd : decide ((k : Int) < (l.length : Int)) = true := by simpa using hk
      have hpl : ((l.take k).filterMap (pick path)).length ≤ 1000 := by have := pick_len path (l.take k); rw [List.length_take] at this; omega
      rw [ht, List.filterMap_append]
      generalize l[k] = x at hg hx
      generalize (l.take k).filterMap (pick path) = Y at hpl
      simp only [F41_L0, hd, cond_true, idx_some hg, Option.bind_some, sEq_iff, w64_succ hk (show l.length ≤ 9223372036854775807 by omega), hx.2]
      unfold pick
      by_cases c2 : x.1 = ByteArray.mk #[47]
      · simp [c2]
      · by_cases c1 : (prt x.1).1 = path
        · simp [c1, c2]
          rw [app16 _ _ hpl]
          rfl
        · simp [c1, c2]
    · have hd : decide ((l.length : Int) < (l.length : Int)) = false := by simp
      simp only [F41_L0, hd, cond_false, List.take_length]
  unfold F41
  rw [hw]
  simp only [Option.bind_some, Ctl.on]
  rw [f41_sort (by have := pick_len path l; omega)]
  rfl
end Go.Proofs.YtadfgohglcglcaaDoor

namespace Go.Proofs.YtadfgohglcglcaaDoor
open Go Go.Bk
set_option linter.unusedVariables false
set_option linter.unusedSimpArgs false
theorem R.idx {M : Mp} {l : List Nd} (h : R M l) {i j : Nat} {a b : Nd} (ha : l[i]? = some a) (hb : l[j]? = some b) (e : a.1 = b.1) : i = j := by
  have hn := h.en.1
  have h1 : (l.map (·.1))[i]? = some a.1 := by rw [List.getElem?_map, ha]; rfl
  have h2 : (l.map (·.1))[j]? = some a.1 := by rw [List.getElem?_map, hb, e]; rfl
  obtain ⟨l1, e1⟩ := List.getElem?_eq_some_iff.1 h1
  obtain ⟨l2, e2⟩ := List.getElem?_eq_some_iff.1 h2
  rcases Nat.lt_trichotomy i j with q | q | q
  · exact (List.pairwise_iff_getElem.1 hn i j l1 l2 q (e1.trans e2.symm)).elim
  · exact q
  · exact (List.pairwise_iff_getElem.1 hn j i l2 l1 q (e2.trans e1.symm)).elim
theorem R.add {M : Mp} {l : List Nd} (h : R M l) {p : ByteArray} {v : ByteArray × Int} (hp : M p = none) (hn : OkN p) (hl : l.length < 12) : R (mupd M p v) (l ++ [(p, v)]) := by
  have hx := h.absent.1 hp
  refine ⟨⟨?_, fun k w => ?_⟩, fun x hx' => ?_, by simp; omega⟩
  · rw [List.map_append, List.nodup_append]
    refine ⟨h.en.1, by simp, fun a ha b hb e => ?_⟩
    obtain ⟨x, hx1, rfl⟩ := List.mem_map.1 ha
    simp at hb
    exact hx x hx1 (by rw [e, hb])
  · rw [List.mem_append, List.mem_singleton, h.en.2]
    unfold mupd
    by_cases c : k = p
    · subst c
      rw [hp]; simp [eq_comm]
    · simp [c]
  · rcases List.mem_append.1 hx' with q | q
    · exact h.nm x q
    · rw [List.mem_singleton] at q; rw [q]; exact hn
theorem R.del {M : Mp} {l : List Nd} (h : R M l) {i : Nat} {p : ByteArray} {v : ByteArray × Int} (hi : l[i]? = some (p, v)) : R (mdel M p) (l.take i ++ l.drop (i + 1)) := by
  rw [← List.eraseIdx_eq_take_drop_succ]
  have hs := List.eraseIdx_sublist l i
  refine ⟨⟨(hs.map _).nodup h.en.1, fun k w => ?_⟩, fun x hx => h.nm x (hs.subset hx), Nat.le_trans hs.length_le h.len⟩
  rw [List.mem_eraseIdx_iff_getElem?]
  unfold mdel
  constructor
  · rintro ⟨j, hj, hg⟩
    have hm := h.mem.2 (List.mem_of_getElem? hg)
    have : k ≠ p := fun e => hj (h.idx hg hi e)
    rw [if_neg this]; exact hm
  · intro hk
    by_cases c : k = p
    · rw [if_pos c] at hk; cases hk
    · rw [if_neg c] at hk
      obtain ⟨j, hj⟩ := List.getElem?_of_mem (h.mem.1 hk)
      refine ⟨j, fun e => ?_, hj⟩
      subst e
      rw [hi] at hj
      exact c (Prod.mk.inj (Option.some.inj hj)).1.symm
theorem R.set {M : Mp} {l : List Nd} (h : R M l) {i : Nat} {p : ByteArray} {v w : ByteArray × Int} (hi : l[i]? = some (p, v)) : R (mupd M p w) (l.set i (p, w)) := by
  have hil := lt_of_get hi
  have hk : (l.set i (p, w)).map (·.1) = l.map (·.1) := by
    apply List.ext_getElem?
    intro j
    rw [List.getElem?_map, List.getElem?_map, List.getElem?_set]
    by_cases c : i = j
    · subst c; rw [hi]; simp [hil]
    · simp [c]
  have hm : ∀ k u, (k, u) ∈ l.set i (p, w) ↔ mupd M p w k = some u := fun k u => by
    unfold mupd
    constructor
    · intro hx
      obtain ⟨j, hj⟩ := List.getElem?_of_mem hx
      rw [List.getElem?_set] at hj
      by_cases c : i = j
      · subst c
        simp [hil] at hj
        simp [hj.1, hj.2]
      · simp [c] at hj
        have : k ≠ p := fun e => c (h.idx hi hj (by simp [e]))
        rw [if_neg this]; exact h.mem.2 (List.mem_of_getElem? hj)
    · intro hk
      by_cases c : k = p
      · rw [if_pos c] at hk
        obtain rfl := Option.some.inj hk
        refine List.mem_of_getElem? (i := i) ?_
        rw [List.getElem?_set_self hil, c]
      · rw [if_neg c] at hk
        obtain ⟨j, hj⟩ := List.getElem?_of_mem (h.mem.1 hk)
        refine List.mem_of_getElem? (i := j) ?_
        have : i ≠ j := fun e => by
          subst e
          rw [hi] at hj
          exact c (Prod.mk.inj (Option.some.inj hj)).1.symm
        rw [List.getElem?_set_ne this, hj]
  refine ⟨⟨by rw [hk]; exact h.en.1, hm⟩, fun x hx => ?_, by rw [List.length_set]; exact h.len⟩
  obtain ⟨j, hj⟩ := List.getElem?_of_mem hx
  rw [List.getElem?_set] at hj
  by_cases c : i = j
  · subst c
    simp [hil] at hj
    rw [← hj]
    show OkN p
    exact h.nm (p, v) (List.mem_of_getElem? hi)
  · simp [c] at hj
    exact h.nm _ (List.mem_of_getElem? hj)
theorem f38_val (c : Int) (l : List Nd) : F38 c l = some (c, ByteArray.empty, 0, []) := rfl
theorem app40 (l m : List Nd) (h : l.length + m.length ≤ 1000) : appl 40 l m = some (l ++ m) := by
  unfold appl; rw [if_pos]; omega
/-- The same answer, and trees that go together. -/
def Same (x : Option (Tl × Mp)) (y : Option (List Nd × Tl)) : Prop := ∃ t M l, x = some (t, M) ∧ y = some (l, t) ∧ R M l ∧ t.2.2.2.length ≤ 12
theorem deed {M : Mp} {l : List Nd} (h : R M l) (d : Dd) (hd : d.2.1.size ≤ 9223372036854775807) : Same (F29 M d) (F30 l d) := by
  obtain ⟨k, path, data, ver⟩ := d
  have hlen := h.len
  have hml : mlen M = l.length := mlen_of h.en
  have hd' : path.size ≤ 9223372036854775807 := hd
  have n1 := f35_val (p := path) (by omega)
  have n2 := f39_val (p := path) (by omega)
  unfold F29 F30
  simp only [f38_val, Option.bind_some, n1, n2]
  by_cases ck : k < 1 ∨ k > 5
  · have : (decide (k < 1) || decide (k > 5)) = true := by simpa using ck
    simp only [this, cond_true]
    exact ⟨_, _, _, rfl, rfl, h, Nat.zero_le _⟩
  have ck' : (decide (k < 1) || decide (k > 5)) = false := by simp; omega
  simp only [ck', cond_false]
  cases cn : nameB path with
  | false => exact ⟨_, _, _, rfl, rfl, h, Nat.zero_le _⟩
  | true =>
  have hn : OkN path := ⟨cn, hd'⟩
  have hp := prt_val hn
  simp only [Bool.not_true, cond_false]
  cases cl : (((k == 1) || (k == 2)) && (decide ((data.size : Int) > 20))) with
  | true => exact ⟨_, _, _, rfl, rfl, h, Nat.zero_le _⟩
  | false =>
  simp only [cond_false]
  have f37 := f37_val h path
  have f41 := f41_val h path
  have hbl : (sortedS (l.filterMap (pick path))).length ≤ 12 := by rw [sortedS_len]; have := pick_len path l; omega
  generalize hbelow : sortedS (l.filterMap (pick path)) = bel at f37 f41 hbl
  have hc : k = 1 ∨ k = 2 ∨ k = 3 ∨ k = 4 ∨ k = 5 := by omega
  cases hM : M path with
  | none =>
    have hw := where_none h hM
    have e0 : decide ((-1 : Int) ≥ 0) = false := rfl
    have e1 : decide ((-1 : Int) < 0) = true := rfl
    simp only [hw, Option.bind_some, e0, e1, cond_false, cond_true, hM, Option.isSome_none, Bool.not_false]
    rcases hc with rfl | rfl | rfl | rfl | rfl
    · -- make
      unfold F36
      simp only [hM, Option.isSome_none, cond_false, hp.1, hp.2, Option.bind_some]
      cases hu : M (prt path).1 with
      | none =>
        have hw2 := where_none h hu
        simp only [hw2, Option.bind_some, e1, cond_true, Option.isSome_none, Bool.not_false]
        exact ⟨_, _, _, rfl, rfl, h, Nat.zero_le _⟩
      | some v =>
        obtain ⟨i, hi, hg, hw2⟩ := where_some h hu
        have e2 : decide ((i : Int) < 0) = false := by simp
        simp only [hw2, Option.bind_some, e2, cond_false, Option.isSome_some, Bool.not_true, hml]
        by_cases cf : l.length ≥ 12
        · have e3 : decide ((l.length : Int) ≥ 12) = true := by rw [decide_eq_true_eq]; omega
          simp only [e3, cond_true]
          exact ⟨_, _, _, rfl, rfl, h, Nat.zero_le _⟩
        · have e3 : decide ((l.length : Int) ≥ 12) = false := by rw [decide_eq_false_iff_not]; omega
          simp only [e3, cond_false, app40 [] l (by simp; omega), List.nil_append, Option.bind_some, app40 l [(path, data, 0)] (by simp; omega)]
          exact ⟨_, _, _, rfl, rfl, h.add hM hn (by omega), Nat.zero_le _⟩
    · exact ⟨_, _, _, rfl, rfl, h, Nat.zero_le _⟩
    · simp only [sEq_iff]
      cases decide (path = ByteArray.mk #[47]) <;> exact ⟨_, _, _, rfl, rfl, h, Nat.zero_le _⟩
    · exact ⟨_, _, _, rfl, rfl, h, Nat.zero_le _⟩
    · exact ⟨_, _, _, rfl, rfl, h, Nat.zero_le _⟩
  | some v =>
    obtain ⟨i, hi, hg, hw⟩ := where_some h hM
    obtain ⟨dat, vs⟩ := v
    have e0 : decide ((i : Int) ≥ 0) = true := by simp
    have e1 : decide ((i : Int) < 0) = false := by simp
    have hix : idx l (i : Int) = some (path, dat, vs) := idx_some hg
    simp only [hw, Option.bind_some, e0, e1, cond_false, cond_true, hM, Option.isSome_some, Bool.not_true, Option.getD_some, hix, f37, f41]
    rcases hc with rfl | rfl | rfl | rfl | rfl
    · unfold F36
      simp only [hM, Option.isSome_some, cond_true]
      exact ⟨_, _, _, rfl, rfl, h, Nat.zero_le _⟩
    · -- set
      have hb : (Option.bind (cond (decide (ver ≥ 0)) (some (ver != vs)) (some false)) fun b82 => some b82) = some (decide (ver ≥ 0) && (ver != vs)) := by cases decide (ver ≥ 0) <;> rfl
      have hb2 : cond (decide (ver ≥ 0)) (some (ver != vs)) (some false) = some (decide (ver ≥ 0) && (ver != vs)) := by cases decide (ver ≥ 0) <;> rfl
      simp only [hb2, Option.bind_some]
      cases cv : (decide (ver ≥ 0) && (ver != vs)) with
      | true => exact ⟨_, _, _, rfl, rfl, h, Nat.zero_le _⟩
      | false =>
        have i2 : idx (l.set i (path, data, vs)) (i : Int) = some (path, data, vs) := idx_some (List.getElem?_set_self hi)
        have i3 : idx ((l.set i (path, data, vs)).set i (path, data, w64 (vs + 1))) (i : Int) = some (path, data, w64 (vs + 1)) := idx_some (List.getElem?_set_self (by rw [List.length_set]; exact hi))
        simp only [cond_false, app40 [] l (by simp; omega), List.nil_append, Option.bind_some, hix, Int.toNat_natCast, i2, i3]
        refine ⟨_, _, _, rfl, rfl, ?_, Nat.zero_le _⟩
        rw [List.set_set]
        exact h.set hg
    · -- drop
      have hb2 : cond (decide (ver ≥ 0)) (some (ver != vs)) (some false) = some (decide (ver ≥ 0) && (ver != vs)) := by cases decide (ver ≥ 0) <;> rfl
      simp only [hb2, Option.bind_some, sEq_iff]
      cases decide (path = ByteArray.mk #[47]) with
      | true => exact ⟨_, _, _, rfl, rfl, h, Nat.zero_le _⟩
      | false =>
        cases cv : (decide (ver ≥ 0) && (ver != vs)) with
        | true => exact ⟨_, _, _, rfl, rfl, h, Nat.zero_le _⟩
        | false =>
          cases cb : decide ((bel.length : Int) > 0) with
          | true => exact ⟨_, _, _, rfl, rfl, h, Nat.zero_le _⟩
          | false =>
            have s1 : slI l 0 (i : Int) = some (l.take i) := slI_take hi
            have hw1 : w64 ((i : Int) + 1) = ((i + 1 : Nat) : Int) := w64_succ hi (by omega)
            have s2 : slI l ((i + 1 : Nat) : Int) (l.length : Int) = some (l.drop (i + 1)) := by
              unfold slI
              rw [if_pos ⟨by omega, by omega, by omega⟩]
              simp
            simp only [s1, hw1, s2, Option.bind_some, app40 [] (l.take i) (by simp; omega), List.nil_append, app40 (l.take i) (l.drop (i + 1)) (by simp; omega)]
            exact ⟨_, _, _, rfl, rfl, h.del hg, Nat.zero_le _⟩
    · exact ⟨_, _, _, rfl, rfl, h, Nat.zero_le _⟩
    · exact ⟨_, _, _, rfl, rfl, h, hbl⟩
end Go.Proofs.YtadfgohglcglcaaDoor

namespace Go.Proofs.YtadfgohglcglcaaDoor
open Go Go.Bk
set_option linter.unusedVariables false
set_option linter.unusedSimpArgs false
theorem sEq_self (x : ByteArray) : sEq x x = true := by rw [sEq_iff]; simp
theorem f16_self (t : Tl) (h : t.2.2.2.length ≤ 12) : F16 t t = some true := by
  have hw : whileM (F16_L0 t t) 0 = some (.brk ()) := by
    refine while_upto (fun (k : Nat) => (k : Int)) t.2.2.2.length (fun k hk => ?_) ?_ (fun s h => by cases h)
    · have hd : decide ((k : Int) < (t.2.2.2.length : Int)) = true := by simpa using hk
      simp only [F16_L0, hd, cond_true, idx_some (List.getElem?_eq_getElem hk), Option.bind_some, sEq_self, Bool.not_true, cond_false, w64_succ hk (show t.2.2.2.length ≤ 9223372036854775807 by omega)]
    · have hd : decide ((t.2.2.2.length : Int) < (t.2.2.2.length : Int)) = false := by simp
      simp only [F16_L0, hd, cond_false]
  have e : (((((t.1 != t.1) || (!sEq t.2.1 t.2.1)) || (t.2.2.1 != t.2.2.1)) || ((t.2.2.2.length : Int) != (t.2.2.2.length : Int)))) = false := by simp [sEq_self]
  unfold F16
  rw [e, cond_false, hw]
  rfl
theorem f13_self (ts : List Tl) (hl : ts.length ≤ 1000) (h : ∀ t ∈ ts, t.2.2.2.length ≤ 12) : F13 ts ts = some true := by
  have hw : whileM (F13_L0 ts ts) 0 = some (.brk ()) := by
    refine while_upto (fun (k : Nat) => (k : Int)) ts.length (fun k hk => ?_) ?_ (fun s h => by cases h)
    · have hd : decide ((k : Int) < (ts.length : Int)) = true := by simpa using hk
      have hs := f16_self ts[k] (h _ (List.getElem_mem hk))
      have hs' : F16 (ts[k].1, ts[k].2.1, ts[k].2.2.1, ts[k].2.2.2) (ts[k].1, ts[k].2.1, ts[k].2.2.1, ts[k].2.2.2) = some true := hs
      simp only [F13_L0, hd, cond_true, idx_some (List.getElem?_eq_getElem hk), Option.bind_some, hs', Bool.not_true, cond_false, w64_succ hk (show ts.length ≤ 9223372036854775807 by omega)]
    · have hd : decide ((ts.length : Int) < (ts.length : Int)) = false := by simp
      simp only [F13_L0, hd, cond_false]
  unfold F13
  rw [show ((ts.length : Int) != (ts.length : Int)) = false by simp, cond_false, hw]
  rfl
theorem app56 (ts : List Tl) (t : Tl) (h : ts.length ≤ 1000) : appl 56 ts [t] = some (ts ++ [t]) := by
  unfold appl; rw [if_pos]; simp; omega
theorem R.start : R (mupd mzero (ByteArray.mk #[47]) (ByteArray.empty, 0)) [(ByteArray.mk #[47], ByteArray.empty, 0)] := by
  have h0 : R (mzero : Mp) [] := ⟨Enum.zero, fun x hx => (by cases hx), by simp⟩
  exact h0.add rfl ⟨rfl, by decide⟩ (by simp)
/-- A script, by both. -/
theorem plays (ds : List Dd) (hl : ds.length ≤ 60) (hp : ∀ d ∈ ds, d.2.1.size ≤ 9223372036854775807) : ∀ (m k : Nat) (ts : List Tl) (M : Mp) (l : List Nd), k + m = ds.length → ts.length = k → (∀ t ∈ ts, t.2.2.2.length ≤ 12) → R M l →
    ∃ ts' M' l', whileM (F15_L0 ds) (ts, M, (k : Int)) = some (.brk (ts', M')) ∧ whileM (F19_L0 ds) (l, ts, (k : Int)) = some (.brk (l', ts')) ∧ R M' l' ∧ ts'.length = ds.length ∧ ∀ t ∈ ts', t.2.2.2.length ≤ 12
  | 0, k, ts, M, l, hk, ht, hb, hR => by
    have hd : decide ((k : Int) < (ds.length : Int)) = false := by rw [decide_eq_false_iff_not]; omega
    refine ⟨ts, M, l, whileM_brk ?_, whileM_brk ?_, hR, by omega, hb⟩
    · simp only [F15_L0, hd, cond_false]
    · simp only [F19_L0, hd, cond_false]
  | m + 1, k, ts, M, l, hk, ht, hb, hR => by
    have hlt : k < ds.length := by omega
    have hd : decide ((k : Int) < (ds.length : Int)) = true := by simpa using hlt
    have hg := List.getElem?_eq_getElem hlt
    obtain ⟨t, M', l', h1, h2, h3, h4⟩ := deed hR ds[k] (hp _ (List.getElem_mem hlt))
    have h1' : F29 M (ds[k].1, ds[k].2.1, ds[k].2.2.1, ds[k].2.2.2) = some (t, M') := h1
    have h2' : F30 l (ds[k].1, ds[k].2.1, ds[k].2.2.1, ds[k].2.2.2) = some (l', t) := h2
    have ha := app56 ts t (by omega)
    have ha' : appl 56 ts [(t.1, t.2.1, t.2.2.1, t.2.2.2)] = some (ts ++ [t]) := ha
    have hw := w64_succ hlt (show ds.length ≤ 9223372036854775807 by omega)
    obtain ⟨ts', M'', l'', r1, r2, r3, r4, r5⟩ := plays ds hl hp m (k + 1) (ts ++ [t]) M' l' (by omega) (by simp [ht]) (fun x hx => by
      rcases List.mem_append.1 hx with q | q
      · exact hb x q
      · rw [List.mem_singleton] at q; rw [q]; exact h4) h3
    refine ⟨ts', M'', l'', ?_, ?_, r3, r4, r5⟩
    · rw [whileM_nxt ?_, r1]
      simp only [F15_L0, hd, cond_true, idx_some hg, Option.bind_some, h1', ha', hw]
    · rw [whileM_nxt ?_, r2]
      simp only [F19_L0, hd, cond_true, idx_some hg, Option.bind_some, h2', ha', hw]
theorem law_TreePlays (a0 : List Dd) (h : a0.length ≤ 140737488351232) (wf : ∀ x ∈ a0, (i64 x.1) ∧ (x.2.1.size ≤ maxLen) ∧ (x.2.2.1.size ≤ maxLen) ∧ (i64 x.2.2.2)) : F6 a0 = some true := by
  unfold F6 F15
  by_cases c : a0.length > 60
  · have e : decide ((a0.length : Int) > 60) = true := by rw [decide_eq_true_eq]; omega
    simp only [e, cond_true, Option.bind_some]
    rfl
  · have e : decide ((a0.length : Int) > 60) = false := by rw [decide_eq_false_iff_not]; omega
    obtain ⟨ts, M, l, h1, h2, h3, h4, h5⟩ := plays a0 (by omega) (fun d hd => (wf d hd).2.1) a0.length 0 [] _ _ (by omega) rfl (fun t ht => by cases ht) R.start
    have h1' : whileM (F15_L0 a0) ([], mupd mzero (ByteArray.mk #[47]) (ByteArray.empty, 0), 0) = some (.brk (ts, M)) := h1
    have h2' : whileM (F19_L0 a0) ([(ByteArray.mk #[47], ByteArray.empty, 0)], [], 0) = some (.brk (l, ts)) := h2
    unfold F26 F20 F19
    simp only [e, cond_false, Option.bind_some, h1', h2', Ctl.on]
    rw [f13_self ts (by omega) h5]
    rfl
end Go.Proofs.YtadfgohglcglcaaDoor

namespace Go.Proofs.YtadfgohglcglcaaDoor
open Go Go.Bk
set_option linter.unusedVariables false
set_option linter.unusedSimpArgs false
/-! Trees behind a list of deeds. -/
def M0 : Mp := mupd mzero (ByteArray.mk #[47]) (ByteArray.empty, 0)
def l0 : List Nd := [(ByteArray.mk #[47], ByteArray.empty, 0)]
def t0 : Tl := (0, ByteArray.empty, 0, [])
noncomputable def nextM (M : Mp) (d : Dd) : Mp := ((F29 M d).getD (t0, M0)).2
noncomputable def nextL (l : List Nd) (d : Dd) : List Nd := ((F30 l d).getD (l0, t0)).1
noncomputable def mTree (ds : List Dd) : Mp := ds.foldl nextM M0
noncomputable def lTree (ds : List Dd) : List Nd := ds.foldl nextL l0
noncomputable def told (ds : List Dd) (d : Dd) : Tl := ((F29 (mTree ds) d).getD (t0, M0)).1
def okD (d : Dd) : Prop := d.2.1.size ≤ 9223372036854775807
theorem mTree_snoc (ds : List Dd) (d : Dd) : mTree (ds ++ [d]) = nextM (mTree ds) d := by unfold mTree; rw [List.foldl_append]; rfl
theorem lTree_snoc (ds : List Dd) (d : Dd) : lTree (ds ++ [d]) = nextL (lTree ds) d := by unfold lTree; rw [List.foldl_append]; rfl
theorem tree_step {ds : List Dd} {d : Dd} (hR : R (mTree ds) (lTree ds)) (hd : okD d) : F29 (mTree ds) d = some (told ds d, mTree (ds ++ [d])) ∧ F30 (lTree ds) d = some (lTree (ds ++ [d]), told ds d) ∧ R (mTree (ds ++ [d])) (lTree (ds ++ [d])) ∧ (told ds d).2.2.2.length ≤ 12 := by
  obtain ⟨t, M, l, h1, h2, h3, h4⟩ := deed hR d hd
  have e1 : told ds d = t := by unfold told; rw [h1]; rfl
  have e2 : mTree (ds ++ [d]) = M := by rw [mTree_snoc]; unfold nextM; rw [h1]; rfl
  have e3 : lTree (ds ++ [d]) = l := by rw [lTree_snoc]; unfold nextL; rw [h2]; rfl
  rw [e1, e2, e3]
  exact ⟨h1, h2, h3, h4⟩
theorem tree_R : ∀ (n : Nat) (ds : List Dd), ds.length = n → (∀ d ∈ ds, okD d) → R (mTree ds) (lTree ds)
  | 0, ds, hn, _ => by
    have : ds = [] := List.eq_nil_of_length_eq_zero hn
    subst this
    exact R.start
  | n + 1, ds, hn, h => by
    have hne : ds ≠ [] := fun e => by rw [e] at hn; cases hn
    have e := List.dropLast_concat_getLast hne
    rw [← e]
    have hd : ∀ d ∈ ds.dropLast, okD d := fun d q => h d (List.dropLast_subset ds q)
    exact (tree_step (tree_R n ds.dropLast (by simp [hn]) hd) (h _ (List.getLast_mem hne))).2.2.1
/-- The reference plays all anew. -/
theorem f19_val (ds : List Dd) (hl : ds.length ≤ 60) (h : ∀ d ∈ ds, okD d) : ∃ ts, F19 l0 ds = some (lTree ds, ts) := by
  have key : ∀ (m k : Nat) (ts : List Tl), k + m = ds.length → ts.length = k → ∃ ts', whileM (F19_L0 ds) (lTree (ds.take k), ts, (k : Int)) = some (.brk (lTree ds, ts')) := by
    intro m
    induction m with
    | zero =>
      intro k ts hk ht
      have hd : decide ((k : Int) < (ds.length : Int)) = false := by rw [decide_eq_false_iff_not]; omega
      refine ⟨ts, whileM_brk ?_⟩
      rw [List.take_of_length_le (by omega)]
      simp only [F19_L0, hd, cond_false]
    | succ m ih =>
      intro k ts hk ht
      have hlt : k < ds.length := by omega
      have hd : decide ((k : Int) < (ds.length : Int)) = true := by simpa using hlt
      have hg := List.getElem?_eq_getElem hlt
      have htk : ds.take (k + 1) = ds.take k ++ [ds[k]] := by rw [List.take_add_one, hg]; rfl
      have hR := tree_R _ (ds.take k) rfl (fun d q => h d (List.mem_of_mem_take q))
      obtain ⟨_, h2, _, _⟩ := tree_step hR (h _ (List.getElem_mem hlt))
      have h2' : F30 (lTree (ds.take k)) (ds[k].1, ds[k].2.1, ds[k].2.2.1, ds[k].2.2.2) = some (lTree (ds.take k ++ [ds[k]]), told (ds.take k) ds[k]) := h2
      generalize told (ds.take k) ds[k] = t at h2'
      have ha' : appl 56 ts [(t.1, t.2.1, t.2.2.1, t.2.2.2)] = some (ts ++ [t]) := app56 ts t (by omega)
      have hw := w64_succ hlt (show ds.length ≤ 9223372036854775807 by omega)
      obtain ⟨ts', r⟩ := ih (k + 1) (ts ++ [t]) (by omega) (by simp [ht])
      refine ⟨ts', ?_⟩
      rw [whileM_nxt ?_, r]
      simp only [F19_L0, hd, cond_true, idx_some hg, Option.bind_some, h2', ha', hw, htk]
  obtain ⟨ts', r⟩ := key ds.length 0 [] (by omega) rfl
  refine ⟨ts', ?_⟩
  unfold F19
  have r' : whileM (F19_L0 ds) (l0, [], 0) = some (.brk (lTree ds, ts')) := r
  rw [r']
  rfl
/-- A look leaves the tree as it was. -/
theorem read_same {ds : List Dd} {d : Dd} (hR : R (mTree ds) (lTree ds)) (hd : okD d) (hk : d.1 = 4 ∨ d.1 = 5) : mTree (ds ++ [d]) = mTree ds := by
  obtain ⟨h1, _, _, _⟩ := tree_step hR hd
  have f37 := f37_val hR d.2.1
  have n1 := f35_val (p := d.2.1) hd
  revert h1
  generalize mTree (ds ++ [d]) = M'
  generalize told ds d = t
  generalize mTree ds = M at f37 ⊢
  obtain ⟨k, path, data, ver⟩ := d
  simp only at hk n1 f37
  intro h1
  unfold F29 at h1
  have e1 : (decide (k < 1) || decide (k > 5)) = false := by simp; omega
  have e2 : (k == 2) = false := by rw [beq_eq_false_iff_ne]; omega
  have e3 : (k == 1) = false := by rw [beq_eq_false_iff_ne]; omega
  have e4 : (k == 3) = false := by rw [beq_eq_false_iff_ne]; omega
  simp only [e1, e2, e3, e4, n1, f37, Option.bind_some, cond_false, Bool.or_self, Bool.false_and] at h1
  cases hn : nameB path with
  | false => rw [hn] at h1; exact (Prod.mk.inj (Option.some.inj h1)).2.symm
  | true =>
    rw [hn] at h1
    simp only [Bool.not_true, cond_false] at h1
    cases hM : M path with
    | none => simp only [hM, Option.isSome_none, Bool.not_false, cond_true] at h1; exact (Prod.mk.inj (Option.some.inj h1)).2.symm
    | some v =>
      simp only [hM, Option.isSome_some, Bool.not_true, cond_false] at h1
      rcases hk with rfl | rfl
      · exact (Prod.mk.inj (Option.some.inj h1)).2.symm
      · exact (Prod.mk.inj (Option.some.inj h1)).2.symm

/-! A server is brought up to the order. -/
abbrev Sv := Mp × Int
noncomputable def lastT (ord : List Dd) (j many : Nat) (t : Tl) : Tl := if j = many then t else told (ord.take (many - 1)) (ord.getD (many - 1) (0, ByteArray.empty, ByteArray.empty, 0))
theorem apply_loop {ord : List Dd} (hl : ord.length ≤ 1000) (hok : ∀ d ∈ ord, okD d) (z : List Sv) {s many : Nat} (hm : many ≤ ord.length) : ∀ (m j : Nat) (srv : List Sv) (t : Tl), j + m = many → srv[s]? = some (mTree (ord.take j), (j : Int)) → t.2.2.2.length ≤ 12 →
    ∃ T, T = lastT ord j many t ∧ T.2.2.2.length ≤ 12 ∧ whileM (F34_L0 (z, ord) (s : Int) (many : Int)) (t.2.2.2, srv, t.1, t.2.1, t.2.2.1) = some (.brk (T.2.2.2, srv.set s (mTree (ord.take many), (many : Int)), T.1, T.2.1, T.2.2.1))
  | 0, j, srv, t, hj, hs, ht => by
    obtain rfl : j = many := by omega
    have hi : idx srv (s : Int) = some (mTree (ord.take j), (j : Int)) := idx_some hs
    have hd : decide ((j : Int) < (j : Int)) = false := by simp
    have hset : srv.set s (mTree (ord.take j), (j : Int)) = srv := by
      apply List.ext_getElem?
      intro i
      rw [List.getElem?_set]
      by_cases c : s = i
      · subst c; rw [hs]; simp [lt_of_get hs]
      · simp [c]
    refine ⟨t, by unfold lastT; simp, ht, ?_⟩
    rw [hset]
    refine whileM_brk ?_
    simp only [F34_L0, hi, Option.bind_some, hd, cond_false]
  | m + 1, j, srv, t, hj, hs, ht => by
    have hlt : j < ord.length := by omega
    have hsl := lt_of_get hs
    have hi : idx srv (s : Int) = some (mTree (ord.take j), (j : Int)) := idx_some hs
    have hd : decide ((j : Int) < (many : Int)) = true := by rw [decide_eq_true_eq]; omega
    have hg : ord[j]? = some ord[j] := List.getElem?_eq_getElem hlt
    have htk : ord.take (j + 1) = ord.take j ++ [ord[j]] := by rw [List.take_add_one, hg]; rfl
    have hR := tree_R _ (ord.take j) rfl (fun d q => hok d (List.mem_of_mem_take q))
    obtain ⟨h1, _, _, h4⟩ := tree_step hR (hok _ (List.getElem_mem hlt))
    have hw : w64 ((j : Int) + 1) = ((j + 1 : Nat) : Int) := w64_succ (n := 2000) (by omega) (by omega)
    rw [← htk] at h1
    generalize hT : told (ord.take j) ord[j] = u at h1 h4
    have i2 : idx (srv.set s (mTree (ord.take (j + 1)), (j : Int))) (s : Int) = some (mTree (ord.take (j + 1)), (j : Int)) := idx_some (List.getElem?_set_self hsl)
    have hsrv : ((srv.set s (mTree (ord.take (j + 1)), (j : Int))).set s (mTree (ord.take (j + 1)), ((j + 1 : Nat) : Int))) = srv.set s (mTree (ord.take (j + 1)), ((j + 1 : Nat) : Int)) := List.set_set ..
    obtain ⟨T, hT1, hT2, hw2⟩ := apply_loop hl hok z hm m (j + 1) (srv.set s (mTree (ord.take (j + 1)), ((j + 1 : Nat) : Int))) u (by omega) (List.getElem?_set_self hsl) h4
    refine ⟨T, ?_, hT2, ?_⟩
    · rw [hT1]
      unfold lastT
      have n1 : ¬ j = many := by omega
      rw [if_neg n1]
      by_cases c : j + 1 = many
      · rw [if_pos c, ← c, Nat.add_sub_cancel, ← hT]
        rw [List.getD_eq_getElem?_getD, hg]; rfl
      · rw [if_neg c]
    · rw [List.set_set] at hw2
      rw [whileM_nxt ?_, hw2]
      simp only [F34_L0, hi, Option.bind_some, hd, cond_true, idx_some hg, h1, Int.toNat_natCast, i2, hw, hsrv]
theorem apply_val {ord : List Dd} (hl : ord.length ≤ 1000) (hok : ∀ d ∈ ord, okD d) {srv : List Sv} {s j many : Nat} (hm : many ≤ ord.length) (hj : j ≤ many) (hs : srv[s]? = some (mTree (ord.take j), (j : Int))) :
    F34 (srv, ord) (s : Int) (many : Int) = some (lastT ord j many t0, (srv.set s (mTree (ord.take many), (many : Int)), ord)) ∧ (lastT ord j many t0).2.2.2.length ≤ 12 := by
  obtain ⟨T, h1, h2, h3⟩ := apply_loop hl hok srv hm (many - j) j srv t0 (by omega) hs (by simp [t0])
  have h3' : whileM (F34_L0 (srv, ord) (s : Int) (many : Int)) ([], srv, 0, ByteArray.empty, 0) = _ := h3
  unfold F34
  rw [← h1]
  rw [h3']
  exact ⟨rfl, h2⟩
/-- What the two sides keep. -/
structure KR (n : Nat) (srv : List Sv) (ord : List Dd) (at6 seen6 : T6 Int) (ratt rapp rseen : List Int) : Prop where
  ok : ∀ d ∈ ord, okD d
  len : srv.length = n
  rlen : rapp.length = n
  sv : ∀ s, s < n → ∃ j : Nat, j ≤ ord.length ∧ srv[s]? = some (mTree (ord.take j), (j : Int)) ∧ rapp[s]? = some (j : Int)
  att : tl6 at6 = ratt
  atok : ∀ c, c < 6 → ∃ s : Nat, s < n ∧ ratt[c]? = some (s : Int)
  seen : tl6 seen6 = rseen
end Go.Proofs.YtadfgohglcglcaaDoor

namespace Go.Proofs.YtadfgohglcglcaaDoor
open Go Go.Bk
set_option linter.unusedVariables false
set_option linter.unusedSimpArgs false
abbrev Sp := Int × Int × Int × Int × ByteArray × ByteArray × Int
theorem as6_val {x : T6 Int} {c : Nat} (hc : c < 6) (y : Int) : as6 x (c : Int) y = some (ts6 x c y) := by
  unfold as6
  rw [if_pos ⟨by omega, by omega⟩, Int.toNat_natCast]
theorem take_app {ord : List Dd} {d : Dd} {j : Nat} (h : j ≤ ord.length) : (ord ++ [d]).take j = ord.take j := List.take_append_of_le_length h
theorem KR.longer {n : Nat} {srv : List Sv} {ord : List Dd} {at6 seen6 : T6 Int} {ratt rapp rseen : List Int} (h : KR n srv ord at6 seen6 ratt rapp rseen) {d : Dd} (hd : okD d) : KR n srv (ord ++ [d]) at6 seen6 ratt rapp rseen :=
  ⟨fun x hx => by
    rcases List.mem_append.1 hx with q | q
    · exact h.ok x q
    · rw [List.mem_singleton] at q; rw [q]; exact hd, h.len, h.rlen, fun s hs => by
    obtain ⟨j, h1, h2, h3⟩ := h.sv s hs
    exact ⟨j, by simp; omega, by rw [take_app h1]; exact h2, h3⟩, h.att, h.atok, h.seen⟩
theorem KR.brought {n : Nat} {srv : List Sv} {ord : List Dd} {at6 seen6 : T6 Int} {ratt rapp rseen : List Int} (h : KR n srv ord at6 seen6 ratt rapp rseen) {s m : Nat} (hs : s < n) (hm : m ≤ ord.length) :
    KR n (srv.set s (mTree (ord.take m), (m : Int))) ord at6 seen6 ratt (rapp.set s (m : Int)) rseen :=
  ⟨h.ok, by rw [List.length_set]; exact h.len, by rw [List.length_set]; exact h.rlen, fun i hi => by
    by_cases c : s = i
    · subst c
      exact ⟨m, hm, List.getElem?_set_self (by rw [h.len]; exact hs), List.getElem?_set_self (by rw [h.rlen]; exact hs)⟩
    · obtain ⟨j, h1, h2, h3⟩ := h.sv i hi
      exact ⟨j, h1, by rw [List.getElem?_set_ne c]; exact h2, by rw [List.getElem?_set_ne c]; exact h3⟩, h.att, h.atok, h.seen⟩
theorem KR.saw {n : Nat} {srv : List Sv} {ord : List Dd} {at6 seen6 : T6 Int} {ratt rapp rseen : List Int} (h : KR n srv ord at6 seen6 ratt rapp rseen) (c : Nat) (v : Int) : KR n srv ord at6 (ts6 seen6 c v) ratt rapp (rseen.set c v) :=
  ⟨h.ok, h.len, h.rlen, h.sv, h.att, h.atok, by rw [tl6_set, h.seen]⟩
theorem KR.goto {n : Nat} {srv : List Sv} {ord : List Dd} {at6 seen6 : T6 Int} {ratt rapp rseen : List Int} (h : KR n srv ord at6 seen6 ratt rapp rseen) {c s : Nat} (hs : s < n) : KR n srv ord (ts6 at6 c (s : Int)) seen6 (ratt.set c (s : Int)) rapp rseen :=
  ⟨h.ok, h.len, h.rlen, h.sv, by rw [tl6_set, h.att], fun i hi => by
    have hl : ratt.length = 6 := by rw [← h.att]; rfl
    by_cases e : c = i
    · subst e; exact ⟨s, hs, List.getElem?_set_self (by omega)⟩
    · obtain ⟨z, h1, h2⟩ := h.atok i hi
      exact ⟨z, h1, by rw [List.getElem?_set_ne e]; exact h2⟩, h.seen⟩
/-- What a step does, in one word: the answer and all that is kept, on both sides. -/
def KStep (n : Nat) (srv : List Sv) (ord : List Dd) (at6 seen6 : T6 Int) (ratt rapp rseen : List Int) (x : Sp) : Prop :=
  ∃ (T : Tl) (srv' : List Sv) (ord' : List Dd) (at' seen' : T6 Int) (ratt' rapp' rseen' : List Int), F27 (srv, ord, at6, seen6) x = some (T, (srv', ord', at', seen')) ∧ KR n srv' ord' at' seen' ratt' rapp' rseen' ∧ ord'.length ≤ ord.length + 1 ∧ T.2.2.2.length ≤ 12 ∧
    ∀ (a1 : List Sp) (ts : List Tl) (kk : Nat), a1[kk]? = some x → a1.length ≤ 60 → ts.length = kk → F25_L0 (n : Int) a1 (ord, ts, ratt, rapp, rseen, (kk : Int)) = some (.nxt (ord', ts ++ [T], ratt', rapp', rseen', ((kk + 1 : Nat) : Int)))
theorem keep_step {n : Nat} {srv : List Sv} {ord : List Dd} {at6 seen6 : T6 Int} {ratt rapp rseen : List Int} (h : KR n srv ord at6 seen6 ratt rapp rseen) (hl : ord.length < 60) (x : Sp) (hx : okD x.2.2.2) : KStep n srv ord at6 seen6 ratt rapp rseen x := by
  obtain ⟨k, c, s, dk, path, data, ver⟩ := x
  have hx' : okD (dk, path, data, ver) := hx
  have hrl : ratt.length = 6 := by rw [← h.att]; rfl
  have hsl : rseen.length = 6 := by rw [← h.seen]; rfl
  have fin : ∀ (a1 : List Sp) (ts : List Tl) (kk : Nat), a1[kk]? = some (k, c, s, dk, path, data, ver) → a1.length ≤ 60 → ts.length = kk → decide ((kk : Int) < (a1.length : Int)) = true ∧ w64 ((kk : Int) + 1) = ((kk + 1 : Nat) : Int) ∧ ∀ T : Tl, appl 56 ts [(T.1, T.2.1, T.2.2.1, T.2.2.2)] = some (ts ++ [T]) := fun a1 ts kk h1 h2 h3 => by
    have := lt_of_get h1
    exact ⟨by rw [decide_eq_true_eq]; omega, w64_succ (n := 100) (by omega) (by omega), fun T => app56 ts T (by omega)⟩
  have hn : (srv.length : Int) = (n : Int) := by rw [h.len]
  unfold KStep
  simp only [F27, hn]
  cases hA : (((decide (k < 1)) || (decide (k > 4))) || ((k == 1) && ((decide (dk < 1)) || (decide (dk > 5))))) with
  | true =>
    refine ⟨_, _, _, _, _, _, _, _, rfl, h, by omega, Nat.zero_le _, fun a1 ts kk h1 h2 h3 => ?_⟩
    obtain ⟨f1, f2, f3⟩ := fin a1 ts kk h1 h2 h3
    simp only [F25_L0, f1, cond_true, idx_some h1, Option.bind_some, hA, f2, f3 (6, ByteArray.empty, 0, [])]
  | false =>
  simp only [cond_false]
  cases hB : (((k != 2) && (!((decide (c ≥ 0)) && (decide (c < 6))))) || (((k == 2) || (k == 3)) && (!((decide (s ≥ 0)) && (decide (s < (n : Int))))))) with
  | true =>
    refine ⟨_, _, _, _, _, _, _, _, rfl, h, by omega, Nat.zero_le _, fun a1 ts kk h1 h2 h3 => ?_⟩
    obtain ⟨f1, f2, f3⟩ := fin a1 ts kk h1 h2 h3
    simp only [F25_L0, f1, cond_true, cond_false, idx_some h1, Option.bind_some, hA, hB, f2, f3 (2, ByteArray.empty, 0, [])]
  | false =>
  simp only [cond_false]
  have hk : k = 1 ∨ k = 2 ∨ k = 3 ∨ k = 4 := by
    simp only [Bool.or_eq_false_iff, decide_eq_false_iff_not] at hA
    omega
  have hc : k ≠ 2 → ∃ cn : Nat, cn < 6 ∧ c = (cn : Int) := fun q => by
    have q2 : (k != 2) = true := by simpa using q
    rw [q2, Bool.true_and] at hB
    have := (Bool.or_eq_false_iff.1 hB).1
    simp at this
    exact ⟨c.toNat, by omega, by omega⟩
  have hsn : k = 2 ∨ k = 3 → ∃ sn : Nat, sn < n ∧ s = (sn : Int) := fun q => by
    have q2 : ((k == 2) || (k == 3)) = true := by rcases q with rfl | rfl <;> rfl
    rw [q2, Bool.true_and] at hB
    have := (Bool.or_eq_false_iff.1 hB).2
    simp at this
    exact ⟨s.toNat, by omega, by omega⟩
  rcases hk with rfl | rfl | rfl | rfl
  · -- a deed
    obtain ⟨cn, hcn, rfl⟩ := hc (by decide)
    obtain ⟨z, hz, gz⟩ := h.atok cn hcn
    obtain ⟨j, hj, g1, g2⟩ := h.sv z hz
    have e1 : ((1 : Int) == 1) = true := rfl
    have e2 : ((1 : Int) == 2) = false := rfl
    have e3 : ((1 : Int) == 3) = false := rfl
    have e4 : ((1 : Int) == 4) = false := rfl
    have hdk : 1 ≤ dk ∧ dk ≤ 5 := by
      rw [e1, Bool.true_and] at hA
      simp only [Bool.or_eq_false_iff, decide_eq_false_iff_not] at hA
      omega
    have gs : rseen[cn]? = some rseen[cn] := List.getElem?_eq_getElem (by omega)
    generalize rseen[cn] = v at gs
    have is : idx (tl6 seen6) (cn : Int) = some v := by rw [h.seen]; exact idx_some gs
    have ia : idx (tl6 at6) (cn : Int) = some (z : Int) := by rw [h.att]; exact idx_some gz
    simp only [e1, cond_true, F33, ia, Option.bind_some]
    by_cases hr : dk ≥ 4
    · -- a look
      have e5 : ((dk == 4) || (dk == 5)) = true := by
        rw [Bool.or_eq_true, beq_iff_eq, beq_iff_eq]; omega
      have e6 : decide (dk ≥ 4) = true := by simpa using hr
      have hok2 : ∀ d ∈ ord.take j, okD d := fun d q => h.ok d (List.mem_of_mem_take q)
      have hR := tree_R _ (ord.take j) rfl hok2
      obtain ⟨s1, s2, s3, s4⟩ := tree_step hR hx'
      rw [read_same hR hx' (by show dk = 4 ∨ dk = 5; omega)] at s1
      obtain ⟨ts19, s5⟩ := f19_val (ord.take j) (by rw [List.length_take]; omega) hok2
      have s6 : slI ord 0 (j : Int) = some (ord.take j) := by unfold slI; rw [if_pos ⟨by omega, by omega, by omega⟩]; simp
      have s7 : F20 = some l0 := rfl
      have hset : srv.set z (mTree (ord.take j), (j : Int)) = srv := by
        apply List.ext_getElem?
        intro i
        rw [List.getElem?_set]
        by_cases c : z = i
        · subst c; rw [g1]; simp [lt_of_get g1]
        · simp [c]
      generalize told (ord.take j) (dk, path, data, ver) = T at s1 s2 s4
      simp only [e5, cond_true, idx_some g1, Option.bind_some, s1, Int.toNat_natCast, hset, is, as6_val hcn]
      refine ⟨T, _, _, _, _, _, _, _, rfl, h.saw cn (j : Int), by omega, s4, fun a1 ts kk h1 h2 h3 => ?_⟩
      obtain ⟨f1, f2, f3⟩ := fin a1 ts kk h1 h2 h3
      simp only [F25_L0, f1, cond_true, cond_false, idx_some h1, Option.bind_some, hA, hB]
      simp only [cond_true, cond_false, Option.bind_some, e2, e3, e4, e6, idx_some g2, idx_some gs, idx_some gz, s6, s7, s5, s2, Int.toNat_natCast, f2, f3 T]
    · have e5 : ((dk == 4) || (dk == 5)) = false := by
        rw [Bool.or_eq_false_iff, beq_eq_false_iff_ne, beq_eq_false_iff_ne]; omega
      have e6 : decide (dk ≥ 4) = false := by simpa using hr
      have hR := tree_R _ ord rfl h.ok
      obtain ⟨s1, s2, s3, s4⟩ := tree_step hR hx'
      obtain ⟨ts19, s5⟩ := f19_val ord (by omega) h.ok
      have s7 : F20 = some l0 := rfl
      have s8 : appl 48 ord [(dk, path, data, ver)] = some (ord ++ [(dk, path, data, ver)]) := by unfold appl; rw [if_pos]; simp; omega
      have hL : (ord ++ [(dk, path, data, ver)]).length = ord.length + 1 := by simp
      have g1' : srv[z]? = some (mTree ((ord ++ [(dk, path, data, ver)]).take j), (j : Int)) := by rw [take_app hj]; exact g1
      have h' := h.longer hx'
      obtain ⟨a1, a2⟩ := apply_val (ord := ord ++ [(dk, path, data, ver)]) (srv := srv) (s := z) (j := j) (many := (ord ++ [(dk, path, data, ver)]).length) (by omega) h'.ok (Nat.le_refl _) (by omega) g1'
      have hT : lastT (ord ++ [(dk, path, data, ver)]) j (ord ++ [(dk, path, data, ver)]).length t0 = told ord (dk, path, data, ver) := by
        unfold lastT
        rw [hL, if_neg (by omega), Nat.add_sub_cancel, take_app (Nat.le_refl _), List.take_length]
        rw [List.getD_eq_getElem?_getD, List.getElem?_append_right (Nat.le_refl _)]
        simp
      rw [hT] at a1
      generalize told ord (dk, path, data, ver) = T at a1 s2 s4
      have gset : idx (rapp.set z ((ord ++ [(dk, path, data, ver)]).length : Int)) (z : Int) = some ((ord ++ [(dk, path, data, ver)]).length : Int) := idx_some (List.getElem?_set_self (by rw [h.rlen]; exact hz))
      have gset2 : idx (srv.set z (mTree ((ord ++ [(dk, path, data, ver)]).take (ord ++ [(dk, path, data, ver)]).length), ((ord ++ [(dk, path, data, ver)]).length : Int))) (z : Int) = some (mTree ((ord ++ [(dk, path, data, ver)]).take (ord ++ [(dk, path, data, ver)]).length), ((ord ++ [(dk, path, data, ver)]).length : Int)) := idx_some (List.getElem?_set_self (by rw [h.len]; exact hz))
      simp only [e5, cond_false, s8, a1, gset2, Option.bind_some, is, as6_val hcn]
      refine ⟨T, _, _, _, _, _, _, _, rfl, (h'.brought hz (m := (ord ++ [(dk, path, data, ver)]).length) (Nat.le_refl _)).saw cn ((ord ++ [(dk, path, data, ver)]).length : Int), by omega, s4, fun a1 ts kk h1 h2 h3 => ?_⟩
      obtain ⟨f1, f2, f3⟩ := fin a1 ts kk h1 h2 h3
      simp only [F25_L0, f1, cond_true, cond_false, idx_some h1, Option.bind_some, hA, hB]
      simp only [cond_true, cond_false, Option.bind_some, e2, e3, e4, e6, idx_some g2, idx_some gs, idx_some gz, gset, s7, s5, s2, s8, Int.toNat_natCast, f2, f3 T]
  · -- apply
    obtain ⟨sn, hsn1, rfl⟩ := hsn (.inl rfl)
    obtain ⟨j, hj, g1, g2⟩ := h.sv sn hsn1
    have e1 : ((2 : Int) == 1) = false := rfl
    have e2 : ((2 : Int) == 2) = true := rfl
    simp only [e1, e2, cond_false, cond_true, idx_some g1, Option.bind_some]
    by_cases cj : j = ord.length
    · have e3 : ((j : Int) == (ord.length : Int)) = true := by rw [beq_iff_eq]; omega
      simp only [e3, cond_true]
      refine ⟨_, _, _, _, _, _, _, _, rfl, h, by omega, Nat.zero_le _, fun a1 ts kk h1 h2 h3 => ?_⟩
      obtain ⟨f1, f2, f3⟩ := fin a1 ts kk h1 h2 h3
      simp only [F25_L0, f1, cond_true, cond_false, idx_some h1, Option.bind_some, hA, hB]
      simp only [cond_true, cond_false, Option.bind_some, e2, idx_some g2, e3, f2, f3 (5, ByteArray.empty, 0, [])]
    · have e3 : ((j : Int) == (ord.length : Int)) = false := by rw [beq_eq_false_iff_ne]; omega
      have hw : w64 ((j : Int) + 1) = ((j + 1 : Nat) : Int) := w64_succ (n := 100) (by omega) (by omega)
      obtain ⟨a1, a2⟩ := apply_val (ord := ord) (srv := srv) (s := sn) (j := j) (many := j + 1) (by omega) h.ok (by omega) (by omega) g1
      simp only [e3, cond_false, hw, a1, Option.bind_some]
      refine ⟨_, _, _, _, _, _, _, _, rfl, h.brought hsn1 (m := j + 1) (by omega), by omega, Nat.zero_le _, fun a1 ts kk h1 h2 h3 => ?_⟩
      obtain ⟨f1, f2, f3⟩ := fin a1 ts kk h1 h2 h3
      simp only [F25_L0, f1, cond_true, cond_false, idx_some h1, Option.bind_some, hA, hB]
      simp only [cond_true, cond_false, Option.bind_some, e2, idx_some g2, e3, hw, Int.toNat_natCast, f2, f3 (0, ByteArray.empty, 0, [])]
  · -- move
    obtain ⟨sn, hsn1, rfl⟩ := hsn (.inr rfl)
    obtain ⟨cn, hcn, rfl⟩ := hc (by decide)
    obtain ⟨j, hj, g1, g2⟩ := h.sv sn hsn1
    obtain ⟨z, hz, gz⟩ := h.atok cn hcn
    have e1 : ((3 : Int) == 1) = false := rfl
    have e2 : ((3 : Int) == 2) = false := rfl
    have e3 : ((3 : Int) == 3) = true := rfl
    have gs : rseen[cn]? = some rseen[cn] := List.getElem?_eq_getElem (by omega)
    generalize rseen[cn] = v at gs
    have is : idx (tl6 seen6) (cn : Int) = some v := by rw [h.seen]; exact idx_some gs
    have ia : idx (tl6 at6) (cn : Int) = some (z : Int) := by rw [h.att]; exact idx_some gz
    simp only [e1, e2, e3, cond_false, cond_true, idx_some g1, Option.bind_some, is, ia, as6_val hcn]
    cases cv : decide ((j : Int) < v) with
    | true =>
      refine ⟨_, _, _, _, _, _, _, _, rfl, h, by omega, Nat.zero_le _, fun a1 ts kk h1 h2 h3 => ?_⟩
      obtain ⟨f1, f2, f3⟩ := fin a1 ts kk h1 h2 h3
      simp only [F25_L0, f1, cond_true, cond_false, idx_some h1, Option.bind_some, hA, hB]
      simp only [cond_true, cond_false, Option.bind_some, e2, e3, idx_some g2, idx_some gs, cv, f2, f3 (8, ByteArray.empty, 0, [])]
    | false =>
      refine ⟨_, _, _, _, _, _, _, _, rfl, h.goto (c := cn) hsn1, by omega, Nat.zero_le _, fun a1 ts kk h1 h2 h3 => ?_⟩
      obtain ⟨f1, f2, f3⟩ := fin a1 ts kk h1 h2 h3
      simp only [F25_L0, f1, cond_true, cond_false, idx_some h1, Option.bind_some, hA, hB]
      simp only [cond_true, cond_false, Option.bind_some, e2, e3, idx_some g2, idx_some gs, idx_some gz, cv, Int.toNat_natCast, f2, f3 (0, ByteArray.empty, 0, [])]
  · -- sync
    obtain ⟨cn, hcn, rfl⟩ := hc (by decide)
    obtain ⟨z, hz, gz⟩ := h.atok cn hcn
    obtain ⟨j, hj, g1, g2⟩ := h.sv z hz
    have e1 : ((4 : Int) == 1) = false := rfl
    have e2 : ((4 : Int) == 2) = false := rfl
    have e3 : ((4 : Int) == 3) = false := rfl
    have e4 : ((4 : Int) == 4) = true := rfl
    have gs : rseen[cn]? = some rseen[cn] := List.getElem?_eq_getElem (by omega)
    generalize rseen[cn] = v at gs
    have is : idx (tl6 seen6) (cn : Int) = some v := by rw [h.seen]; exact idx_some gs
    have ia : idx (tl6 at6) (cn : Int) = some (z : Int) := by rw [h.att]; exact idx_some gz
    obtain ⟨a1, a2⟩ := apply_val (ord := ord) (srv := srv) (s := z) (j := j) (many := ord.length) (by omega) h.ok (Nat.le_refl _) hj g1
    have gset : idx (rapp.set z (ord.length : Int)) (z : Int) = some (ord.length : Int) := idx_some (List.getElem?_set_self (by rw [h.rlen]; exact hz))
    simp only [e1, e2, e3, cond_false, Option.bind_some, is, ia, a1, as6_val hcn]
    refine ⟨_, _, _, _, _, _, _, _, rfl, (h.brought hz (m := ord.length) (Nat.le_refl _)).saw cn (ord.length : Int), by omega, Nat.zero_le _, fun a1 ts kk h1 h2 h3 => ?_⟩
    obtain ⟨f1, f2, f3⟩ := fin a1 ts kk h1 h2 h3
    simp only [F25_L0, f1, cond_true, cond_false, idx_some h1, Option.bind_some, hA, hB]
    simp only [cond_true, cond_false, Option.bind_some, e2, e3, e4, idx_some g2, idx_some gs, idx_some gz, gset, Int.toNat_natCast, f2, f3 (0, ByteArray.empty, 0, [])]
end Go.Proofs.YtadfgohglcglcaaDoor

namespace Go.Proofs.YtadfgohglcglcaaDoor
open Go Go.Bk
set_option linter.unusedVariables false
set_option linter.unusedSimpArgs false
theorem f18_self (l : List Int) (hl : l.length ≤ 1000) : F18 l l = some true := by
  have hw : whileM (F18_L0 l l) 0 = some (.brk ()) := by
    refine while_upto (fun (k : Nat) => (k : Int)) l.length (fun k hk => ?_) ?_ (fun s h => by cases h)
    · have hd : decide ((k : Int) < (l.length : Int)) = true := by simpa using hk
      have e : (l[k] != l[k]) = false := by simp
      simp only [F18_L0, hd, cond_true, idx_some (List.getElem?_eq_getElem hk), Option.bind_some, e, cond_false, w64_succ hk (show l.length ≤ 9223372036854775807 by omega)]
    · have hd : decide ((l.length : Int) < (l.length : Int)) = false := by simp
      simp only [F18_L0, hd, cond_false]
  unfold F18
  rw [show ((l.length : Int) != (l.length : Int)) = false by simp, cond_false, hw]
  rfl
theorem keeps {n : Nat} (a1 : List Sp) (hl : a1.length ≤ 60) (hx : ∀ x ∈ a1, okD x.2.2.2) : ∀ (m k : Nat) (ts : List Tl) (srv : List Sv) (ord : List Dd) (at6 seen6 : T6 Int) (ratt rapp rseen : List Int), k + m = a1.length → ts.length = k → ord.length ≤ k → (∀ t ∈ ts, t.2.2.2.length ≤ 12) → KR n srv ord at6 seen6 ratt rapp rseen →
    ∃ (ts' : List Tl) (srv' : List Sv) (ord' : List Dd) (at' seen' : T6 Int) (ratt' rapp' rseen' : List Int), whileM (F10_L1 a1) (ts, ord, srv, at6, seen6, (k : Int)) = some (.brk (ts', ord', srv', at', seen')) ∧ whileM (F25_L0 (n : Int) a1) (ord, ts, ratt, rapp, rseen, (k : Int)) = some (.brk (ts', ratt', rapp', rseen')) ∧
      KR n srv' ord' at' seen' ratt' rapp' rseen' ∧ ts'.length = a1.length ∧ ∀ t ∈ ts', t.2.2.2.length ≤ 12
  | 0, k, ts, srv, ord, at6, seen6, ratt, rapp, rseen, hk, ht, ho, hb, hR => by
    have hd : decide ((k : Int) < (a1.length : Int)) = false := by rw [decide_eq_false_iff_not]; omega
    refine ⟨ts, srv, ord, at6, seen6, ratt, rapp, rseen, whileM_brk ?_, whileM_brk ?_, hR, by omega, hb⟩
    · simp only [F10_L1, hd, cond_false]
    · simp only [F25_L0, hd, cond_false]
  | m + 1, k, ts, srv, ord, at6, seen6, ratt, rapp, rseen, hk, ht, ho, hb, hR => by
    have hlt : k < a1.length := by omega
    have hd : decide ((k : Int) < (a1.length : Int)) = true := by simpa using hlt
    have hg := List.getElem?_eq_getElem hlt
    obtain ⟨T, srv', ord', at', seen', ratt', rapp', rseen', s1, s2, s3, s4, s5⟩ := keep_step hR (by omega) a1[k] (hx _ (List.getElem_mem hlt))
    have s1' : F27 (srv, ord, at6, seen6) (a1[k].1, a1[k].2.1, a1[k].2.2.1, (a1[k].2.2.2.1, a1[k].2.2.2.2.1, a1[k].2.2.2.2.2.1, a1[k].2.2.2.2.2.2)) = some (T, (srv', ord', at', seen')) := s1
    have ha' : appl 56 ts [(T.1, T.2.1, T.2.2.1, T.2.2.2)] = some (ts ++ [T]) := app56 ts T (by omega)
    have hw := w64_succ hlt (show a1.length ≤ 9223372036854775807 by omega)
    obtain ⟨ts'', srv'', ord'', at'', seen'', ratt'', rapp'', rseen'', r1, r2, r3, r4, r5⟩ := keeps a1 hl hx m (k + 1) (ts ++ [T]) srv' ord' at' seen' ratt' rapp' rseen' (by omega) (by simp [ht]) (by omega) (fun x q => by
      rcases List.mem_append.1 q with q | q
      · exact hb x q
      · rw [List.mem_singleton] at q; rw [q]; exact s4) s2
    refine ⟨ts'', srv'', ord'', at'', seen'', ratt'', rapp'', rseen'', ?_, ?_, r3, r4, r5⟩
    · rw [whileM_nxt ?_, r1]
      simp only [F10_L1, hd, cond_true, idx_some hg, Option.bind_some, s1', ha', hw]
    · rw [whileM_nxt (s5 a1 ts k hg hl ht), r2]
theorem app16s (l : List Sv) (z : Sv) (h : l.length ≤ 1000) : appl 16 l [z] = some (l ++ [z]) := by
  unfold appl; rw [if_pos]; simp; omega
theorem f10_l0 (n : Nat) (hn : n ≤ 6) : whileM (F10_L0 (n : Int)) ([], 0) = some (.brk (List.replicate n ((M0, 0) : Sv))) := by
  have hst : ((fun (k : Nat) => (List.replicate k ((M0, 0) : Sv), (k : Int))) 0) = ([], 0) := rfl
  rw [← hst]
  refine while_upto (fun (k : Nat) => (List.replicate k ((M0, 0) : Sv), (k : Int))) n (fun k hk => ?_) ?_ (fun s h => by cases h)
  · have hd : decide ((k : Int) < (n : Int)) = true := by rw [decide_eq_true_eq]; omega
    have h26 : F26 = some M0 := rfl
    simp only [F10_L0, hd, cond_true, h26, Option.bind_some, app16s (List.replicate k ((M0, 0) : Sv)) (M0, 0) (by simp; omega), w64_succ hk (show n ≤ 9223372036854775807 by omega)]
    rw [← List.replicate_succ']
  · have hd : decide ((n : Int) < (n : Int)) = false := by simp
    simp only [F10_L0, hd, cond_false]
theorem f10_l2 (srv : List Sv) (hl : srv.length ≤ 6) : whileM (F10_L2 srv) ([], 0) = some (.brk (srv.map (·.2))) := by
  have hst : ((fun (k : Nat) => ((srv.take k).map (·.2), (k : Int))) 0) = (([] : List Int), 0) := rfl
  rw [← hst]
  refine while_upto (fun (k : Nat) => ((srv.take k).map (·.2), (k : Int))) srv.length (fun k hk => ?_) ?_ (fun s h => by cases h)
  · have hd : decide ((k : Int) < (srv.length : Int)) = true := by rw [decide_eq_true_eq]; omega
    have hg := List.getElem?_eq_getElem hk
    have ht : srv.take (k + 1) = srv.take k ++ [srv[k]] := by rw [List.take_add_one, hg]; rfl
    have ha : appl 8 ((srv.take k).map (·.2)) [srv[k].2] = some ((srv.take k).map (·.2) ++ [srv[k].2]) := by unfold appl; rw [if_pos]; simp; omega
    simp only [F10_L2, hd, cond_true, idx_some hg, Option.bind_some, ha, w64_succ hk (show srv.length ≤ 9223372036854775807 by omega), ht, List.map_append, List.map_cons, List.map_nil]
  · have hd : decide ((srv.length : Int) < (srv.length : Int)) = false := by simp
    simp only [F10_L2, hd, cond_false, List.take_length]
theorem KR.start (n : Nat) (hn : 0 < n) : KR n (List.replicate n ((M0, 0) : Sv)) [] (0, 0, 0, 0, 0, 0) (0, 0, 0, 0, 0, 0) (List.replicate 6 0) (List.replicate n 0) (List.replicate 6 0) :=
  ⟨fun d hd => (by cases hd), by simp, by simp, fun s hs => ⟨0, by simp, by rw [List.getElem?_replicate, if_pos hs]; rfl, by rw [List.getElem?_replicate, if_pos hs]; rfl⟩, rfl, fun c hc => ⟨0, hn, by rw [List.getElem?_replicate, if_pos hc]; rfl⟩, rfl⟩
theorem KR.apps {n : Nat} {srv : List Sv} {ord : List Dd} {at6 seen6 : T6 Int} {ratt rapp rseen : List Int} (h : KR n srv ord at6 seen6 ratt rapp rseen) : srv.map (·.2) = rapp := by
  apply List.ext_getElem?
  intro i
  rw [List.getElem?_map]
  by_cases c : i < n
  · obtain ⟨j, _, h2, h3⟩ := h.sv i c
    rw [h2, h3]; rfl
  · rw [List.getElem?_eq_none (by rw [h.len]; omega), List.getElem?_eq_none (by rw [h.rlen]; omega)]; rfl
theorem law_KeepPlays (a0 : Int) (_ : i64 a0) (a1 : List Sp) (h : a1.length ≤ 140737488351232) (wf : ∀ x ∈ a1, (i64 x.1) ∧ (i64 x.2.1) ∧ (i64 x.2.2.1) ∧ ((i64 x.2.2.2.1) ∧ (x.2.2.2.2.1.size ≤ maxLen) ∧ (x.2.2.2.2.2.1.size ≤ maxLen) ∧ (i64 x.2.2.2.2.2.2))) : F9 a0 a1 = some true := by
  unfold F9 F10 F11
  cases c : (((decide (a0 < 1)) || (decide (a0 > 6))) || (decide ((a1.length : Int) > 60))) with
  | true =>
    have h1 := f13_self [] (by simp) (fun t ht => by cases ht)
    have h2 := f18_self [] (by simp)
    have e : ((1 : Int) == 0) = false := rfl
    have e2 : ((1 : Int) == 1) = true := rfl
    simp only [cond_true, Option.bind_some, e, e2, cond_false, h1, h2]
  | false =>
    simp only [Bool.or_eq_false_iff, decide_eq_false_iff_not] at c
    obtain ⟨n, rfl⟩ := Int.eq_ofNat_of_zero_le (show 0 ≤ a0 by omega)
    have hn : 1 ≤ n ∧ n ≤ 6 := by omega
    obtain ⟨ts, srv, ord, at6, seen6, ratt, rapp, rseen, r1, r2, r3, r4, r5⟩ := keeps (n := n) a1 (by omega) (fun x q => (wf x q).2.2.2.2.1) a1.length 0 [] _ [] _ _ _ _ _ (by omega) rfl (Nat.le_refl _) (fun t ht => by cases ht) (KR.start n (by omega))
    have r1' : whileM (F10_L1 a1) ([], [], List.replicate n ((M0, 0) : Sv), (0, 0, 0, 0, 0, 0), (0, 0, 0, 0, 0, 0), 0) = some (.brk (ts, ord, srv, at6, seen6)) := r1
    have r2' : whileM (F25_L0 (n : Int) a1) ([], [], List.replicate 6 0, List.replicate n 0, List.replicate 6 0, 0) = some (.brk (ts, ratt, rapp, rseen)) := r2
    have hL0 := f10_l0 n hn.2
    have hL2 := f10_l2 srv (by rw [r3.len]; exact hn.2)
    rw [r3.apps] at hL2
    have ha : appl 8 ([] : List Int) (tl6 seen6) = some rseen := by rw [r3.seen]; unfold appl; rw [if_pos]; · rfl
                                                                    · rw [← r3.seen]; exact ⟨by rw [tl6_len]; decide, by rw [tl6_len]; decide⟩
    have m1 : mkl (n : Int) 8 (0 : Int) = some (List.replicate n 0) := by unfold mkl; rw [if_pos ⟨by omega, by omega, by omega⟩]; simp
    have m2 : mkl 6 8 (0 : Int) = some (List.replicate 6 0) := rfl
    have h13 := f13_self ts (by omega) r5
    have h18a := f18_self rapp (by rw [r3.rlen]; omega)
    have h18b := f18_self rseen (by rw [← r3.seen, tl6_len]; decide)
    have e : ((0 : Int) == 0) = true := rfl
    unfold F25
    simp only [cond_false, cond_true, Option.bind_some, hL0, Ctl.on, r1', hL2, ha, e, m1, m2, r2', h13, h18a, h18b]
end Go.Proofs.YtadfgohglcglcaaDoor

namespace Go.Proofs.YtadfgohglcglcaaDoor
open Go Go.Bk
set_option linter.unusedVariables false
set_option linter.unusedSimpArgs false
/-- The program's side alone: servers, order, where clients are, what they saw. -/
structure PS where
  srv : List Sv
  ord : List Dd
  att : T6 Int
  seen : T6 Int
def PS.tup (p : PS) : List Sv × List Dd × T6 Int × T6 Int := (p.srv, p.ord, p.att, p.seen)
/-- Server s is at j. -/
def PS.at (p : PS) (s j : Nat) : Prop := p.srv[s]? = some (mTree (p.ord.take j), (j : Int))
structure PI (n : Nat) (p : PS) : Prop where
  ok : ∀ d ∈ p.ord, okD d
  len : p.srv.length = n
  sv : ∀ s, s < n → ∃ j : Nat, j ≤ p.ord.length ∧ p.at s j
  cl : ∀ c, c < 6 → ∃ s j v : Nat, s < n ∧ (tl6 p.att)[c]? = some (s : Int) ∧ p.at s j ∧ (tl6 p.seen)[c]? = some (v : Int) ∧ v ≤ j ∧ j ≤ p.ord.length
/-- What a step may do. -/
inductive Did (n : Nat) (p : PS) (x : Sp) : Tl → PS → Prop
  | no (e : Int) (he : e ≠ 0) (hw : ¬ (x.1 = 1 ∧ 0 ≤ x.2.1 ∧ x.2.1 < 6 ∧ 1 ≤ x.2.2.2.1 ∧ x.2.2.2.1 ≤ 3)) : Did n p x (e, ByteArray.empty, 0, []) p
  | look (c s j : Nat) (hc : c < 6) (hx : x.1 = 1 ∧ x.2.1 = c ∧ 4 ≤ x.2.2.2.1) (hs : s < n) (ha : (tl6 p.att)[c]? = some (s : Int)) (hj : p.at s j) (hjl : j ≤ p.ord.length) : Did n p x (told (p.ord.take j) x.2.2.2) { p with seen := ts6 p.seen c (j : Int) }
  | write (c s : Nat) (hc : c < 6) (hx : x.1 = 1 ∧ x.2.1 = c ∧ 1 ≤ x.2.2.2.1 ∧ x.2.2.2.1 ≤ 3) (hs : s < n) (ha : (tl6 p.att)[c]? = some (s : Int)) : Did n p x (told p.ord x.2.2.2) { p with srv := p.srv.set s (mTree (p.ord ++ [x.2.2.2]), ((p.ord.length + 1 : Nat) : Int)), ord := p.ord ++ [x.2.2.2], seen := ts6 p.seen c ((p.ord.length + 1 : Nat) : Int) }
  | apply (s j : Nat) (hx : x.1 = 2) (hs : s < n) (hj : p.at s j) (hjl : j < p.ord.length) : Did n p x t0 { p with srv := p.srv.set s (mTree (p.ord.take (j + 1)), ((j + 1 : Nat) : Int)) }
  | move (c s j v : Nat) (hx : x.1 = 3) (hc : c < 6) (hs : s < n) (hj : p.at s j) (hv : (tl6 p.seen)[c]? = some (v : Int)) (hvj : v ≤ j) : Did n p x t0 { p with att := ts6 p.att c (s : Int) }
  | sync (c s : Nat) (hx : x.1 = 4) (hc : c < 6) (hs : s < n) (ha : (tl6 p.att)[c]? = some (s : Int)) : Did n p x t0 { p with srv := p.srv.set s (mTree p.ord, (p.ord.length : Int)), seen := ts6 p.seen c (p.ord.length : Int) }
theorem did_step {n : Nat} {p : PS} (h : PI n p) (hl : p.ord.length ≤ 100) (x : Sp) (hx : okD x.2.2.2) : ∃ T p', F27 p.tup x = some (T, p'.tup) ∧ Did n p x T p' := by
  obtain ⟨k, c, s, dk, path, data, ver⟩ := x
  obtain ⟨srv, ord, at6, seen6⟩ := p
  have hx' : okD (dk, path, data, ver) := hx
  have hlen : srv.length = n := h.len
  have hn : (srv.length : Int) = (n : Int) := by rw [hlen]
  have hl' : ord.length ≤ 100 := hl
  show ∃ T p', F27 (srv, ord, at6, seen6) _ = some (T, PS.tup p') ∧ _
  simp only [F27, hn]
  cases hA : (((decide (k < 1)) || (decide (k > 4))) || ((k == 1) && ((decide (dk < 1)) || (decide (dk > 5))))) with
  | true =>
    refine ⟨_, ⟨srv, ord, at6, seen6⟩, rfl, Did.no 6 (by decide) ?_⟩
    rintro ⟨q1, _, _, q2, q3⟩
    simp only at q1 q2 q3
    simp only [Bool.or_eq_true, Bool.and_eq_true, decide_eq_true_eq, beq_iff_eq] at hA
    omega
  | false =>
  simp only [cond_false]
  cases hB : (((k != 2) && (!((decide (c ≥ 0)) && (decide (c < 6))))) || (((k == 2) || (k == 3)) && (!((decide (s ≥ 0)) && (decide (s < (n : Int))))))) with
  | true =>
    refine ⟨_, ⟨srv, ord, at6, seen6⟩, rfl, Did.no 2 (by decide) ?_⟩
    rintro ⟨q1, q4, q5, q2, q3⟩
    simp only at q1 q2 q3 q4 q5
    subst q1
    have b1 : decide (c ≥ 0) = true := by simpa using q4
    have b2 : decide (c < 6) = true := by simpa using q5
    rw [b1, b2] at hB
    simp at hB
  | false =>
  simp only [cond_false]
  have hk : k = 1 ∨ k = 2 ∨ k = 3 ∨ k = 4 := by
    simp only [Bool.or_eq_false_iff, decide_eq_false_iff_not] at hA
    omega
  have hc : k ≠ 2 → ∃ cn : Nat, cn < 6 ∧ c = (cn : Int) := fun q => by
    have q2 : (k != 2) = true := by simpa using q
    rw [q2, Bool.true_and] at hB
    have := (Bool.or_eq_false_iff.1 hB).1
    simp at this
    exact ⟨c.toNat, by omega, by omega⟩
  have hsn : k = 2 ∨ k = 3 → ∃ sn : Nat, sn < n ∧ s = (sn : Int) := fun q => by
    have q2 : ((k == 2) || (k == 3)) = true := by rcases q with rfl | rfl <;> rfl
    rw [q2, Bool.true_and] at hB
    have := (Bool.or_eq_false_iff.1 hB).2
    simp at this
    exact ⟨s.toNat, by omega, by omega⟩
  rcases hk with rfl | rfl | rfl | rfl
  · obtain ⟨cn, hcn, rfl⟩ := hc (by decide)
    obtain ⟨z, j, v, hz, gz, g1, gs, hv, hj⟩ := h.cl cn hcn
    have g1 : srv[z]? = some (mTree (ord.take j), (j : Int)) := g1
    have e1 : ((1 : Int) == 1) = true := rfl
    have hdk : 1 ≤ dk ∧ dk ≤ 5 := by
      rw [e1, Bool.true_and] at hA
      simp only [Bool.or_eq_false_iff, decide_eq_false_iff_not] at hA
      omega
    have is : idx (tl6 seen6) (cn : Int) = some (v : Int) := idx_some gs
    have ia : idx (tl6 at6) (cn : Int) = some (z : Int) := idx_some gz
    simp only [e1, cond_true, F33, ia, Option.bind_some]
    by_cases hr : dk ≥ 4
    · have e5 : ((dk == 4) || (dk == 5)) = true := by
        rw [Bool.or_eq_true, beq_iff_eq, beq_iff_eq]; omega
      have hok2 : ∀ d ∈ ord.take j, okD d := fun d q => h.ok d (List.mem_of_mem_take q)
      have hR := tree_R _ (ord.take j) rfl hok2
      obtain ⟨s1, s2, s3, s4⟩ := tree_step hR hx'
      rw [read_same hR hx' (by show dk = 4 ∨ dk = 5; omega)] at s1
      have hset : srv.set z (mTree (ord.take j), (j : Int)) = srv := by
        apply List.ext_getElem?
        intro i
        rw [List.getElem?_set]
        by_cases c : z = i
        · subst c; rw [g1]; simp [lt_of_get g1]
        · simp [c]
      simp only [e5, cond_true, idx_some g1, Option.bind_some, s1, Int.toNat_natCast, hset, is, as6_val hcn]
      exact ⟨_, ⟨srv, ord, at6, ts6 seen6 cn (j : Int)⟩, rfl, Did.look (p := ⟨srv, ord, at6, seen6⟩) (x := (1, (cn : Int), s, dk, path, data, ver)) cn z j hcn ⟨rfl, rfl, hr⟩ hz gz g1 hj⟩
    · have e5 : ((dk == 4) || (dk == 5)) = false := by
        rw [Bool.or_eq_false_iff, beq_eq_false_iff_ne, beq_eq_false_iff_ne]; omega
      have s8 : appl 48 ord [(dk, path, data, ver)] = some (ord ++ [(dk, path, data, ver)]) := by unfold appl; rw [if_pos]; simp; omega
      have hL : (ord ++ [(dk, path, data, ver)]).length = ord.length + 1 := by simp
      have g1' : srv[z]? = some (mTree ((ord ++ [(dk, path, data, ver)]).take j), (j : Int)) := by rw [take_app hj]; exact g1
      have hok' : ∀ d ∈ ord ++ [(dk, path, data, ver)], okD d := fun d q => by
        rcases List.mem_append.1 q with q | q
        · exact h.ok d q
        · rw [List.mem_singleton] at q; rw [q]; exact hx'
      obtain ⟨a1, a2⟩ := apply_val (ord := ord ++ [(dk, path, data, ver)]) (srv := srv) (s := z) (j := j) (many := (ord ++ [(dk, path, data, ver)]).length) (by omega) hok' (Nat.le_refl _) (by have : j ≤ ord.length := hj; omega) g1'
      have hT : lastT (ord ++ [(dk, path, data, ver)]) j (ord ++ [(dk, path, data, ver)]).length t0 = told ord (dk, path, data, ver) := by
        unfold lastT
        have : j ≤ ord.length := hj
        rw [hL, if_neg (by omega), Nat.add_sub_cancel, take_app (Nat.le_refl _), List.take_length]
        rw [List.getD_eq_getElem?_getD, List.getElem?_append_right (Nat.le_refl _)]
        simp
      rw [hT, List.take_length, hL] at a1
      have gset2 : idx (srv.set z (mTree (ord ++ [(dk, path, data, ver)]), ((ord.length + 1 : Nat) : Int))) (z : Int) = some (mTree (ord ++ [(dk, path, data, ver)]), ((ord.length + 1 : Nat) : Int)) := idx_some (List.getElem?_set_self (by rw [hlen]; exact hz))
      simp only [e5, cond_false, s8, hL, a1, gset2, Option.bind_some, is, as6_val hcn]
      exact ⟨_, ⟨srv.set z (mTree (ord ++ [(dk, path, data, ver)]), ((ord.length + 1 : Nat) : Int)), ord ++ [(dk, path, data, ver)], at6, ts6 seen6 cn ((ord.length + 1 : Nat) : Int)⟩, rfl, Did.write (p := ⟨srv, ord, at6, seen6⟩) (x := (1, (cn : Int), s, dk, path, data, ver)) cn z hcn ⟨rfl, rfl, by show 1 ≤ dk ∧ dk ≤ 3; omega⟩ hz gz⟩
  · obtain ⟨sn, hsn1, rfl⟩ := hsn (.inl rfl)
    obtain ⟨j, hj, g1⟩ := h.sv sn hsn1
    have g1 : srv[sn]? = some (mTree (ord.take j), (j : Int)) := g1
    have hj : j ≤ ord.length := hj
    have e1 : ((2 : Int) == 1) = false := rfl
    have e2 : ((2 : Int) == 2) = true := rfl
    simp only [e1, e2, cond_false, cond_true, idx_some g1, Option.bind_some]
    by_cases cj : j = ord.length
    · have e3 : ((j : Int) == (ord.length : Int)) = true := by rw [beq_iff_eq]; omega
      simp only [e3, cond_true]
      exact ⟨_, ⟨srv, ord, at6, seen6⟩, rfl, Did.no 5 (by decide) (fun q => by have := q.1; simp at this)⟩
    · have e3 : ((j : Int) == (ord.length : Int)) = false := by rw [beq_eq_false_iff_ne]; omega
      have hw : w64 ((j : Int) + 1) = ((j + 1 : Nat) : Int) := w64_succ (n := 200) (by omega) (by omega)
      obtain ⟨a1, a2⟩ := apply_val (ord := ord) (srv := srv) (s := sn) (j := j) (many := j + 1) (by omega) h.ok (by omega) (by omega) g1
      simp only [e3, cond_false, hw, a1, Option.bind_some]
      exact ⟨_, ⟨srv.set sn (mTree (ord.take (j + 1)), ((j + 1 : Nat) : Int)), ord, at6, seen6⟩, rfl, Did.apply (p := ⟨srv, ord, at6, seen6⟩) sn j rfl hsn1 g1 (by show j < ord.length; omega)⟩
  · obtain ⟨sn, hsn1, rfl⟩ := hsn (.inr rfl)
    obtain ⟨cn, hcn, rfl⟩ := hc (by decide)
    obtain ⟨j, hj, g1⟩ := h.sv sn hsn1
    have g1 : srv[sn]? = some (mTree (ord.take j), (j : Int)) := g1
    obtain ⟨z, jz, v, hz, gz, gzz, gs, hv, hjz⟩ := h.cl cn hcn
    have e1 : ((3 : Int) == 1) = false := rfl
    have e2 : ((3 : Int) == 2) = false := rfl
    have e3 : ((3 : Int) == 3) = true := rfl
    have is : idx (tl6 seen6) (cn : Int) = some (v : Int) := idx_some gs
    have ia : idx (tl6 at6) (cn : Int) = some (z : Int) := idx_some gz
    simp only [e1, e2, e3, cond_false, cond_true, idx_some g1, Option.bind_some, is, ia, as6_val hcn]
    cases cv : decide ((j : Int) < (v : Int)) with
    | true => exact ⟨_, ⟨srv, ord, at6, seen6⟩, rfl, Did.no 8 (by decide) (fun q => by have := q.1; simp at this)⟩
    | false =>
      rw [decide_eq_false_iff_not] at cv
      exact ⟨_, ⟨srv, ord, ts6 at6 cn (sn : Int), seen6⟩, rfl, Did.move (p := ⟨srv, ord, at6, seen6⟩) cn sn j v rfl hcn hsn1 g1 gs (by omega)⟩
  · obtain ⟨cn, hcn, rfl⟩ := hc (by decide)
    obtain ⟨z, j, v, hz, gz, g1, gs, hv, hj⟩ := h.cl cn hcn
    have g1 : srv[z]? = some (mTree (ord.take j), (j : Int)) := g1
    have hj : j ≤ ord.length := hj
    have e1 : ((4 : Int) == 1) = false := rfl
    have e2 : ((4 : Int) == 2) = false := rfl
    have e3 : ((4 : Int) == 3) = false := rfl
    have is : idx (tl6 seen6) (cn : Int) = some (v : Int) := idx_some gs
    have ia : idx (tl6 at6) (cn : Int) = some (z : Int) := idx_some gz
    obtain ⟨a1, a2⟩ := apply_val (ord := ord) (srv := srv) (s := z) (j := j) (many := ord.length) (by omega) h.ok (Nat.le_refl _) hj g1
    rw [List.take_length] at a1
    simp only [e1, e2, e3, cond_false, Option.bind_some, is, ia, a1, as6_val hcn]
    exact ⟨_, ⟨srv.set z (mTree ord, (ord.length : Int)), ord, at6, ts6 seen6 cn (ord.length : Int)⟩, rfl, Did.sync (p := ⟨srv, ord, at6, seen6⟩) cn z rfl hcn hz gz⟩
theorem tl6_get {x : T6 Int} {c : Nat} (hc : c < 6) (i : Nat) (v : Int) : (tl6 (ts6 x c v))[i]? = if c = i then some v else (tl6 x)[i]? := by
  rw [tl6_set, List.getElem?_set]
  by_cases h : c = i
  · rw [if_pos h, if_pos h, if_pos (by rw [tl6_len]; omega)]
  · rw [if_neg h, if_neg h]
theorem PS.at_set {p : PS} {s i j m : Nat} (hs : s < p.srv.length) (hj : p.at i j) : ({ p with srv := p.srv.set s (mTree (p.ord.take m), (m : Int)) } : PS).at i (if s = i then m else j) := by
  unfold PS.at at *
  simp only
  by_cases c : s = i
  · subst c
    rw [if_pos rfl, List.getElem?_set_self hs]
  · rw [if_neg c, List.getElem?_set_ne c]; exact hj
theorem PS.at_uniq {p : PS} {s i j : Nat} (h1 : p.at s i) (h2 : p.at s j) : i = j := by
  unfold PS.at at *
  rw [h1] at h2
  have := (Prod.mk.inj (Option.some.inj h2)).2
  omega
end Go.Proofs.YtadfgohglcglcaaDoor

namespace Go.Proofs.YtadfgohglcglcaaDoor
open Go Go.Bk
set_option linter.unusedVariables false
set_option linter.unusedSimpArgs false
theorem PI.set {n : Nat} {p : PS} (h : PI n p) {s m : Nat} (hs : s < n) (hm : m ≤ p.ord.length) (hj : ∀ j, p.at s j → j ≤ m) : PI n { p with srv := p.srv.set s (mTree (p.ord.take m), (m : Int)) } := by
  have hsl : s < p.srv.length := by rw [h.len]; exact hs
  refine ⟨h.ok, by show (p.srv.set _ _).length = n; rw [List.length_set]; exact h.len, fun i hi => ?_, fun c hc => ?_⟩
  · obtain ⟨j, h1, h2⟩ := h.sv i hi
    refine ⟨if s = i then m else j, ?_, PS.at_set hsl h2⟩
    show _ ≤ p.ord.length
    split <;> omega
  · obtain ⟨z, j, v, h1, h2, h3, h4, h5, h6⟩ := h.cl c hc
    refine ⟨z, if s = z then m else j, v, h1, h2, PS.at_set hsl h3, h4, ?_, ?_⟩
    · by_cases q : s = z
      · subst q
        have := hj j h3
        rw [if_pos rfl]; omega
      · rw [if_neg q]; exact h5
    · show _ ≤ p.ord.length
      split <;> omega
theorem PI.saw {n : Nat} {p : PS} (h : PI n p) {c s j v : Nat} (hc : c < 6) (hs : s < n) (ha : (tl6 p.att)[c]? = some (s : Int)) (hj : p.at s j) (hv : v ≤ j) (hl : j ≤ p.ord.length) : PI n { p with seen := ts6 p.seen c (v : Int) } := by
  refine ⟨h.ok, h.len, h.sv, fun i hi => ?_⟩
  by_cases q : c = i
  · subst q
    exact ⟨s, j, v, hs, ha, hj, by show (tl6 (ts6 _ _ _))[c]? = _; rw [tl6_get hc, if_pos rfl], hv, hl⟩
  · obtain ⟨z, j', v', h1, h2, h3, h4, h5, h6⟩ := h.cl i hi
    exact ⟨z, j', v', h1, h2, h3, by show (tl6 (ts6 _ _ _))[i]? = _; rw [tl6_get hc, if_neg q]; exact h4, h5, h6⟩
theorem PI.went {n : Nat} {p : PS} (h : PI n p) {c s j v : Nat} (hc : c < 6) (hs : s < n) (hj : p.at s j) (hl : j ≤ p.ord.length) (hv : (tl6 p.seen)[c]? = some (v : Int)) (hvj : v ≤ j) : PI n { p with att := ts6 p.att c (s : Int) } := by
  refine ⟨h.ok, h.len, h.sv, fun i hi => ?_⟩
  by_cases q : c = i
  · subst q
    exact ⟨s, j, v, hs, by show (tl6 (ts6 _ _ _))[c]? = _; rw [tl6_get hc, if_pos rfl], hj, hv, hvj, hl⟩
  · obtain ⟨z, j', v', h1, h2, h3, h4, h5, h6⟩ := h.cl i hi
    exact ⟨z, j', v', h1, by show (tl6 (ts6 _ _ _))[i]? = _; rw [tl6_get hc, if_neg q]; exact h2, h3, h4, h5, h6⟩
theorem PS.at_more {p : PS} {s j : Nat} (d : Dd) (hl : j ≤ p.ord.length) (hj : p.at s j) : ({ p with ord := p.ord ++ [d] } : PS).at s j := by
  unfold PS.at at *
  simp only
  rw [List.take_append_of_le_length hl]; exact hj
theorem PI.more {n : Nat} {p : PS} (h : PI n p) {d : Dd} (hd : okD d) : PI n { p with ord := p.ord ++ [d] } := by
  have e : (p.ord ++ [d]).length = p.ord.length + 1 := by simp
  refine ⟨fun x hx => ?_, h.len, fun i hi => ?_, fun c hc => ?_⟩
  · rcases List.mem_append.mp hx with q | q
    · exact h.ok x q
    · rw [List.mem_singleton] at q; subst q; exact hd
  · obtain ⟨j, h1, h2⟩ := h.sv i hi
    exact ⟨j, by show j ≤ (p.ord ++ [d]).length; omega, PS.at_more d h1 h2⟩
  · obtain ⟨z, j, v, h1, h2, h3, h4, h5, h6⟩ := h.cl c hc
    exact ⟨z, j, v, h1, h2, PS.at_more d h6 h3, h4, h5, by show j ≤ (p.ord ++ [d]).length; omega⟩
theorem PS.at_le {n : Nat} {p : PS} (h : PI n p) {s j : Nat} (hs : s < n) (hj : p.at s j) : j ≤ p.ord.length := by
  obtain ⟨j', h1, h2⟩ := h.sv s hs
  rw [PS.at_uniq hj h2]; exact h1
theorem PI.did {n : Nat} {p p' : PS} {x : Sp} {T : Tl} (h : PI n p) (hx : okD x.2.2.2) (d : Did n p x T p') : PI n p' := by
  cases d with
  | no e he hw => exact h
  | look c s j hc hx hs ha hj hjl => exact h.saw hc hs ha hj (Nat.le_refl _) hjl
  | write c s hc hx' hs ha =>
    have h1 := h.more hx
    have e : (p.ord ++ [x.2.2.2]).length = p.ord.length + 1 := by simp
    have h2 := h1.set (s := s) (m := p.ord.length + 1) hs (by show _ ≤ (p.ord ++ [x.2.2.2]).length; omega) (fun j hj => by
      have := PS.at_le h1 hs hj
      have q : j ≤ (p.ord ++ [x.2.2.2]).length := this
      omega)
    have et : (p.ord ++ [x.2.2.2]).take (p.ord.length + 1) = p.ord ++ [x.2.2.2] := by rw [← e, List.take_length]
    have h2 : PI n { p with srv := p.srv.set s (mTree ((p.ord ++ [x.2.2.2]).take (p.ord.length + 1)), ((p.ord.length + 1 : Nat) : Int)), ord := p.ord ++ [x.2.2.2] } := h2
    have g : ({ p with srv := p.srv.set s (mTree ((p.ord ++ [x.2.2.2]).take (p.ord.length + 1)), ((p.ord.length + 1 : Nat) : Int)), ord := p.ord ++ [x.2.2.2] } : PS).at s (p.ord.length + 1) := by
      unfold PS.at
      simp only
      rw [List.getElem?_set_self (by rw [h.len]; exact hs)]
    have h3 := h2.saw (c := c) (s := s) (j := p.ord.length + 1) (v := p.ord.length + 1) hc hs ha g (Nat.le_refl _) (by show _ ≤ (p.ord ++ [x.2.2.2]).length; omega)
    rw [et] at h3
    exact h3
  | apply s j hx hs hj hjl =>
    exact h.set hs (by omega) (fun i hi => by have := PS.at_uniq hi hj; omega)
  | move c s j v hx hc hs hj hv hvj => exact h.went hc hs hj (PS.at_le h hs hj) hv hvj
  | sync c s hx hc hs ha =>
    have h2 := h.set (s := s) (m := p.ord.length) hs (Nat.le_refl _) (fun j hj => PS.at_le h hs hj)
    have g : ({ p with srv := p.srv.set s (mTree (p.ord.take p.ord.length), (p.ord.length : Int)) } : PS).at s p.ord.length := by
      unfold PS.at
      simp only
      rw [List.getElem?_set_self (by rw [h.len]; exact hs)]
    have h3 := h2.saw (c := c) (s := s) (j := p.ord.length) (v := p.ord.length) hc hs ha g (Nat.le_refl _) (Nat.le_refl _)
    rw [List.take_length] at h3
    exact h3
end Go.Proofs.YtadfgohglcglcaaDoor

namespace Go.Proofs.YtadfgohglcglcaaDoor
open Go Go.Bk
set_option linter.unusedVariables false
set_option linter.unusedSimpArgs false
inductive Run (n : Nat) : PS → List Sp → List Tl → PS → Prop
  | nil (p : PS) : Run n p [] [] p
  | cons {p p' q : PS} {x : Sp} {T : Tl} {xs : List Sp} {ts : List Tl} (h1 : F27 p.tup x = some (T, p'.tup)) (h2 : Did n p x T p') (h3 : Run n p' xs ts q) : Run n p (x :: xs) (T :: ts) q
theorem Did.len_le {n : Nat} {p p' : PS} {x : Sp} {T : Tl} (d : Did n p x T p') : p'.ord.length ≤ p.ord.length + 1 := by
  cases d <;> simp
theorem PS.tup_inj {p q : PS} (h : p.tup = q.tup) : p = q := by
  obtain ⟨a, b, c, d⟩ := p
  obtain ⟨a', b', c', d'⟩ := q
  simp only [PS.tup, Prod.mk.injEq] at h
  obtain ⟨rfl, rfl, rfl, rfl⟩ := h
  rfl
theorem run_ex {n : Nat} : ∀ (xs : List Sp) (p : PS), PI n p → p.ord.length + xs.length ≤ 60 → (∀ x ∈ xs, okD x.2.2.2) → ∃ ts q, Run n p xs ts q ∧ PI n q ∧ ts.length = xs.length
  | [], p, h, hl, hx => ⟨[], p, Run.nil p, h, rfl⟩
  | x :: xs, p, h, hl, hx => by
    have hl : p.ord.length + (xs.length + 1) ≤ 60 := hl
    obtain ⟨T, p', h1, h2⟩ := did_step h (by omega) x (hx x (by simp))
    have := h2.len_le
    obtain ⟨ts, q, r1, r2, r3⟩ := run_ex xs p' (h.did (hx x (by simp)) h2) (by omega) (fun y hy => hx y (by simp [hy]))
    exact ⟨T :: ts, q, Run.cons h1 h2 r1, r2, by simp [r3]⟩
theorem run_det {n : Nat} {p q : PS} {xs : List Sp} {ts : List Tl} (h : Run n p xs ts q) : ∀ {ts' : List Tl} {q' : PS}, Run n p xs ts' q' → ts = ts' ∧ q = q' := by
  induction h with
  | nil p => intro ts' q' g; cases g; exact ⟨rfl, rfl⟩
  | cons h1 h2 h3 ih =>
    intro ts' q' g
    cases g with
    | cons g1 g2 g3 =>
      rw [h1] at g1
      have e := Prod.mk.inj (Option.some.inj g1)
      have e2 := PS.tup_inj e.2
      subst e2
      obtain ⟨a, b⟩ := ih g3
      exact ⟨by rw [e.1, a], b⟩
theorem run_split {n : Nat} : ∀ (xs ys : List Sp) (p q : PS) (ts : List Tl), Run n p (xs ++ ys) ts q → ∃ t1 t2 m, ts = t1 ++ t2 ∧ Run n p xs t1 m ∧ Run n m ys t2 q
  | [], ys, p, q, ts, h => ⟨[], ts, p, rfl, Run.nil p, h⟩
  | x :: xs, ys, p, q, ts, h => by
    cases h with
    | cons h1 h2 h3 =>
      obtain ⟨t1, t2, m, e, r1, r2⟩ := run_split xs ys _ q _ h3
      exact ⟨_ :: t1, t2, m, by rw [e]; rfl, Run.cons h1 h2 r1, r2⟩
theorem run_loop {n : Nat} (a1 : List Sp) (hl : a1.length ≤ 60) : ∀ (xs : List Sp) (k : Nat) (p q : PS) (acc ts : List Tl), a1.drop k = xs → k ≤ a1.length → acc.length = k → Run n p xs ts q →
    whileM (F10_L1 a1) (acc, p.ord, p.srv, p.att, p.seen, (k : Int)) = some (.brk (acc ++ ts, q.ord, q.srv, q.att, q.seen))
  | [], k, p, q, acc, ts, hk, hkl, ha, h => by
    cases h
    have hlen : a1.length ≤ k := List.drop_eq_nil_iff.mp hk
    have hd : decide ((k : Int) < (a1.length : Int)) = false := by rw [decide_eq_false_iff_not]; omega
    refine whileM_brk ?_
    simp only [F10_L1, hd, cond_false, List.append_nil]
  | x :: xs, k, p, q, acc, ts, hk, hkl, ha, h => by
    cases h with
    | @cons _ p' _ _ T _ ts h1 h2 h3 =>
      have hlt : k < a1.length := by
        rcases Nat.lt_or_ge k a1.length with c | c
        · exact c
        · rw [List.drop_eq_nil_of_le c] at hk; cases hk
      rw [List.drop_eq_getElem_cons hlt] at hk
      obtain ⟨e1, e2⟩ := List.cons.inj hk
      have hd : decide ((k : Int) < (a1.length : Int)) = true := by simpa using hlt
      have hg := List.getElem?_eq_getElem hlt
      rw [e1] at hg
      have s1' : F27 (p.srv, p.ord, p.att, p.seen) (x.1, x.2.1, x.2.2.1, (x.2.2.2.1, x.2.2.2.2.1, x.2.2.2.2.2.1, x.2.2.2.2.2.2)) = some (T, (p'.srv, p'.ord, p'.att, p'.seen)) := h1
      have ha' : appl 56 acc [(T.1, T.2.1, T.2.2.1, T.2.2.2)] = some (acc ++ [T]) := app56 acc T (by omega)
      have hw := w64_succ hlt (show a1.length ≤ 9223372036854775807 by omega)
      have r := run_loop a1 hl xs (k + 1) p' q (acc ++ [T]) ts e2 hlt (by simp [ha]) h3
      rw [whileM_nxt ?_, r]
      · simp
      · simp only [F10_L1, hd, cond_true, idx_some hg, Option.bind_some, s1', ha', hw]
def P0 (n : Nat) : PS := ⟨List.replicate n ((M0, 0) : Sv), [], (0, 0, 0, 0, 0, 0), (0, 0, 0, 0, 0, 0)⟩
theorem PI.start (n : Nat) (hn : 0 < n) : PI n (P0 n) := by
  have hs : ∀ s, s < n → (P0 n).at s 0 := fun s hs => by
    show (List.replicate n ((M0, 0) : Sv))[s]? = _
    rw [List.getElem?_replicate, if_pos hs]; rfl
  have hz : ∀ c, c < 6 → (tl6 ((0, 0, 0, 0, 0, 0) : T6 Int))[c]? = some ((0 : Nat) : Int) := fun c hc => by
    show (List.replicate 6 (0 : Int))[c]? = _
    rw [List.getElem?_replicate, if_pos hc]; rfl
  exact ⟨fun d hd => (by cases hd), List.length_replicate, fun s h => ⟨0, Nat.zero_le _, hs s h⟩, fun c hc => ⟨0, 0, 0, hn, hz c hc, hs 0 hn, hz c hc, Nat.le_refl _, Nat.zero_le _⟩⟩
theorem f10_val {n : Nat} (hn : 1 ≤ n ∧ n ≤ 6) (a1 : List Sp) (hl : a1.length ≤ 60) (hx : ∀ x ∈ a1, okD x.2.2.2) : ∃ ts q, Run n (P0 n) a1 ts q ∧ PI n q ∧ ts.length = a1.length ∧ F10 (n : Int) a1 = some ((ts, q.srv.map (·.2), tl6 q.seen), 0) := by
  obtain ⟨ts, q, r1, r2, r3⟩ := run_ex a1 (P0 n) (PI.start n hn.1) (by show 0 + a1.length ≤ 60; omega) hx
  refine ⟨ts, q, r1, r2, r3, ?_⟩
  have r := run_loop a1 hl a1 0 (P0 n) q [] ts rfl (Nat.zero_le _) rfl r1
  have r1' : whileM (F10_L1 a1) ([], [], List.replicate n ((M0, 0) : Sv), (0, 0, 0, 0, 0, 0), (0, 0, 0, 0, 0, 0), 0) = some (.brk (ts, q.ord, q.srv, q.att, q.seen)) := r
  have hL0 := f10_l0 n hn.2
  have hL2 := f10_l2 q.srv (by rw [r2.len]; exact hn.2)
  have ha : appl 8 ([] : List Int) (tl6 q.seen) = some (tl6 q.seen) := by
    unfold appl
    rw [if_pos ⟨by rw [tl6_len]; decide, by rw [tl6_len]; decide⟩]
    rfl
  have c : (((decide ((n : Int) < 1)) || (decide ((n : Int) > 6))) || (decide ((a1.length : Int) > 60))) = false := by
    simp only [Bool.or_eq_false_iff, decide_eq_false_iff_not]; omega
  unfold F10
  simp only [c, cond_false, hL0, Option.bind_some, Ctl.on, r1', hL2, ha]
end Go.Proofs.YtadfgohglcglcaaDoor

namespace Go.Proofs.YtadfgohglcglcaaDoor
open Go Go.Bk
set_option linter.unusedVariables false
set_option linter.unusedSimpArgs false
/-- What servers applied and clients saw only grows. -/
structure Grow (p q : PS) : Prop where
  ap : ∀ s j : Nat, p.at s j → ∃ j', j ≤ j' ∧ q.at s j'
  sn : ∀ c v : Nat, (tl6 p.seen)[c]? = some (v : Int) → ∃ v' : Nat, (tl6 q.seen)[c]? = some (v' : Int) ∧ v ≤ v'
theorem Grow.rfl' (p : PS) : Grow p p := ⟨fun s j h => ⟨j, Nat.le_refl _, h⟩, fun c v h => ⟨v, h, Nat.le_refl _⟩⟩
theorem Grow.tr {p q r : PS} (a : Grow p q) (b : Grow q r) : Grow p r := by
  refine ⟨fun s j h => ?_, fun c v h => ?_⟩
  · obtain ⟨j1, h1, h2⟩ := a.ap s j h
    obtain ⟨j2, h3, h4⟩ := b.ap s j1 h2
    exact ⟨j2, by omega, h4⟩
  · obtain ⟨j1, h1, h2⟩ := a.sn c v h
    obtain ⟨j2, h3, h4⟩ := b.sn c j1 h1
    exact ⟨j2, h3, by omega⟩
theorem PI.lt {n : Nat} {p : PS} (h : PI n p) {s j : Nat} (hj : p.at s j) : s < n := by
  unfold PS.at at hj
  obtain ⟨q, _⟩ := List.getElem?_eq_some_iff.mp hj
  rw [h.len] at q
  exact q
theorem PI.saw_le {n : Nat} {p : PS} (h : PI n p) {c s j v : Nat} (hc : c < 6) (ha : (tl6 p.att)[c]? = some (s : Int)) (hj : p.at s j) (hv : (tl6 p.seen)[c]? = some (v : Int)) : v ≤ j := by
  obtain ⟨z, j', v', h1, h2, h3, h4, h5, h6⟩ := h.cl c hc
  rw [h2] at ha
  have e : z = s := by have := Option.some.inj ha; omega
  subst e
  have e := PS.at_uniq h3 hj
  rw [h4] at hv
  have e2 : v' = v := by have := Option.some.inj hv; omega
  omega
theorem grow_seen {p : PS} {c m : Nat} (hc : c < 6) (hm : ∀ v : Nat, (tl6 p.seen)[c]? = some (v : Int) → v ≤ m) (i v : Nat) (h : (tl6 p.seen)[i]? = some (v : Int)) : ∃ v' : Nat, (tl6 (ts6 p.seen c (m : Int)))[i]? = some (v' : Int) ∧ v ≤ v' := by
  rw [tl6_get hc]
  by_cases q : c = i
  · subst q
    exact ⟨m, by rw [if_pos rfl], hm v h⟩
  · exact ⟨v, by rw [if_neg q]; exact h, Nat.le_refl _⟩
theorem did_grow {n : Nat} {p p' : PS} {x : Sp} {T : Tl} (h : PI n p) (d : Did n p x T p') : Grow p p' := by
  cases d with
  | no e he hw => exact Grow.rfl' p
  | look c s j hc hx hs ha hj hjl =>
    exact ⟨fun i k g => ⟨k, Nat.le_refl _, g⟩, grow_seen hc (fun v hv => h.saw_le hc ha hj hv)⟩
  | write c s hc hx' hs ha =>
    have hsl : s < p.srv.length := by rw [h.len]; exact hs
    obtain ⟨j0, hj0, g0⟩ := h.sv s hs
    refine ⟨fun i k g => ?_, grow_seen hc (fun v hv => by have := h.saw_le hc ha g0 hv; omega)⟩
    by_cases q : s = i
    · subst q
      refine ⟨p.ord.length + 1, by have := PS.at_le h hs g; omega, ?_⟩
      show (p.srv.set s _)[s]? = some (mTree ((p.ord ++ [x.2.2.2]).take (p.ord.length + 1)), _)
      rw [List.getElem?_set_self hsl, List.take_of_length_le (by simp)]
    · refine ⟨k, Nat.le_refl _, ?_⟩
      show (p.srv.set s _)[i]? = some (mTree ((p.ord ++ [x.2.2.2]).take k), _)
      rw [List.getElem?_set_ne q, List.take_append_of_le_length (PS.at_le h (h.lt g) g)]
      exact g
  | apply s j hx hs hj hjl =>
    have hsl : s < p.srv.length := by rw [h.len]; exact hs
    refine ⟨fun i k g => ⟨if s = i then j + 1 else k, ?_, PS.at_set hsl g⟩, fun c v g => ⟨v, g, Nat.le_refl _⟩⟩
    by_cases q : s = i
    · subst q; rw [if_pos rfl]; have := PS.at_uniq hj g; omega
    · rw [if_neg q]; exact Nat.le_refl _
  | move c s j v hx hc hs hj hv hvj => exact ⟨fun i k g => ⟨k, Nat.le_refl _, g⟩, fun c v g => ⟨v, g, Nat.le_refl _⟩⟩
  | sync c s hx hc hs ha =>
    have hsl : s < p.srv.length := by rw [h.len]; exact hs
    obtain ⟨j0, hj0, g0⟩ := h.sv s hs
    refine ⟨fun i k g => ⟨if s = i then p.ord.length else k, ?_, ?_⟩, grow_seen hc (fun v hv => by have := h.saw_le hc ha g0 hv; omega)⟩
    · by_cases q : s = i
      · subst q; rw [if_pos rfl]; exact PS.at_le h hs g
      · rw [if_neg q]; exact Nat.le_refl _
    · have := PS.at_set (m := p.ord.length) hsl g
      rw [List.take_length] at this
      exact this
theorem run_grow {n : Nat} {p q : PS} {xs : List Sp} {ts : List Tl} (r : Run n p xs ts q) : PI n p → (∀ x ∈ xs, okD x.2.2.2) → PI n q ∧ Grow p q := by
  induction r with
  | nil p => intro h _; exact ⟨h, Grow.rfl' p⟩
  | cons h1 h2 h3 ih =>
    intro h hx
    obtain ⟨a, b⟩ := ih (h.did (hx _ (by simp)) h2) (fun y hy => hx y (by simp [hy]))
    exact ⟨a, (did_grow h h2).tr b⟩
theorem f12_true {n : Nat} {q : PS} (h : PI n q) (ts : List Tl) (hn : n ≤ 6) : F12 (ts, q.srv.map (·.2), tl6 q.seen) (n : Int) (ts.length : Int) = some true := by
  have hal : (q.srv.map (·.2)).length = n := by rw [List.length_map, h.len]
  have c : ((((ts.length : Int) != (ts.length : Int)) || (((q.srv.map (·.2)).length : Int) != (n : Int))) || (((tl6 q.seen).length : Int) != 6)) = false := by
    rw [hal, tl6_len]; simp
  have a1 : appl 8 ([] : List Int) (q.srv.map (·.2)) = some (q.srv.map (·.2)) := by
    unfold appl
    rw [if_pos ⟨by rw [hal]; simp; omega, by rw [hal]; simp; omega⟩]
    rfl
  have a2 : appl 8 (q.srv.map (·.2)) (tl6 q.seen) = some (q.srv.map (·.2) ++ tl6 q.seen) := by
    unfold appl
    rw [if_pos ⟨by rw [hal, tl6_len]; omega, by rw [hal, tl6_len]; omega⟩]
  have hnn : ∀ x ∈ q.srv.map (·.2) ++ tl6 q.seen, 0 ≤ x := by
    intro x hx
    rcases List.mem_append.mp hx with m | m
    · obtain ⟨y, hy, rfl⟩ := List.mem_map.mp m
      obtain ⟨i, hi⟩ := List.getElem?_of_mem hy
      have hin : i < n := by
        obtain ⟨w, _⟩ := List.getElem?_eq_some_iff.mp hi
        rw [h.len] at w; exact w
      obtain ⟨j, _, g⟩ := h.sv i hin
      have g : q.srv[i]? = some (mTree (q.ord.take j), (j : Int)) := g
      rw [g] at hi
      rw [← Option.some.inj hi]
      exact Int.natCast_nonneg j
    · obtain ⟨i, hi⟩ := List.getElem?_of_mem m
      have hin : i < 6 := by
        obtain ⟨w, _⟩ := List.getElem?_eq_some_iff.mp hi
        rw [tl6_len] at w; exact w
      obtain ⟨_, _, v, _, _, _, h4, _, _⟩ := h.cl i hin
      rw [h4] at hi
      rw [← Option.some.inj hi]
      exact Int.natCast_nonneg v
  have hL : whileM (F12_L0 (q.srv.map (·.2) ++ tl6 q.seen)) 0 = some (.brk ()) := by
    have hlen : (q.srv.map (·.2) ++ tl6 q.seen).length ≤ 12 := by rw [List.length_append, hal, tl6_len]; omega
    have hst : ((fun (k : Nat) => ((k : Nat) : Int)) 0) = 0 := rfl
    rw [← hst]
    refine while_upto (fun (k : Nat) => ((k : Nat) : Int)) (q.srv.map (·.2) ++ tl6 q.seen).length (fun k hk => ?_) ?_ (fun s h => by cases h)
    · have hd : decide ((k : Int) < ((q.srv.map (·.2) ++ tl6 q.seen).length : Int)) = true := by rw [decide_eq_true_eq]; omega
      have hg := List.getElem?_eq_getElem hk
      have h0 : decide ((q.srv.map (·.2) ++ tl6 q.seen)[k] < 0) = false := by
        rw [decide_eq_false_iff_not]
        have := hnn _ (List.getElem_mem hk)
        omega
      simp only [F12_L0, hd, cond_true, idx_some hg, Option.bind_some, h0, cond_false, w64_succ hk (show (q.srv.map (·.2) ++ tl6 q.seen).length ≤ 9223372036854775807 by omega)]
    · have hd : decide (((q.srv.map (·.2) ++ tl6 q.seen).length : Int) < ((q.srv.map (·.2) ++ tl6 q.seen).length : Int)) = false := by simp
      simp only [F12_L0, hd, cond_false]
  unfold F12
  simp only [c, cond_false, a1, a2, Option.bind_some, hL, Ctl.on]
end Go.Proofs.YtadfgohglcglcaaDoor

namespace Go.Proofs.YtadfgohglcglcaaDoor
open Go Go.Bk
set_option linter.unusedVariables false
set_option linter.unusedSimpArgs false
theorem did_keys {n : Nat} {p p' : PS} {x : Sp} {T : Tl} (h : PI n p) (hx : okD x.2.2.2) (d : Did n p x T p') : T.2.2.2.length ≤ 12 := by
  cases d with
  | no e he hw => exact Nat.zero_le _
  | look c s j hc hx' hs ha hj hjl => exact (tree_step (tree_R _ (p.ord.take j) rfl (fun d q => h.ok d (List.mem_of_mem_take q))) hx).2.2.2
  | write c s hc hx' hs ha => exact (tree_step (tree_R _ p.ord rfl h.ok) hx).2.2.2
  | apply s j hx' hs hj hjl => exact Nat.zero_le _
  | move c s j v hx' hc hs hj hv hvj => exact Nat.zero_le _
  | sync c s hx' hc hs ha => exact Nat.zero_le _
theorem run_keys {n : Nat} {p q : PS} {xs : List Sp} {ts : List Tl} (r : Run n p xs ts q) : PI n p → (∀ x ∈ xs, okD x.2.2.2) → ∀ t ∈ ts, t.2.2.2.length ≤ 12 := by
  induction r with
  | nil p => intro h _ t ht; cases ht
  | cons h1 h2 h3 ih =>
    intro h hx t ht
    rcases List.mem_cons.mp ht with q | q
    · rw [q]; exact did_keys h (hx _ (by simp)) h2
    · exact ih (h.did (hx _ (by simp)) h2) (fun y hy => hx y (by simp [hy])) t q
theorem run_len {n : Nat} {p q : PS} {xs : List Sp} {ts : List Tl} (r : Run n p xs ts q) : ts.length = xs.length := by
  induction r with
  | nil p => rfl
  | cons h1 h2 h3 ih => simp [ih]
theorem f10_bad (a0 : Int) (a1 : List Sp) (c : (((decide (a0 < 1)) || (decide (a0 > 6))) || (decide ((a1.length : Int) > 60))) = true) : F10 a0 a1 = some (([], [], []), 1) := by
  unfold F10; rw [c]; rfl
theorem f3_l0 {n : Nat} {p q : PS} (hp : PI n p) (g : Grow p q) (ts us : List Tl) : whileM (F3_L0 (ts, p.srv.map (·.2), tl6 p.seen) (us, q.srv.map (·.2), tl6 q.seen)) 0 = some (.brk ()) := by
  have hst : ((fun (k : Nat) => ((k : Nat) : Int)) 0) = 0 := rfl
  rw [← hst]
  refine while_upto (fun (k : Nat) => ((k : Nat) : Int)) 6 (fun k hk => ?_) ?_ (fun s h => by cases h)
  · have hd : decide ((k : Int) < 6) = true := by rw [decide_eq_true_eq]; omega
    obtain ⟨_, _, v, _, _, _, h4, _, _⟩ := hp.cl k hk
    obtain ⟨v', h5, h6⟩ := g.sn k v h4
    have h0 : decide ((v' : Int) < (v : Int)) = false := by rw [decide_eq_false_iff_not]; omega
    simp only [F3_L0, hd, cond_true, idx_some h4, idx_some h5, Option.bind_some, h0, cond_false, w64_succ hk (show 6 ≤ 9223372036854775807 by omega)]
  · rfl
theorem f3_l1 {n : Nat} {p q : PS} (hn : n ≤ 6) (hp : PI n p) (g : Grow p q) (ts us : List Tl) : whileM (F3_L1 (n : Int) (ts, p.srv.map (·.2), tl6 p.seen) (us, q.srv.map (·.2), tl6 q.seen)) 0 = some (.brk ()) := by
  have hst : ((fun (k : Nat) => ((k : Nat) : Int)) 0) = 0 := rfl
  rw [← hst]
  refine while_upto (fun (k : Nat) => ((k : Nat) : Int)) n (fun k hk => ?_) ?_ (fun s h => by cases h)
  · have hd : decide ((k : Int) < (n : Int)) = true := by rw [decide_eq_true_eq]; omega
    obtain ⟨j, _, h4⟩ := hp.sv k hk
    obtain ⟨j', h6, h5⟩ := g.ap k j h4
    have h4 : (p.srv.map (·.2))[k]? = some (j : Int) := by
      rw [List.getElem?_map, show p.srv[k]? = some (mTree (p.ord.take j), (j : Int)) from h4]; rfl
    have h5 : (q.srv.map (·.2))[k]? = some (j' : Int) := by
      rw [List.getElem?_map, show q.srv[k]? = some (mTree (q.ord.take j'), (j' : Int)) from h5]; rfl
    have h0 : decide ((j' : Int) < (j : Int)) = false := by rw [decide_eq_false_iff_not]; omega
    simp only [F3_L1, hd, cond_true, idx_some h4, idx_some h5, Option.bind_some, h0, cond_false, w64_succ hk (show n ≤ 9223372036854775807 by omega)]
  · have hd : decide ((n : Int) < (n : Int)) = false := by simp
    simp only [F3_L1, hd, cond_false]
theorem law_TopBack (a0 : Int) (_ : i64 a0) (a1 : List Sp) (h : a1.length ≤ 140737488351232) (wf : ∀ x ∈ a1, (i64 x.1) ∧ (i64 x.2.1) ∧ (i64 x.2.2.1) ∧ ((i64 x.2.2.2.1) ∧ (x.2.2.2.2.1.size ≤ maxLen) ∧ (x.2.2.2.2.2.1.size ≤ maxLen) ∧ (i64 x.2.2.2.2.2.2))) (a2 : Int) (h2 : 0 ≤ a2 ∧ a2 ≤ 255) : F3 a0 a1 a2 = some true := by
  have hok : ∀ x ∈ a1, okD x.2.2.2 := fun x q => (wf x q).2.2.2.2.1
  have w1 : w64 ((a1.length : Int) + 1) = ((a1.length + 1 : Nat) : Int) := w64_succ (n := a1.length + 1) (by omega) (by omega)
  obtain ⟨m, rfl⟩ := Int.eq_ofNat_of_zero_le h2.1
  have w2 : w64 (m : Int) = (m : Int) := by
    cases m with
    | zero => rfl
    | succ m => exact w64_succ (n := 300) (by omega) (by omega)
  have hz : nz ((a1.length + 1 : Nat) : Int) = some () := by unfold nz; rw [if_neg (by omega)]
  have hm : ((m : Int)).tmod ((a1.length + 1 : Nat) : Int) = ((m % (a1.length + 1) : Nat) : Int) := rfl
  have hi : m % (a1.length + 1) ≤ a1.length := by have := Nat.mod_lt m (show 0 < a1.length + 1 by omega); omega
  unfold F3
  rw [w1, w2, hz, hm]
  generalize m % (a1.length + 1) = i at hi
  have hs : slI a1 0 (i : Int) = some (a1.take i) := by unfold slI; rw [if_pos ⟨by omega, by omega, by omega⟩]; simp
  simp only [Option.bind_some, hs]
  have htl : (a1.take i).length = i := by rw [List.length_take]; omega
  cases c : (((decide (a0 < 1)) || (decide (a0 > 6))) || (decide ((a1.length : Int) > 60))) with
  | true =>
    have e11 : F11 a0 (a1.length : Int) = some 1 := by unfold F11; rw [c]; rfl
    have hb := f10_bad a0 a1 c
    have ha : ∃ r, F10 a0 (a1.take i) = some r := by
      cases c2 : (((decide (a0 < 1)) || (decide (a0 > 6))) || (decide (((a1.take i).length : Int) > 60))) with
      | true => exact ⟨_, f10_bad a0 _ c2⟩
      | false =>
        simp only [Bool.or_eq_false_iff, decide_eq_false_iff_not] at c2
        obtain ⟨n, rfl⟩ := Int.eq_ofNat_of_zero_le (show 0 ≤ a0 by omega)
        obtain ⟨ts, q, _, _, _, e⟩ := f10_val (n := n) (by omega) (a1.take i) (by omega) (fun x q => hok x (List.mem_of_mem_take q))
        exact ⟨_, e⟩
    obtain ⟨r, ha⟩ := ha
    simp only [ha, hb, e11, Option.bind_some]
    rfl
  | false =>
    simp only [Bool.or_eq_false_iff, decide_eq_false_iff_not] at c
    obtain ⟨n, rfl⟩ := Int.eq_ofNat_of_zero_le (show 0 ≤ a0 by omega)
    have hn : 1 ≤ n ∧ n ≤ 6 := by omega
    obtain ⟨us, q, r1, r2, r3, r4⟩ := f10_val hn a1 (by omega) hok
    have hokt : ∀ x ∈ a1.take i, okD x.2.2.2 := fun x q => hok x (List.mem_of_mem_take q)
    obtain ⟨ts, p, s1, s2, s3, s4⟩ := f10_val hn (a1.take i) (by omega) hokt
    have r1' := r1
    rw [← List.take_append_drop i a1] at r1'
    obtain ⟨t1, t2, p', e1, e2, e3⟩ := run_split _ _ _ _ _ r1'
    obtain ⟨e4, e5⟩ := run_det s1 e2
    subst e5
    subst e4
    obtain ⟨_, g⟩ := run_grow e3 s2 (fun x q => hok x (List.mem_of_mem_drop q))
    have htsl : ts.length = i := by rw [s3, htl]
    have k1 := f12_true s2 ts hn.2
    have k2 := f12_true r2 us hn.2
    rw [htsl] at k1
    rw [r3] at k2
    have hsl : slI us 0 (i : Int) = some ts := by
      unfold slI
      rw [if_pos ⟨by omega, by omega, by omega⟩]
      rw [e1, Int.toNat_natCast, ← htsl, List.take_left]
      simp
    have h13 := f13_self ts (by omega) (run_keys s1 (PI.start n hn.1) hokt)
    have l0 := f3_l0 s2 g ts us
    have l1 := f3_l1 hn.2 s2 g ts us
    have z : ((0 : Int) != 0) = false := rfl
    simp only [r4, s4, Option.bind_some, z, cond_false, k1, k2, hsl, h13, Bool.not_true, l0, l1, Ctl.on]
end Go.Proofs.YtadfgohglcglcaaDoor

namespace Go.Proofs.YtadfgohglcglcaaDoor
open Go Go.Bk
set_option linter.unusedVariables false
set_option linter.unusedSimpArgs false
/-- Whom a writing step is told by: `by` names, for each deed of the order, the step that told it. -/
def Good (bys : List Int) (acc : List Tl) (ord : List Dd) : Prop := bys.length = ord.length ∧ ∀ (i : Nat) (d : Dd), ord[i]? = some d → ∃ m : Nat, bys[i]? = some (m : Int) ∧ acc[m]? = some (told (ord.take i) d)
theorem did_writes {n : Nat} {p p' : PS} {x : Sp} {T : Tl} (d : Did n p x T p') : (F28 x = some true ∧ p'.ord = p.ord ++ [x.2.2.2] ∧ T = told p.ord x.2.2.2) ∨ (F28 x = some false ∧ p'.ord = p.ord) := by
  have hF : ∀ b : Bool, (((((x.1 == 1) && (decide (x.2.1 ≥ 0))) && (decide (x.2.1 < 6))) && (decide (x.2.2.2.1 ≥ 1))) && (decide (x.2.2.2.1 ≤ 3))) = b → F28 x = some b := fun b e => by unfold F28; rw [e]
  have hno : ¬ (x.1 = 1 ∧ 0 ≤ x.2.1 ∧ x.2.1 < 6 ∧ 1 ≤ x.2.2.2.1 ∧ x.2.2.2.1 ≤ 3) → F28 x = some false := fun hw => by
    apply hF
    rw [← Bool.not_eq_true]
    simp only [Bool.and_eq_true, decide_eq_true_eq, beq_iff_eq]
    rintro ⟨⟨⟨⟨h1, h2⟩, h3⟩, h4⟩, h5⟩
    exact hw ⟨h1, h2, h3, h4, h5⟩
  cases d with
  | no e he hw => exact .inr ⟨hno hw, rfl⟩
  | look c s j hc hx hs ha hj hjl => exact .inr ⟨hno (by omega), rfl⟩
  | write c s hc hx hs ha =>
    refine .inl ⟨hF _ ?_, rfl, rfl⟩
    simp only [Bool.and_eq_true, decide_eq_true_eq, beq_iff_eq]
    omega
  | apply s j hx hs hj hjl => exact .inr ⟨hno (by omega), rfl⟩
  | move c s j v hx hc hs hj hv hvj => exact .inr ⟨hno (by omega), rfl⟩
  | sync c s hx hc hs ha => exact .inr ⟨hno (by omega), rfl⟩
theorem Good.tell {bys : List Int} {acc : List Tl} {ord : List Dd} (g : Good bys acc ord) (T : Tl) : Good bys (acc ++ [T]) ord :=
  ⟨g.1, fun i d h => by
    obtain ⟨m, h1, h2⟩ := g.2 i d h
    exact ⟨m, h1, by rw [List.getElem?_append_left (List.getElem?_eq_some_iff.mp h2).1]; exact h2⟩⟩
theorem Good.more {bys : List Int} {acc : List Tl} {ord : List Dd} (g : Good bys acc ord) (d : Dd) : Good (bys ++ [(acc.length : Int)]) (acc ++ [told ord d]) (ord ++ [d]) := by
  refine ⟨by simp [g.1], fun i e h => ?_⟩
  rcases Nat.lt_or_ge i ord.length with c | c
  · rw [List.getElem?_append_left c] at h
    obtain ⟨m, h1, h2⟩ := (g.tell (told ord d)).2 i e h
    refine ⟨m, by rw [List.getElem?_append_left (by rw [g.1]; exact c)]; exact h1, ?_⟩
    rw [List.take_append_of_le_length (by omega)]; exact h2
  · have hi : i = ord.length := by
      have := (List.getElem?_eq_some_iff.mp h).1
      simp at this; omega
    subst hi
    have e1 : d = e := by simpa using h
    subst e1
    refine ⟨acc.length, ?_, ?_⟩
    · rw [← g.1]; simp
    · simp
theorem app48 (l : List Dd) (z : Dd) (h : l.length ≤ 1000) : appl 48 l [z] = some (l ++ [z]) := by
  unfold appl; rw [if_pos]; simp; omega
theorem app8' (l : List Int) (z : Int) (h : l.length ≤ 1000) : appl 8 l [z] = some (l ++ [z]) := by
  unfold appl; rw [if_pos]; simp; omega
theorem order_loop {n : Nat} (a1 : List Sp) (hl : a1.length ≤ 60) : ∀ (xs : List Sp) (k : Nat) (p q : PS) (bys : List Int) (acc ts : List Tl), a1.drop k = xs → k ≤ a1.length → acc.length = k → p.ord.length ≤ k → Good bys acc p.ord → Run n p xs ts q →
    ∃ bys', whileM (F14_L0 a1) (p.ord, bys, (k : Int)) = some (.brk (q.ord, bys')) ∧ Good bys' (acc ++ ts) q.ord ∧ q.ord.length ≤ a1.length
  | [], k, p, q, bys, acc, ts, hk, hkl, ha, ho, hg, h => by
    cases h
    have hlen : a1.length ≤ k := List.drop_eq_nil_iff.mp hk
    have hd : decide ((k : Int) < (a1.length : Int)) = false := by rw [decide_eq_false_iff_not]; omega
    refine ⟨bys, whileM_brk ?_, by rw [List.append_nil]; exact hg, by omega⟩
    simp only [F14_L0, hd, cond_false]
  | x :: xs, k, p, q, bys, acc, ts, hk, hkl, ha, ho, hg, h => by
    cases h with
    | @cons _ p' _ _ T _ ts h1 h2 h3 =>
      have hlt : k < a1.length := by
        rcases Nat.lt_or_ge k a1.length with c | c
        · exact c
        · rw [List.drop_eq_nil_of_le c] at hk; cases hk
      rw [List.drop_eq_getElem_cons hlt] at hk
      obtain ⟨e1, e2⟩ := List.cons.inj hk
      have hd : decide ((k : Int) < (a1.length : Int)) = true := by simpa using hlt
      have hgx := List.getElem?_eq_getElem hlt
      rw [e1] at hgx
      have hw := w64_succ hlt (show a1.length ≤ 9223372036854775807 by omega)
      rcases did_writes h2 with ⟨f1, f2, f3⟩ | ⟨f1, f2⟩
      · have f1' : F28 (x.1, x.2.1, x.2.2.1, (x.2.2.2.1, x.2.2.2.2.1, x.2.2.2.2.2.1, x.2.2.2.2.2.2)) = some true := f1
        have a1' : appl 48 p.ord [(x.2.2.2.1, x.2.2.2.2.1, x.2.2.2.2.2.1, x.2.2.2.2.2.2)] = some (p.ord ++ [x.2.2.2]) := app48 p.ord x.2.2.2 (by omega)
        have a2' := app8' bys (k : Int) (by rw [hg.1]; omega)
        have g2 := hg.more x.2.2.2
        rw [ha, ← f3, ← f2] at g2
        obtain ⟨b, r1, r2, r3⟩ := order_loop a1 hl xs (k + 1) p' q (bys ++ [(k : Int)]) (acc ++ [T]) ts e2 hlt (by simp [ha]) (by rw [f2]; simp; omega) g2 h3
        refine ⟨b, ?_, by simpa using r2, r3⟩
        rw [whileM_nxt ?_, r1]
        simp only [F14_L0, hd, cond_true, idx_some hgx, Option.bind_some, f1', a1', a2', hw, f2]
      · have f1' : F28 (x.1, x.2.1, x.2.2.1, (x.2.2.2.1, x.2.2.2.2.1, x.2.2.2.2.2.1, x.2.2.2.2.2.2)) = some false := f1
        have g2 := hg.tell T
        rw [← f2] at g2
        obtain ⟨b, r1, r2, r3⟩ := order_loop a1 hl xs (k + 1) p' q bys (acc ++ [T]) ts e2 hlt (by simp [ha]) (by rw [f2]; omega) g2 h3
        refine ⟨b, ?_, by simpa using r2, r3⟩
        rw [whileM_nxt ?_, r1]
        simp only [F14_L0, hd, cond_true, cond_false, idx_some hgx, Option.bind_some, f1', hw, f2]
end Go.Proofs.YtadfgohglcglcaaDoor

namespace Go.Proofs.YtadfgohglcglcaaDoor
open Go Go.Bk
set_option linter.unusedVariables false
set_option linter.unusedSimpArgs false
theorem f15_val (ds : List Dd) (hl : ds.length ≤ 60) (hok : ∀ d ∈ ds, okD d) : ∃ ts, F15 ds = some (ts, 0) ∧ ts.length = ds.length ∧ ∀ (i : Nat) (d : Dd), ds[i]? = some d → ts[i]? = some (told (ds.take i) d) := by
  have key : ∀ (m k : Nat) (ts : List Tl), k + m = ds.length → ts.length = k → (∀ (i : Nat) (d : Dd), i < k → ds[i]? = some d → ts[i]? = some (told (ds.take i) d)) → ∃ ts', whileM (F15_L0 ds) (ts, mTree (ds.take k), (k : Int)) = some (.brk (ts', mTree ds)) ∧ ts'.length = ds.length ∧ ∀ (i : Nat) (d : Dd), ds[i]? = some d → ts'[i]? = some (told (ds.take i) d) := by
    intro m
    induction m with
    | zero =>
      intro k ts hk ht hg
      have hd : decide ((k : Int) < (ds.length : Int)) = false := by rw [decide_eq_false_iff_not]; omega
      refine ⟨ts, whileM_brk ?_, by omega, fun i d h => hg i d (by have := (List.getElem?_eq_some_iff.mp h).1; omega) h⟩
      rw [List.take_of_length_le (by omega)]
      simp only [F15_L0, hd, cond_false]
    | succ m ih =>
      intro k ts hk ht hg
      have hlt : k < ds.length := by omega
      have hd : decide ((k : Int) < (ds.length : Int)) = true := by simpa using hlt
      have hx := List.getElem?_eq_getElem hlt
      have htk : ds.take (k + 1) = ds.take k ++ [ds[k]] := by rw [List.take_add_one, hx]; rfl
      have hR := tree_R _ (ds.take k) rfl (fun d q => hok d (List.mem_of_mem_take q))
      obtain ⟨h2, _, _, _⟩ := tree_step hR (hok _ (List.getElem_mem hlt))
      have h2' : F29 (mTree (ds.take k)) (ds[k].1, ds[k].2.1, ds[k].2.2.1, ds[k].2.2.2) = some (told (ds.take k) ds[k], mTree (ds.take k ++ [ds[k]])) := h2
      have ha' : ∀ t : Tl, appl 56 ts [(t.1, t.2.1, t.2.2.1, t.2.2.2)] = some (ts ++ [t]) := fun t => app56 ts t (by omega)
      obtain ⟨ts', r1, r2, r3⟩ := ih (k + 1) (ts ++ [told (ds.take k) ds[k]]) (by omega) (by simp [ht]) (fun i d hi h => by
        rcases Nat.lt_or_ge i k with c | c
        · rw [List.getElem?_append_left (by omega)]; exact hg i d c h
        · have e : i = k := by omega
          subst e
          rw [hx] at h
          rw [← Option.some.inj h, List.getElem?_append_right (by omega)]
          simp [ht])
      refine ⟨ts', ?_, r2, r3⟩
      rw [whileM_nxt ?_, r1]
      simp only [F15_L0, hd, cond_true, idx_some hx, Option.bind_some, h2', ha', w64_succ hlt (show ds.length ≤ 9223372036854775807 by omega), htk]
  obtain ⟨ts, r1, r2, r3⟩ := key ds.length 0 [] (by omega) rfl (fun i d hi => by omega)
  refine ⟨ts, ?_, r2, r3⟩
  have r1' : whileM (F15_L0 ds) ([], M0, 0) = some (.brk (ts, mTree ds)) := r1
  have h26 : F26 = some M0 := rfl
  have c : decide ((ds.length : Int) > 60) = false := by rw [decide_eq_false_iff_not]; omega
  unfold F15
  simp only [c, cond_false, h26, Option.bind_some, r1', Ctl.on]
end Go.Proofs.YtadfgohglcglcaaDoor

namespace Go.Proofs.YtadfgohglcglcaaDoor
open Go Go.Bk
set_option linter.unusedVariables false
set_option linter.unusedSimpArgs false
/-- All numbers that are told of a state. -/
theorem nums_le {n : Nat} {q : PS} (h : PI n q) : ∀ x ∈ q.srv.map (·.2) ++ tl6 q.seen, x ≤ (q.ord.length : Int) := by
  intro x hx
  rcases List.mem_append.mp hx with m | m
  · obtain ⟨y, hy, rfl⟩ := List.mem_map.mp m
    obtain ⟨i, hi⟩ := List.getElem?_of_mem hy
    have hin : i < n := by
      obtain ⟨w, _⟩ := List.getElem?_eq_some_iff.mp hi
      rw [h.len] at w; exact w
    obtain ⟨j, hj, g⟩ := h.sv i hin
    have g : q.srv[i]? = some (mTree (q.ord.take j), (j : Int)) := g
    rw [g] at hi
    rw [← Option.some.inj hi]
    show (j : Int) ≤ _
    omega
  · obtain ⟨i, hi⟩ := List.getElem?_of_mem m
    have hin : i < 6 := by
      obtain ⟨w, _⟩ := List.getElem?_eq_some_iff.mp hi
      rw [tl6_len] at w; exact w
    obtain ⟨_, _, v, _, _, _, h4, h5, h6⟩ := h.cl i hin
    rw [h4] at hi
    rw [← Option.some.inj hi]
    omega
theorem nums_app {n : Nat} {q : PS} (h : PI n q) (hn : n ≤ 6) : appl 8 ([] : List Int) (q.srv.map (·.2)) = some (q.srv.map (·.2)) ∧ appl 8 (q.srv.map (·.2)) (tl6 q.seen) = some (q.srv.map (·.2) ++ tl6 q.seen) ∧ (q.srv.map (·.2) ++ tl6 q.seen).length ≤ 12 := by
  have hal : (q.srv.map (·.2)).length = n := by rw [List.length_map, h.len]
  refine ⟨?_, ?_, by rw [List.length_append, hal, tl6_len]; omega⟩
  · unfold appl
    rw [if_pos ⟨by rw [hal]; simp; omega, by rw [hal]; simp; omega⟩]
    rfl
  · unfold appl
    rw [if_pos ⟨by rw [hal, tl6_len]; omega, by rw [hal, tl6_len]; omega⟩]
theorem f4_l1 {n : Nat} {q : PS} (h : PI n q) (hn : n ≤ 6) : whileM (F4_L1 q.ord (q.srv.map (·.2) ++ tl6 q.seen)) 0 = some (.brk ()) := by
  have hlen := (nums_app h hn).2.2
  have hle := nums_le h
  generalize q.srv.map (·.2) ++ tl6 q.seen = l at hlen hle ⊢
  have hst : ((fun (k : Nat) => ((k : Nat) : Int)) 0) = 0 := rfl
  rw [← hst]
  refine while_upto (fun (k : Nat) => ((k : Nat) : Int)) l.length (fun k hk => ?_) ?_ (fun s h => by cases h)
  · have hd : decide ((k : Int) < (l.length : Int)) = true := by rw [decide_eq_true_eq]; omega
    have hg := List.getElem?_eq_getElem hk
    have h0 : decide (l[k] > (q.ord.length : Int)) = false := by
      rw [decide_eq_false_iff_not]
      have := hle _ (List.getElem_mem hk)
      omega
    simp only [F4_L1, hd, cond_true, idx_some hg, Option.bind_some, h0, cond_false, w64_succ hk (show l.length ≤ 9223372036854775807 by omega)]
  · have hd : decide ((l.length : Int) < (l.length : Int)) = false := by simp
    simp only [F4_L1, hd, cond_false]
theorem f4_l0 {r : List Tl × List Int × List Int} {bys : List Int} {ord : List Dd} {ts : List Tl} (g : Good bys r.1 ord) (hl : ts.length = ord.length) (ho : ord.length ≤ 60) (ht : ∀ (i : Nat) (d : Dd), ord[i]? = some d → ts[i]? = some (told (ord.take i) d)) (hk : ∀ t ∈ ts, t.2.2.2.length ≤ 12) : whileM (F4_L0 r bys ts) 0 = some (.brk ()) := by
  have hst : ((fun (k : Nat) => ((k : Nat) : Int)) 0) = 0 := rfl
  rw [← hst]
  refine while_upto (fun (k : Nat) => ((k : Nat) : Int)) ts.length (fun k hk' => ?_) ?_ (fun s h => by cases h)
  · have hd : decide ((k : Int) < (ts.length : Int)) = true := by rw [decide_eq_true_eq]; omega
    have hko : k < ord.length := by omega
    have hx := List.getElem?_eq_getElem hko
    have h1 := ht k _ hx
    obtain ⟨m, h2, h3⟩ := g.2 k _ hx
    have hs := f16_self (told (ord.take k) ord[k]) (hk _ (List.mem_of_getElem? h1))
    have hs' : F16 ((told (ord.take k) ord[k]).1, (told (ord.take k) ord[k]).2.1, (told (ord.take k) ord[k]).2.2.1, (told (ord.take k) ord[k]).2.2.2) ((told (ord.take k) ord[k]).1, (told (ord.take k) ord[k]).2.1, (told (ord.take k) ord[k]).2.2.1, (told (ord.take k) ord[k]).2.2.2) = some true := hs
    simp only [F4_L0, hd, cond_true, idx_some h1, idx_some h2, idx_some h3, Option.bind_some, hs', Bool.not_true, cond_false, w64_succ hk' (show ts.length ≤ 9223372036854775807 by omega)]
  · have hd : decide ((ts.length : Int) < (ts.length : Int)) = false := by simp
    simp only [F4_L0, hd, cond_false]
theorem told_keys (ds : List Dd) (hok : ∀ d ∈ ds, okD d) (d : Dd) (hd : okD d) : (told ds d).2.2.2.length ≤ 12 := (tree_step (tree_R _ ds rfl hok) hd).2.2.2
theorem f15_keys {ds : List Dd} {ts : List Tl} (hok : ∀ d ∈ ds, okD d) (hl : ts.length = ds.length) (ht : ∀ (i : Nat) (d : Dd), ds[i]? = some d → ts[i]? = some (told (ds.take i) d)) : ∀ t ∈ ts, t.2.2.2.length ≤ 12 := by
  intro t hm
  obtain ⟨i, hi⟩ := List.getElem?_of_mem hm
  have hil : i < ds.length := by
    obtain ⟨w, _⟩ := List.getElem?_eq_some_iff.mp hi
    omega
  have hx := List.getElem?_eq_getElem hil
  rw [ht i _ hx] at hi
  rw [← Option.some.inj hi]
  exact told_keys _ (fun d q => hok d (List.mem_of_mem_take q)) _ (hok _ (List.getElem_mem hil))
theorem law_TopOrder (a0 : Int) (_ : i64 a0) (a1 : List Sp) (h : a1.length ≤ 140737488351232) (wf : ∀ x ∈ a1, (i64 x.1) ∧ (i64 x.2.1) ∧ (i64 x.2.2.1) ∧ ((i64 x.2.2.2.1) ∧ (x.2.2.2.2.1.size ≤ maxLen) ∧ (x.2.2.2.2.2.1.size ≤ maxLen) ∧ (i64 x.2.2.2.2.2.2))) : F4 a0 a1 = some true := by
  have hok : ∀ x ∈ a1, okD x.2.2.2 := fun x q => (wf x q).2.2.2.2.1
  unfold F4
  cases c : (((decide (a0 < 1)) || (decide (a0 > 6))) || (decide ((a1.length : Int) > 60))) with
  | true =>
    have e11 : F11 a0 (a1.length : Int) = some 1 := by unfold F11; rw [c]; rfl
    have hb := f10_bad a0 a1 c
    simp only [hb, e11, Option.bind_some]
    rfl
  | false =>
    have e11 : F11 a0 (a1.length : Int) = some 0 := by unfold F11; rw [c]; rfl
    simp only [Bool.or_eq_false_iff, decide_eq_false_iff_not] at c
    obtain ⟨n, rfl⟩ := Int.eq_ofNat_of_zero_le (show 0 ≤ a0 by omega)
    have hn : 1 ≤ n ∧ n ≤ 6 := by omega
    obtain ⟨us, q, r1, r2, r3, r4⟩ := f10_val hn a1 (by omega) hok
    have k2 := f12_true r2 us hn.2
    rw [r3] at k2
    obtain ⟨bys, o1, o2, o3⟩ := order_loop a1 (by omega) a1 0 (P0 n) q [] [] us rfl (Nat.zero_le _) rfl (Nat.zero_le _) ⟨rfl, fun i d h => by cases h⟩ r1
    have o1' : whileM (F14_L0 a1) ([], [], 0) = some (.brk (q.ord, bys)) := o1
    have e14 : F14 a1 = some (q.ord, bys) := by
      unfold F14
      rw [o1']
      rfl
    obtain ⟨ts, t1, t2, t3⟩ := f15_val q.ord (by omega) r2.ok
    have l0 := f4_l0 (r := (us, q.srv.map (·.2), tl6 q.seen)) (bys := bys) (ord := q.ord) (ts := ts) o2 t2 (by omega) t3 (f15_keys r2.ok t2 t3)
    obtain ⟨p1, p2, _⟩ := nums_app r2 hn.2
    have l1 := f4_l1 r2 hn.2
    have z : ((0 : Int) != 0) = false := rfl
    have zl : ((ts.length : Int) != (q.ord.length : Int)) = false := by rw [t2]; simp
    simp only [r4, e11, Option.bind_some, z, zl, cond_false, k2, Bool.not_true, e14, t1, Bool.or_false, l0, l1, p1, p2, Ctl.on]
end Go.Proofs.YtadfgohglcglcaaDoor

namespace Go.Proofs.YtadfgohglcglcaaDoor
open Go Go.Bk
set_option linter.unusedVariables false
set_option linter.unusedSimpArgs false
/-- A client that reads. -/
theorem f27_look {n : Nat} {p : PS} (h : PI n p) {c : Nat} (hc : c < 6) {d : Dd} (hd : okD d) (hk : d.1 = 4 ∨ d.1 = 5) : ∃ s j v : Nat, s < n ∧ p.at s j ∧ j ≤ p.ord.length ∧ (tl6 p.seen)[c]? = some (v : Int) ∧ v ≤ j ∧ F27 p.tup (1, (c : Int), 0, d) = some (told (p.ord.take j) d, ({ p with seen := ts6 p.seen c (j : Int) } : PS).tup) := by
  obtain ⟨dk, path, data, ver⟩ := d
  obtain ⟨srv, ord, at6, seen6⟩ := p
  have hk : dk = 4 ∨ dk = 5 := hk
  obtain ⟨z, j, v, hz, gz, g1, gs, hv, hj⟩ := h.cl c hc
  have g1 : srv[z]? = some (mTree (ord.take j), (j : Int)) := g1
  refine ⟨z, j, v, hz, g1, hj, gs, hv, ?_⟩
  have is : idx (tl6 seen6) (c : Int) = some (v : Int) := idx_some gs
  have ia : idx (tl6 at6) (c : Int) = some (z : Int) := idx_some gz
  have e1 : ((1 : Int) == 1) = true := rfl
  have e5 : ((dk == 4) || (dk == 5)) = true := by
    rw [Bool.or_eq_true, beq_iff_eq, beq_iff_eq]; exact hk
  have hok2 : ∀ d ∈ ord.take j, okD d := fun d q => h.ok d (List.mem_of_mem_take q)
  have hR := tree_R _ (ord.take j) rfl hok2
  obtain ⟨s1, s2, s3, s4⟩ := tree_step hR hd
  rw [read_same hR hd hk] at s1
  have hset : srv.set z (mTree (ord.take j), (j : Int)) = srv := by
    apply List.ext_getElem?
    intro i
    rw [List.getElem?_set]
    by_cases c : z = i
    · subst c; rw [g1]; simp [lt_of_get g1]
    · simp [c]
  have cA : (((decide ((1 : Int) < 1)) || (decide ((1 : Int) > 4))) || (((1 : Int) == 1) && ((decide (dk < 1)) || (decide (dk > 5))))) = false := by
    have q1 : decide (dk < 1) = false := by rw [decide_eq_false_iff_not]; omega
    have q2 : decide (dk > 5) = false := by rw [decide_eq_false_iff_not]; omega
    rw [q1, q2]; rfl
  have cB : ((((1 : Int) != 2) && (!((decide ((c : Int) ≥ 0)) && (decide ((c : Int) < 6))))) || ((((1 : Int) == 2) || ((1 : Int) == 3)) && (!((decide ((0 : Int) ≥ 0)) && (decide ((0 : Int) < (srv.length : Int))))))) = false := by
    have q1 : decide ((c : Int) ≥ 0) = true := by rw [decide_eq_true_eq]; omega
    have q2 : decide ((c : Int) < 6) = true := by rw [decide_eq_true_eq]; omega
    rw [q1, q2]; rfl
  show F27 (srv, ord, at6, seen6) _ = _
  simp only [F27, cA, cB, cond_false]
  simp only [e1, cond_true, F33, ia, Option.bind_some, e5, idx_some g1, s1, Int.toNat_natCast, hset, is, as6_val hc]
  rfl
theorem f27_arg {p : PS} {c : Int} (hc : c < 0 ∨ 6 ≤ c) {d : Dd} (hk : d.1 = 4 ∨ d.1 = 5) : F27 p.tup (1, c, 0, d) = some ((2, ByteArray.empty, 0, []), p.tup) := by
  obtain ⟨dk, path, data, ver⟩ := d
  obtain ⟨srv, ord, at6, seen6⟩ := p
  have hk : dk = 4 ∨ dk = 5 := hk
  have cA : (((decide ((1 : Int) < 1)) || (decide ((1 : Int) > 4))) || (((1 : Int) == 1) && ((decide (dk < 1)) || (decide (dk > 5))))) = false := by
    have q1 : decide (dk < 1) = false := by rw [decide_eq_false_iff_not]; omega
    have q2 : decide (dk > 5) = false := by rw [decide_eq_false_iff_not]; omega
    rw [q1, q2]; rfl
  have cB : ((((1 : Int) != 2) && (!((decide (c ≥ 0)) && (decide (c < 6))))) || ((((1 : Int) == 2) || ((1 : Int) == 3)) && (!((decide ((0 : Int) ≥ 0)) && (decide ((0 : Int) < (srv.length : Int))))))) = true := by
    have q : ((decide (c ≥ 0)) && (decide (c < 6))) = false := by
      rw [Bool.and_eq_false_iff, decide_eq_false_iff_not, decide_eq_false_iff_not]; omega
    rw [q]; rfl
  show F27 (srv, ord, at6, seen6) _ = _
  simp only [F27, cA, cB, cond_false, cond_true]
  rfl
theorem f10_some (a0 : Int) (a1 : List Sp) (hok : ∀ x ∈ a1, okD x.2.2.2) : ∃ r e, F10 a0 a1 = some (r, e) := by
  cases c2 : (((decide (a0 < 1)) || (decide (a0 > 6))) || (decide ((a1.length : Int) > 60))) with
  | true => exact ⟨_, _, f10_bad a0 _ c2⟩
  | false =>
    simp only [Bool.or_eq_false_iff, decide_eq_false_iff_not] at c2
    obtain ⟨n, rfl⟩ := Int.eq_ofNat_of_zero_le (show 0 ≤ a0 by omega)
    obtain ⟨ts, q, _, _, _, e⟩ := f10_val (n := n) (by omega) a1 (by omega) hok
    exact ⟨_, _, e⟩
theorem f17_has {x : Int} : ∀ (l : List Int), l.length ≤ 1000 → x ∈ l → F17 l x = some true := by
  intro l hl hx
  have key : ∀ (m k : Nat), k + m = l.length → x ∈ l.drop k → whileM (F17_L0 l x) (k : Int) = some (.ret true) := by
    intro m
    induction m with
    | zero =>
      intro k hk hm
      rw [List.drop_eq_nil_of_le (by omega)] at hm
      cases hm
    | succ m ih =>
      intro k hk hm
      have hlt : k < l.length := by omega
      have hd : decide ((k : Int) < (l.length : Int)) = true := by rw [decide_eq_true_eq]; omega
      have hg := List.getElem?_eq_getElem hlt
      rw [List.drop_eq_getElem_cons hlt] at hm
      by_cases e : x = l[k]
      · have e' : (x == l[k]) = true := by simpa using e
        refine whileM_ret ?_
        simp only [F17_L0, hd, cond_true, idx_some hg, Option.bind_some, e']
      · have e' : (x == l[k]) = false := by simpa using e
        rcases List.mem_cons.mp hm with q | q
        · exact absurd q e
        · rw [whileM_nxt ?_, ih (k + 1) (by omega) q]
          simp only [F17_L0, hd, cond_true, idx_some hg, Option.bind_some, e', cond_false, w64_succ hlt (show l.length ≤ 9223372036854775807 by omega)]
  have k0 : whileM (F17_L0 l x) 0 = some (.ret true) := key l.length 0 (by omega) (by simpa using hx)
  unfold F17
  rw [k0]
  rfl
theorem run_one {n : Nat} {p q : PS} {x : Sp} {ts : List Tl} (h : Run n p [x] ts q) : ∃ T, ts = [T] ∧ F27 p.tup x = some (T, q.tup) := by
  cases h with
  | cons h1 h2 h3 =>
    cases h3
    exact ⟨_, rfl, h1⟩
theorem f14_run {n : Nat} {a1 : List Sp} {us : List Tl} {q : PS} (hl : a1.length ≤ 60) (r1 : Run n (P0 n) a1 us q) : ∃ bys, F14 a1 = some (q.ord, bys) ∧ q.ord.length ≤ a1.length := by
  obtain ⟨bys, o1, o2, o3⟩ := order_loop a1 (by omega) a1 0 (P0 n) q [] [] us rfl (Nat.zero_le _) rfl (Nat.zero_le _) ⟨rfl, fun i d h => by cases h⟩ r1
  have o1' : whileM (F14_L0 a1) ([], [], 0) = some (.brk (q.ord, bys)) := o1
  refine ⟨bys, ?_, o3⟩
  unfold F14
  rw [o1']
  rfl
theorem law_TopReads (a0 : Int) (_ : i64 a0) (a1 : List Sp) (h : a1.length * 72 ≤ 140737488351232) (wf : ∀ x ∈ a1, (i64 x.1) ∧ (i64 x.2.1) ∧ (i64 x.2.2.1) ∧ ((i64 x.2.2.2.1) ∧ (x.2.2.2.2.1.size ≤ maxLen) ∧ (x.2.2.2.2.2.1.size ≤ maxLen) ∧ (i64 x.2.2.2.2.2.2))) (a2 : Int) (_ : i64 a2) (a3 : Dd) (wd : (i64 a3.1) ∧ (a3.2.1.size ≤ maxLen) ∧ (a3.2.2.1.size ≤ maxLen) ∧ (i64 a3.2.2.2)) : F5 a0 a1 a2 a3 = some true := by
  have hok : ∀ x ∈ a1, okD x.2.2.2 := fun x q => (wf x q).2.2.2.2.1
  have hod : okD a3 := wd.2.1
  unfold F5
  cases ck : ((a3.1 != 4) && (a3.1 != 5)) with
  | true =>
    have hb := f10_bad 0 a1 (by rfl)
    simp only [cond_true, hb, Option.bind_some]
    rfl
  | false =>
  have hk : a3.1 = 4 ∨ a3.1 = 5 := by
    by_cases q : a3.1 = 4
    · exact .inl q
    · by_cases q2 : a3.1 = 5
      · exact .inr q2
      · have q' : (a3.1 != 4) = true := by simpa using q
        have q2' : (a3.1 != 5) = true := by simpa using q2
        rw [q', q2'] at ck
        cases ck
  have p1 : appl 72 ([] : List Sp) a1 = some a1 := by
    unfold appl; rw [if_pos ⟨by simp; omega, by simp; omega⟩]; rfl
  have p2 : appl 72 a1 ([(1, a2, 0, (a3.1, a3.2.1, a3.2.2.1, a3.2.2.2))] : List Sp) = some (a1 ++ [(1, a2, 0, a3)]) := by
    unfold appl; rw [if_pos ⟨by simp; omega, by simp; omega⟩]
  have hoky : ∀ x ∈ a1 ++ [((1, a2, 0, a3) : Sp)], okD x.2.2.2 := fun x q => by
    rcases List.mem_append.1 q with q | q
    · exact hok x q
    · rw [List.mem_singleton] at q; rw [q]; exact hod
  have hyl : (a1 ++ [((1, a2, 0, a3) : Sp)]).length = a1.length + 1 := by simp
  simp only [cond_false, p1, p2, Option.bind_some]
  cases c : (((decide (a0 < 1)) || (decide (a0 > 6))) || (decide (((a1 ++ [((1, a2, 0, a3) : Sp)]).length : Int) > 60))) with
  | true =>
    have e11 : F11 a0 ((a1 ++ [((1, a2, 0, a3) : Sp)]).length : Int) = some 1 := by unfold F11; rw [c]; rfl
    have hb := f10_bad a0 _ c
    obtain ⟨r, e, ha⟩ := f10_some a0 a1 hok
    simp only [ha, hb, e11, Option.bind_some]
    rfl
  | false =>
    have e11 : F11 a0 ((a1 ++ [((1, a2, 0, a3) : Sp)]).length : Int) = some 0 := by unfold F11; rw [c]; rfl
    simp only [Bool.or_eq_false_iff, decide_eq_false_iff_not] at c
    rw [hyl] at c
    obtain ⟨n, rfl⟩ := Int.eq_ofNat_of_zero_le (show 0 ≤ a0 by omega)
    have hn : 1 ≤ n ∧ n ≤ 6 := by omega
    obtain ⟨us, q, r1, r2, r3, r4⟩ := f10_val hn (a1 ++ [((1, a2, 0, a3) : Sp)]) (by omega) hoky
    obtain ⟨ts, p, s1, s2, s3, s4⟩ := f10_val hn a1 (by omega) hok
    obtain ⟨t1, t2, p', e1, e2, e3⟩ := run_split _ _ _ _ _ r1
    obtain ⟨e4, e5⟩ := run_det s1 e2
    subst e5
    subst e4
    obtain ⟨T, e6, e7⟩ := run_one e3
    subst e6
    have k1 := f12_true s2 ts hn.2
    have k2 := f12_true r2 us hn.2
    rw [s3] at k1
    rw [r3, hyl] at k2
    have hT : us[a1.length]? = some T := by rw [e1, ← s3]; simp
    have z : ((0 : Int) != 0) = false := rfl
    rw [← hyl] at k2
    simp only [s4, r4, e11, Option.bind_some, z, cond_false, Bool.or_false, k1, k2, Bool.not_true, idx_some hT]
    cases ca : ((decide (a2 < 0)) || (decide (a2 ≥ 6))) with
    | true =>
      have hr : a2 < 0 ∨ 6 ≤ a2 := by
        simp only [Bool.or_eq_true, decide_eq_true_eq] at ca
        exact ca
      rw [f27_arg hr hk] at e7
      have e8 := (Prod.mk.inj (Option.some.inj e7)).1
      rw [← e8]
      rfl
    | false =>
      simp only [Bool.or_eq_false_iff, decide_eq_false_iff_not] at ca
      obtain ⟨m, rfl⟩ := Int.eq_ofNat_of_zero_le (show 0 ≤ a2 by omega)
      have hm : m < 6 := by omega
      obtain ⟨s, j, v, hs, hj, hjl, hv, hvj, hF⟩ := f27_look s2 hm hod hk
      rw [hF] at e7
      obtain ⟨e8, e9⟩ := Prod.mk.inj (Option.some.inj e7)
      have e10 := PS.tup_inj e9
      subst e8
      obtain ⟨bys, o1, o2⟩ := f14_run (by omega) s1
      have hsn : (tl6 q.seen)[m]? = some (j : Int) := by
        rw [← e10]; show (tl6 (ts6 _ _ _))[m]? = _; rw [tl6_get hm, if_pos rfl]
      have hsv : q.srv = p.srv := by rw [← e10]
      have b1 : ((decide ((j : Int) < (v : Int))) || (decide ((j : Int) > (p.ord.length : Int)))) = false := by
        rw [Bool.or_eq_false_iff, decide_eq_false_iff_not, decide_eq_false_iff_not]; omega
      have hal : (p.srv.map (·.2)).length = n := by rw [List.length_map, s2.len]
      have hhas : F17 (p.srv.map (·.2)) (j : Int) = some true := by
        refine f17_has _ (by omega) ?_
        have g : p.srv[s]? = some (mTree (p.ord.take j), (j : Int)) := hj
        exact List.mem_map.mpr ⟨_, List.mem_of_getElem? g, rfl⟩
      have hint : F18 (p.srv.map (·.2)) (p.srv.map (·.2)) = some true := f18_self _ (by omega)
      have hsl : slI p.ord 0 (j : Int) = some (p.ord.take j) := by unfold slI; rw [if_pos ⟨by omega, by omega, by omega⟩]; simp
      have htl : (p.ord.take j).length = j := by rw [List.length_take]; omega
      have q1 : appl 48 ([] : List Dd) (p.ord.take j) = some (p.ord.take j) := by
        unfold appl; rw [if_pos ⟨by simp; omega, by simp; omega⟩]; rfl
      have q2 := app48 (p.ord.take j) a3 (by omega)
      have q2' : appl 48 (p.ord.take j) [(a3.1, a3.2.1, a3.2.2.1, a3.2.2.2)] = some (p.ord.take j ++ [a3]) := q2
      have hok3 : ∀ d ∈ p.ord.take j ++ [a3], okD d := fun d q => by
        rcases List.mem_append.1 q with q | q
        · exact s2.ok d (List.mem_of_mem_take q)
        · rw [List.mem_singleton] at q; rw [q]; exact hod
      obtain ⟨ws, f1, f2, f3⟩ := f15_val (p.ord.take j ++ [a3]) (by simp; omega) hok3
      have hw : ws[j]? = some (told (p.ord.take j) a3) := by
        have := f3 j a3 (by rw [List.getElem?_append_right (by omega), htl]; simp)
        rw [List.take_append_of_le_length (by omega), List.take_of_length_le (by omega)] at this
        exact this
      have hwl : ((0 : Int) == 0 && ((ws.length : Int) == w64 ((j : Int) + 1))) = true := by
        rw [w64_succ (n := 100) (by omega) (by omega), f2]
        simp [htl]
      have hs16 := f16_self (told (p.ord.take j) a3) (told_keys _ (fun d q => s2.ok d (List.mem_of_mem_take q)) _ hod)
      have hs16' : F16 ((told (p.ord.take j) a3).1, (told (p.ord.take j) a3).2.1, (told (p.ord.take j) a3).2.2.1, (told (p.ord.take j) a3).2.2.2) ((told (p.ord.take j) a3).1, (told (p.ord.take j) a3).2.1, (told (p.ord.take j) a3).2.2.1, (told (p.ord.take j) a3).2.2.2) = some true := hs16
      simp only [cond_false, o1, idx_some hsn, idx_some hv, Option.bind_some, b1, hhas, hsv, hint, Bool.not_true, hsl, q1, q2', f1, hwl, cond_true, idx_some hw, hs16']
end Go.Proofs.YtadfgohglcglcaaDoor


namespace Go.Proofs.YtadfgohglcglcaaDoor
open Go Go.Bk Go.ChangeShapes Go.WideShapes Go.ChangeAt Go.RowKit
set_option linter.unusedVariables false
set_option linter.unusedSimpArgs false
theorem tkunderlying_3_some_int_i64 : Tryd.prog.underlying 3 = some (.int .i64) := by kernel_rfl
theorem tkunderlying_9_some_string : Tryd.prog.underlying 9 = some .string := by kernel_rfl
theorem tkunderlying_45_some_struct_fieldsOf_45 : Tryd.prog.underlying 45 = some (.struct (Tryd.prog.fieldsOf 45)) := by kernel_rfl
theorem tkcellsOf_45_4 : Tryd.prog.cellsOf 45 = 4 := by kernel_rfl
theorem tkfieldsOf_45_0_map_fun_f_f_type_f_offset_some_3_0 : ((Tryd.prog.fieldsOf 45)[0]?).map (fun f => (f.type, f.offset)) = some (3, 0) := by kernel_rfl
theorem tkcellsOf_3_1 : Tryd.prog.cellsOf 3 = 1 := by kernel_rfl
theorem tkfieldsOf_45_1_map_fun_f_f_type_f_offset_some_9_1 : ((Tryd.prog.fieldsOf 45)[1]?).map (fun f => (f.type, f.offset)) = some (9, 1) := by kernel_rfl
theorem tkcellsOf_9_1 : Tryd.prog.cellsOf 9 = 1 := by kernel_rfl
theorem tkfieldsOf_45_2_map_fun_f_f_type_f_offset_some_9_2 : ((Tryd.prog.fieldsOf 45)[2]?).map (fun f => (f.type, f.offset)) = some (9, 2) := by kernel_rfl
theorem tkfieldsOf_45_3_map_fun_f_f_type_f_offset_some_3_3 : ((Tryd.prog.fieldsOf 45)[3]?).map (fun f => (f.type, f.offset)) = some (3, 3) := by kernel_rfl
theorem tkunderlying_47_some_struct_fieldsOf_47 : Tryd.prog.underlying 47 = some (.struct (Tryd.prog.fieldsOf 47)) := by kernel_rfl
theorem tkcellsOf_47_7 : Tryd.prog.cellsOf 47 = 7 := by kernel_rfl
theorem tkfieldsOf_47_0_map_fun_f_f_type_f_offset_some_3_0 : ((Tryd.prog.fieldsOf 47)[0]?).map (fun f => (f.type, f.offset)) = some (3, 0) := by kernel_rfl
theorem tkfieldsOf_47_1_map_fun_f_f_type_f_offset_some_3_1 : ((Tryd.prog.fieldsOf 47)[1]?).map (fun f => (f.type, f.offset)) = some (3, 1) := by kernel_rfl
theorem tkfieldsOf_47_2_map_fun_f_f_type_f_offset_some_3_2 : ((Tryd.prog.fieldsOf 47)[2]?).map (fun f => (f.type, f.offset)) = some (3, 2) := by kernel_rfl
theorem tkfieldsOf_47_3_map_fun_f_f_type_f_offset_some_45_3 : ((Tryd.prog.fieldsOf 47)[3]?).map (fun f => (f.type, f.offset)) = some (45, 3) := by kernel_rfl
theorem tkunderlying_22_some_slice_47 : Tryd.prog.underlying 22 = some (.slice 47) := by kernel_rfl
theorem tksliceB_22_47_7_true : sliceB Tryd.prog 22 47 7 = true := by kernel_rfl
theorem tkbytesOf_47_72 : Tryd.prog.bytesOf 47 = 72 := by kernel_rfl
theorem tkunderlying_4_some_bool : Tryd.prog.underlying 4 = some .bool := by kernel_rfl
theorem tkownKnob_godebug_none : ownKnob Tryd.prog.godebug = none := by kernel_rfl
theorem tklaidOutB_true : laidOutB Tryd.prog = true := by kernel_rfl
theorem opens_45 {H : Type} {enc : TypeId × Value → H} {W : World} : Opens Tryd.prog W enc 45 cTissi (fun y => (i64 y.1) ∧ (y.2.1.size ≤ maxLen) ∧ (y.2.2.1.size ≤ maxLen) ∧ (i64 y.2.2.2)) := fun n cs x h => by
  obtain ⟨xs, m, _, _, hl, hlen, hf⟩ := DataW.trod_struct tkunderlying_45_some_struct_fieldsOf_45 h
  rw [tkcellsOf_45_4] at hl
  obtain ⟨y0, e0, w0⟩ := field_open (i := 0) (opens_int tkunderlying_3_some_int_i64) hlen hf tkfieldsOf_45_0_map_fun_f_f_type_f_offset_some_3_0 tkcellsOf_3_1
  obtain ⟨y1, e1, w1⟩ := field_open (i := 1) (opens_str tkunderlying_9_some_string) hlen hf tkfieldsOf_45_1_map_fun_f_f_type_f_offset_some_9_1 tkcellsOf_9_1
  obtain ⟨y2, e2, w2⟩ := field_open (i := 2) (opens_str tkunderlying_9_some_string) hlen hf tkfieldsOf_45_2_map_fun_f_f_type_f_offset_some_9_2 tkcellsOf_9_1
  obtain ⟨y3, e3, w3⟩ := field_open (i := 3) (opens_int tkunderlying_3_some_int_i64) hlen hf tkfieldsOf_45_3_map_fun_f_f_type_f_offset_some_3_3 tkcellsOf_3_1
  clear hf h
  match cs, hl with
  | [c0, c1, c2, c3], _ =>
    simp [cI, cU, cB, cS] at e0
    simp [cI, cU, cB, cS] at e1
    simp [cI, cU, cB, cS] at e2
    simp [cI, cU, cB, cS] at e3
    exact ⟨(y0, y1, y2, y3), by simp [e0, e1, e2, e3], w0, w1, w2, w3⟩
theorem opens_47 {H : Type} {enc : TypeId × Value → H} {W : World} : Opens Tryd.prog W enc 47 cTiiiissi (fun y => (i64 y.1) ∧ (i64 y.2.1) ∧ (i64 y.2.2.1) ∧ ((i64 y.2.2.2.1) ∧ (y.2.2.2.2.1.size ≤ maxLen) ∧ (y.2.2.2.2.2.1.size ≤ maxLen) ∧ (i64 y.2.2.2.2.2.2))) := fun n cs x h => by
  obtain ⟨xs, m, _, _, hl, hlen, hf⟩ := DataW.trod_struct tkunderlying_47_some_struct_fieldsOf_47 h
  rw [tkcellsOf_47_7] at hl
  obtain ⟨y0, e0, w0⟩ := field_open (i := 0) (opens_int tkunderlying_3_some_int_i64) hlen hf tkfieldsOf_47_0_map_fun_f_f_type_f_offset_some_3_0 tkcellsOf_3_1
  obtain ⟨y1, e1, w1⟩ := field_open (i := 1) (opens_int tkunderlying_3_some_int_i64) hlen hf tkfieldsOf_47_1_map_fun_f_f_type_f_offset_some_3_1 tkcellsOf_3_1
  obtain ⟨y2, e2, w2⟩ := field_open (i := 2) (opens_int tkunderlying_3_some_int_i64) hlen hf tkfieldsOf_47_2_map_fun_f_f_type_f_offset_some_3_2 tkcellsOf_3_1
  obtain ⟨y3, e3, w3⟩ := field_open (i := 3) opens_45 hlen hf tkfieldsOf_47_3_map_fun_f_f_type_f_offset_some_45_3 tkcellsOf_45_4
  clear hf h
  match cs, hl with
  | [c0, c1, c2, c3, c4, c5, c6], _ =>
    simp [cI, cU, cB, cS] at e0
    simp [cI, cU, cB, cS] at e1
    simp [cI, cU, cB, cS] at e2
    simp [cI, cU, cB, cS] at e3
    exact ⟨(y0, y1, y2, y3), by simp [e0, e1, e2, e3], w0, w1, w2, w3⟩
set_option maxRecDepth 100000 in
theorem topReads_lifted (os : Os) (started : os.Started) (H : Type) (enc : TypeId × Value → H) :
    ReturnsInHanded Rows.topReadsRow.assume Tryd.checked os 5 .any (fun w args => (Rows.topReadsSpec.pre enc Tryd.prog Tryd.f5 Rows.topReadsRow.domain false w args ∧ laidMetH Tryd.prog Rows.topReadsRow.laid w) ∧ sizedMet enc Tryd.prog Tryd.f5 (OpenSpec.ofChange Rows.topReadsSpec) false w args) (Rows.topReadsSpec.post enc Tryd.prog Tryd.f5 false true false false) := by
  refine returnsInHanded_of_change_and (C := Tryd.checked) (X := fun w _ => laidMetH Tryd.prog Rows.topReadsRow.laid w) (fun _ _ _ hh h => h.of_heap hh) tkownKnob_godebug_none started (by kernel_rfl) Tryd.func5
    (ChangeSpec.witness_shaped (enc := enc) (C := Tryd.checked) (os := os) (X := fun w _ => laidMetH Tryd.prog Rows.topReadsRow.laid w) false (World.laidAll Tryd.prog os Rows.topReadsRow.laid) #[.int .i64 0, .slice none 0 0, .int .i64 0, .agg #[I 0, .string ByteArray.empty, .string ByteArray.empty, I 0]] 8 (World.laidAll_os _ _ _)
      (World.shaped_of_ZipB (by kernel_rfl) (by kernel_rfl)) (by kernel_rfl) (by kernel_rfl) (by kernel_rfl)
      (by rw [MakeChecks.laidMetH_plain _ _ _ (by kernel_rfl)]; exact laidMet_laidAll _ (by kernel_rfl) (by kernel_rfl))) ?_
  intro W base args ds gs before hval0 hW hcnd hwt hL _
  have hval : ∀ (j : Nat) t v, Tryd.f5.params[j]? = some t → args[j]? = some v → Value.okWide Tryd.prog W .any base t v := hval0
  have hW' := hW
  obtain ⟨p, q, hA0, hV, rfl, hfz, hnd⟩ := hW
  have hA : DataW.TrodAll enc Tryd.prog W 0 (fun _ => true) true Tryd.f5.params.toList args.toList ds p := hA0
  rw [Tryd.params5] at hA hval
  obtain ⟨v0, vs0, d0, ds0, p0, q0, hargs, rfl, rfl, h0, r0⟩ := trodAll_cons hA
  obtain ⟨v1, vs1, d1, ds1, p1, q1, rfl, rfl, rfl, h1, r1⟩ := trodAll_cons r0
  obtain ⟨v2, vs2, d2, ds2, p2, q2, rfl, rfl, rfl, h2, r2⟩ := trodAll_cons r1
  obtain ⟨v3, vs3, d3, ds3, p3, q3, rfl, rfl, rfl, h3, r3⟩ := trodAll_cons r2
  obtain ⟨rfl, rfl, rfl⟩ := trodAll_nil r3
  obtain rfl : args = #[v0, v1, v2, v3] := by cases args; simp_all
  obtain ⟨rfl, rfl⟩ := trodVars_none hV
  have hh1 := h1
  have hh0 := h0
  obtain ⟨x0, rfl, rfl, rfl, wx0⟩ := open_int tkunderlying_3_some_int_i64 (hval 0 3 v0 rfl rfl) h0
  obtain ⟨x1, en1, ln1, wf1⟩ := open_rd tksliceB_22_47_7_true (by decide) (okWide_slice tkunderlying_22_some_slice_47 (hval 1 22 v1 rfl rfl)) h1 opens_47
  have lb1 := open_lenB tkunderlying_22_some_slice_47 hh1 (fun n hn => by simpa using List.all_eq_true.1 hwt n (DataW.weights_mem_each (j := 1) (t := 22) rfl rfl n hn)) en1 tkbytesOf_47_72
  have hh2 := h2
  obtain ⟨x2, rfl, rfl, rfl, wx2⟩ := open_int tkunderlying_3_some_int_i64 (hval 2 3 v2 rfl rfl) h2
  have hh3 := h3
  obtain ⟨x3, rfl, wf3⟩ := open_agg tkunderlying_45_some_struct_fieldsOf_45 (hval 3 45 v3 rfl rfl) h3 opens_45
  clear hA0 hval0
  refine (C5 en1 (law_TopReads x0 (i64_of wx0) x1 lb1 wf1 x2 (i64_of wx2) x3 wf3) (St.start W)).mono fun e W' ⟨he, hs⟩ => ?_
  subst he
  have bel := hs.below
  exact ⟨_, rfl, _, _, _, [], _, [], hW', trodAll_mk1 (shut_bool tkunderlying_4_some_bool _), (trodAll_cons_mk (trod_below tklaidOutB_true (by kernel_rfl) (of_decide_eq_true (by kernel_rfl)) hh0 bel) (trodAll_cons_mk (trod_below tklaidOutB_true (by kernel_rfl) (of_decide_eq_true (by kernel_rfl)) hh1 bel) (trodAll_cons_mk (trod_below tklaidOutB_true (by kernel_rfl) (of_decide_eq_true (by kernel_rfl)) hh2 bel) (trodAll_cons_mk (trod_below tklaidOutB_true (by kernel_rfl) (of_decide_eq_true (by kernel_rfl)) hh3 bel) trodAll_mk0)))), rfl, bel.frame _, fun h => by cases h⟩

theorem topReads_row : Rows.TopReadsSaid :=
  OpenClaim.holds_of_wide 5 Tryd.f5 rfl rfl rfl rfl rfl rfl rfl ⟨rfl, rfl, rfl, rfl, rfl⟩ rfl rfl rfl rfl rfl (by kernel_rfl) Tryd.func5 (by kernel_rfl)
    (of_decide_eq_true (by kernel_rfl)) (by unfold Func.isWrapper; first | (rw [if_pos (by decide +kernel)]; kernel_rfl) | (rw [if_neg (by decide +kernel)]; exact ⟨rfl, rfl⟩))
    (fun os started H enc _ => topReads_lifted os started H enc)
theorem topReads_holds : Rows.TopReadsCardSaid :=
  Claim7.holds_tied_plain_at .later [] [.data, .pinned] true (true, "0889df3315a1edfbd6ae7a38e6e38c776aedd44776af9dd68cd7c9e4c0d4b7b5") false topReads_row (fun _ h => by cases h) (by kernel_rfl) (fun _ h => by cases h) topReads_row_tie rfl ⟨rfl, rfl⟩ (by kernel_rfl) rfl
    (fun f fn hf hfn => by
      obtain rfl : f = 5 := Option.some.inj ((show Tryd.prog.funcNamed "beaconry/beaconrytop.TopReads" = some 5 by kernel_rfl).symm.trans hf) |>.symm
      obtain rfl : fn = Tryd.f5 := (Option.some.inj (Tryd.func5.symm.trans hfn)).symm
      exact ⟨by kernel_rfl, fun j t ht => by
        rw [Tryd.params5] at ht
        have hm : t ∈ [3, 22, 3, 45] := by simpa using Array.mem_of_getElem? ht
        have hall : ([3, 22, 3, 45].all fun u => !Tryd.prog.wantsStandIn u) = true := by kernel_rfl
        exact (show Tryd.prog.wantsStandIn t = false by simpa using List.all_eq_true.1 hall t hm)⟩)
    (by kernel_rfl)
#print axioms topReads_holds
end Go.Proofs.YtadfgohglcglcaaDoor
