/-
  The tied card WatchPlaysCardSaid: for every input the call of the Go function beaconry/beaconrylaw.WatchPlays returns true, and each argument reads afterwards as it read before. No condition narrows the inputs.
-/
import Derived.Test.YtadfgohglcglcaaDoorCards
import Derived.Test.YtadfgohglcglcaaDoorTie
import Derived.Lay
import Derived.LaidOnce
import Derived.SevenTiedAt
import Derived.LaidMore
import Derived.Stop.Joined
import Derived.WalkKit
import Derived.ProofKit
import Derived.Test.YtadfgohglcglcaaDoorBk40
import Derived.Test.YtadfgohglcglcaaDoorWW
import Derived.Test.YtadfgohglcglcaaDoorNW
import Derived.Test.YtadfgohglcglcaaDoorKM
import Derived.Test.YtadfgohglcglcaaDoorPl
import Derived.Test.YtadfgohglcglcaaDoorPw
import Derived.Laws.RangeAny
import Derived.Laws.RangeString
import Derived.Lib.IndexLaws
import Derived.Sort.Walk0
import Derived.Test.YtadfgohglcglcaaDoorBk6
import Derived.Test.YtadfgohglcglcaaDoorWM
namespace Go.Proofs.YtadfgohglcglcaaDoor
open Go Go.Bk
set_option linter.unusedVariables false
set_option linter.unusedSimpArgs false
theorem sEq_iff (x y : ByteArray) : sEq x y = decide (x = y) := by
  unfold sEq
  rw [ByteArray.toList_eq, ByteArray.toList_eq]
  by_cases h : x = y
  · subst h; simp
  · rw [decide_eq_false h, beq_eq_false_iff_ne]
    intro e
    apply h
    rw [← lb_bl x, ← lb_bl y]
    exact congrArg lb e
theorem bget (s : ByteArray) (i : Nat) : s[i]? = (bl s)[i]? := by
  unfold bl
  by_cases h : i < s.size
  · rw [getElem?_pos s i h, Array.getElem?_toList, Array.getElem?_eq_getElem h]; rfl
  · rw [getElem?_neg s i h, Array.getElem?_toList, Array.getElem?_eq_none (by simpa using h)]
theorem bl_len (s : ByteArray) : (bl s).length = s.size := by unfold bl; simp
theorem bl_extract (s : ByteArray) (a b : Nat) : bl (s.extract a b) = ((bl s).take b).drop a := by
  unfold bl
  rw [ByteArray.data_extract, Array.toList_extract, List.drop_take]
theorem bl_inj {x y : ByteArray} (h : bl x = bl y) : x = y := by rw [← lb_bl x, ← lb_bl y, h]
def inr (c : UInt8) : Bool := decide (97 ≤ c.toNat) && decide (c.toNat ≤ 122)
def fR (x : Nat) : Bool := decide ((x : Int) < 97) || decide ((x : Int) > 122)
theorem fR_lo (c : UInt8) : fR c.toNat = !inr c := by
  unfold fR inr
  by_cases a : 97 ≤ c.toNat <;> by_cases b : c.toNat ≤ 122 <;> simp [a, b] <;> omega
theorem idxF (s : ByteArray) : ∀ fuel pos, s.size ≤ pos + fuel → decide (0 ≤ Lib.idxFuncFrom fR true s fuel pos) = ((bl s).drop pos).any (fun c => !inr c)
  | 0, pos, h => by
    rw [List.drop_eq_nil_of_le (by rw [bl_len]; omega)]
    rfl
  | fuel + 1, pos, h => by
    unfold Lib.idxFuncFrom
    by_cases hp : pos < s.size
    · rw [if_pos hp]
      have hg : (bl s)[pos]? = some (s[pos]'hp) := by rw [← bget, getElem?_pos s pos hp]
      have hd : (bl s).drop pos = s[pos]'hp :: (bl s).drop (pos + 1) := by
        rw [← List.getElem_cons_drop (by rw [bl_len]; exact hp)]
        congr 1
      rw [hd, List.any_cons]
      by_cases ha : (s[pos]'hp).toNat < 128
      · rw [decode_ascii s pos hp ha]
        simp only [fR_lo]
        cases inr (s[pos]'hp) with
        | true =>
          simp only [Bool.not_true, Bool.false_or, Bool.false_eq_true, if_false]
          exact idxF s fuel (pos + 1) (by omega)
        | false => simp
      · obtain ⟨h1, _⟩ := decode_high s pos hp (by omega)
        have h2 : fR (Utf8.decode s pos).1 = true := by unfold fR; simp; omega
        have h3 : inr (s[pos]'hp) = false := by unfold inr; simp; omega
        rw [if_pos h2, h3]
        simp
    · rw [if_neg hp, List.drop_eq_nil_of_le (by rw [bl_len]; omega)]
      rfl
theorem goodP_val (s : ByteArray) : goodP s = (!(bl s).isEmpty && (bl s).all inr) := by
  unfold goodP Lib.idxFunc
  have h := idxF s s.size 0 (by omega)
  unfold fR at h
  rw [h, List.drop_zero, sEq_iff, Bool.not_or]
  congr 1
  · have : (s = ByteArray.mk #[]) ↔ bl s = [] := ⟨fun e => by rw [e]; rfl, fun e => bl_inj (by rw [e]; rfl)⟩
    rw [decide_eq_decide.2 this]
    by_cases e : bl s = []
    · have : (bl s).isEmpty = true := by simpa using e
      rw [this, decide_eq_true e]
    · have : (bl s).isEmpty = false := by simpa using e
      rw [this, decide_eq_false e]
  · rw [List.all_eq_not_any_not]
/-- All parts are there and good. -/
def okL : Bool → List UInt8 → Bool
  | st, [] => !st
  | st, c :: cs => if c = 47 then !st && okL true cs else inr c && okL false cs
theorem okL_nil (st : Bool) : okL st [] = !st := rfl
theorem okL_cons (st : Bool) (c : UInt8) (cs : List UInt8) : okL st (c :: cs) = if c = 47 then !st && okL true cs else inr c && okL false cs := rfl
theorem inr47 : inr 47 = false := by decide
theorem okL_end {bs : List UInt8} (h : Lib.indexByte bs 47 < 0) : ∀ st, okL st bs = (bs.all inr && (!st || !bs.isEmpty)) := by
  induction bs with
  | nil => intro st; simp [okL]
  | cons b bs ih =>
    intro st
    unfold Lib.indexByte at h
    by_cases c : b = 47
    · subst c; simp at h
    · have hc : (b == 47) = false := by simpa using c
      rw [hc] at h
      have h2 : Lib.indexByte bs 47 < 0 := by
        have := Lib.indexByte_ge bs 47
        by_cases q : Lib.indexByte bs 47 = -1
        · omega
        · have q2 : (Lib.indexByte bs 47 == -1) = false := by simpa using q
          simp [q2] at h
          omega
      rw [okL_cons, if_neg c, ih h2 false]
      cases st <;> simp
theorem okL_more {bs : List UInt8} {i : Nat} (h : Lib.indexByte bs 47 = (i : Int)) : ∀ st, okL st bs = (((bs.take i).all inr && (!st || !(bs.take i).isEmpty)) && okL true (bs.drop (i + 1))) := by
  induction bs generalizing i with
  | nil => unfold Lib.indexByte at h; omega
  | cons b bs ih =>
    intro st
    unfold Lib.indexByte at h
    by_cases c : b = 47
    · subst c
      have : i = 0 := by simp at h; omega
      subst this
      rw [okL_cons, if_pos rfl]
      simp
    · have hc : (b == 47) = false := by simpa using c
      rw [hc] at h
      by_cases q : Lib.indexByte bs 47 = -1
      · simp [q] at h
      · have q2 : (Lib.indexByte bs 47 == -1) = false := by simpa using q
        simp only [q2, Bool.false_eq_true, if_false] at h
        have := Lib.indexByte_ge bs 47
        obtain ⟨j, hj⟩ := Int.eq_ofNat_of_zero_le (show 0 ≤ Lib.indexByte bs 47 by omega)
        have : i = j + 1 := by omega
        subst this
        rw [okL_cons, if_neg c, ih hj false, List.drop_succ_cons, List.take_succ_cons]
        cases st <;> simp [Bool.and_assoc]
theorem allG_val : ∀ (n : Nat) (s : ByteArray), s.size ≤ n → allG n s = okL true (bl s)
  | 0, s, h => by
    have : bl s = [] := List.eq_nil_of_length_eq_zero (by rw [bl_len]; omega)
    show goodP s = _
    rw [goodP_val, this]; rfl
  | n + 1, s, h => by
    unfold allG
    by_cases c : cutAt s < 0
    · rw [decide_eq_true c, cond_true, goodP_val, okL_end (bs := bl s) c true]
      simp [Bool.and_comm]
    · obtain ⟨i, hi⟩ := Int.eq_ofNat_of_zero_le (show 0 ≤ cutAt s by omega)
      have hi' : Lib.indexByte (bl s) 47 = (i : Int) := hi
      rw [decide_eq_false c, cond_false, hi, okL_more hi' true, goodP_val, bl_extract]
      have hlt : i < s.size := by
        have h1 := (Lib.indexByte_some hi').1
        have h2 := (List.getElem?_eq_some_iff.1 h1).1
        rw [bl_len] at h2; exact h2
      rw [Int.toNat_natCast, allG_val n (s.extract (i + 1) s.size) (by rw [ByteArray.size_extract]; omega), bl_extract, List.drop_zero]
      have : (bl s).take s.size = bl s := List.take_of_length_le (by rw [bl_len]; exact Nat.le_refl _)
      rw [this]
      simp [Bool.and_comm]
/-- What a name is. -/
def nameB (p : ByteArray) : Bool := match bl p with
  | [] => false
  | c :: cs => if c = 47 then cs.isEmpty || okL true cs else false

theorem sidx_at {p : ByteArray} {j : Nat} {c : UInt8} (h : (bl p)[j]? = some c) : sidx p (j : Int) = some (c.toNat : Int) := by
  unfold sidx
  rw [if_pos (by omega), Int.toNat_natCast, bget, h]; rfl
theorem u47 (c : UInt8) : ((c.toNat : Int) == 47) = decide (c = 47) := by
  by_cases h : c = 47
  · subst h; rfl
  · rw [decide_eq_false h, beq_eq_false_iff_ne]
    intro e
    apply h
    have : c.toNat = (47 : UInt8).toNat := by
      have h2 : (47 : UInt8).toNat = 47 := rfl
      omega
    exact UInt8.toNat_inj.1 this
theorem uinr (c : UInt8) : (decide ((c.toNat : Int) < 97) || decide ((c.toNat : Int) > 122)) = !inr c := by
  have := fR_lo c
  unfold fR at this
  exact this
theorem sslc_at {s : ByteArray} {a b : Nat} (h1 : a ≤ b) (h2 : b ≤ s.size) : sslc s (a : Int) (b : Int) = some (s.extract a b) := by
  unfold sslc
  rw [if_pos ⟨by omega, by omega, by omega⟩]
  simp
/-- The program's look. -/
theorem f44_val (p : ByteArray) : F44 p (ByteArray.mk #[47]) = some (match bl p with
    | c :: _ => if c = 47 then (p.extract 1 p.size, true) else (p, false)
    | [] => (p, false)) := by
  have hs : (((ByteArray.mk #[47]).size : Nat) : Int) = ((1 : Nat) : Int) := rfl
  unfold F44 F50 F56
  rw [hs]
  cases hp : bl p with
  | nil =>
    have : p.size = 0 := by rw [← bl_len, hp]; rfl
    have hd : decide ((p.size : Int) ≥ ((1 : Nat) : Int)) = false := by rw [decide_eq_false_iff_not]; omega
    rw [hd]
    rfl
  | cons c cs =>
    have hl : p.size = cs.length + 1 := by rw [← bl_len, hp]; rfl
    have hd : decide ((p.size : Int) ≥ ((1 : Nat) : Int)) = true := by rw [decide_eq_true_eq]; omega
    have h1 : sslc p 0 ((1 : Nat) : Int) = some (p.extract 0 1) := sslc_at (a := 0) (by omega) (by omega)
    have h2 : sslc p ((1 : Nat) : Int) (p.size : Int) = some (p.extract 1 p.size) := sslc_at (by omega) (by omega)
    have he : sEq (p.extract 0 1) (ByteArray.mk #[47]) = decide (c = 47) := by
      rw [sEq_iff]
      apply decide_eq_decide.2
      constructor
      · intro h
        have := congrArg bl h
        rw [bl_extract, hp] at this
        simpa [bl] using this
      · intro h
        subst h
        apply bl_inj
        rw [bl_extract, hp]
        rfl
    rw [hd, h1, h2]
    simp only [cond_true, Option.bind_some, he]
    by_cases hc : c = 47 <;> simp [hc]
theorem f35_val {p : ByteArray} (hs : p.size ≤ 9223372036854775807) : F35 p = some (nameB p) := by
  unfold F35 nameB
  rw [f44_val, sEq_iff]
  cases hp : bl p with
  | nil =>
    have : p ≠ ByteArray.mk #[47] := fun e => by rw [e] at hp; cases hp
    simp [this]
  | cons c cs =>
    have hl : p.size = cs.length + 1 := by rw [← bl_len, hp]; rfl
    by_cases hc : c = 47
    · subst hc
      by_cases he : cs = []
      · subst he
        have : p = ByteArray.mk #[47] := bl_inj (by rw [hp]; rfl)
        simp [this]
      · have : p ≠ ByteArray.mk #[47] := fun e => by
          rw [e] at hp
          have h2 : bl (ByteArray.mk #[47]) = [47] := rfl
          rw [h2] at hp
          exact he (List.cons.inj hp).2.symm
        have h3 : cs.isEmpty = false := by simpa using he
        have h4 : (p.extract 1 p.size).size ≤ 9223372036854775807 := by rw [ByteArray.size_extract]; omega
        have h5 : bl (p.extract 1 p.size) = cs := by
          rw [bl_extract, hp, List.take_of_length_le (by simp; omega)]; rfl
        simp only [this, decide_false, cond_false, if_true, Option.bind_some, Bool.not_true, if_pos h4, h3, Bool.false_or]
        rw [allG_val _ _ (Nat.le_refl _), h5]
    · have : p ≠ ByteArray.mk #[47] := fun e => by
        rw [e] at hp
        have h2 : bl (ByteArray.mk #[47]) = [47] := rfl
        rw [h2] at hp
        exact hc (List.cons.inj hp).1.symm
      simp [this, hc]
/-! The reference's look. -/
/-- No fault behind a letter. -/
def nb : UInt8 → List UInt8 → Bool
  | _, [] => true
  | pv, c :: cs => (if c = 47 then !decide (pv = 47) else inr c) && nb c cs
theorem okL_nb : ∀ (cs : List UInt8) (pv : UInt8), okL (decide (pv = 47)) cs = (!decide ((pv :: cs).getLast (by simp) = 47) && nb pv cs)
  | [], pv => by
    rw [okL_nil]
    by_cases h : pv = 47 <;> simp [nb, h]
  | c :: cs, pv => by
    have ih := okL_nb cs c
    rw [okL_cons, List.getLast_cons (by simp)]
    unfold nb
    by_cases h : c = 47
    · rw [if_pos h, if_pos h]
      rw [decide_eq_true h] at ih
      rw [ih]
      cases decide (pv = 47) <;> simp
    · rw [if_neg h, if_neg h]
      rw [decide_eq_false h] at ih
      rw [ih]
      cases inr c <;> simp
theorem f39_loop {p : ByteArray} (hsz : p.size ≤ 9223372036854775807) : ∀ (cs : List UInt8) (j : Nat) (pv : UInt8), (bl p).drop j = cs → 0 < j → j ≤ p.size → (bl p)[j - 1]? = some pv → whileM (F39_L0 p) (j : Int) = some (if nb pv cs = true then .brk () else .ret false)
  | [], j, pv, hd, h0, hj, hp => by
    have hl : p.size ≤ j := by
      have := List.drop_eq_nil_iff.1 hd
      rwa [bl_len] at this
    have e : decide ((j : Int) < (p.size : Int)) = false := by rw [decide_eq_false_iff_not]; omega
    have hb : F39_L0 p (j : Int) = some (.brk ()) := by simp only [F39_L0, e, cond_false]
    rw [whileM_brk hb]
    rfl
  | c :: cs, j, pv, hd, h0, hj, hp => by
    have hg : (bl p)[j]? = some c := by
      have := congrArg (fun l => l[0]?) hd
      simpa [List.getElem?_drop] using this
    have hlt : j < p.size := by have := (List.getElem?_eq_some_iff.1 hg).1; rwa [bl_len] at this
    have hd2 : (bl p).drop (j + 1) = cs := by
      rw [← List.drop_drop, hd]; rfl
    have e : decide ((j : Int) < (p.size : Int)) = true := by rw [decide_eq_true_eq]; omega
    have e0 : decide ((j : Int) > 0) = true := by rw [decide_eq_true_eq]; omega
    have hj1 : w64 ((j : Int) - 1) = ((j - 1 : Nat) : Int) := by rw [w64_of (by omega) (by omega)]; omega
    have hj2 : w64 ((j : Int) + 1) = ((j + 1 : Nat) : Int) := w64_succ hlt hsz
    have ih := f39_loop hsz cs (j + 1) c hd2 (by omega) (by omega) (by simpa using hg)
    have hbody : F39_L0 p (j : Int) = (if (if c = 47 then !decide (pv = 47) else inr c) = true then some (.nxt ((j + 1 : Nat) : Int)) else some (.ret false)) := by
      have hu := uinr c
      simp only [F39_L0, e, e0, cond_true, sidx_at hg, sidx_at hp, hj1, hj2, Option.bind_some, u47]
      by_cases h : c = 47
      · rw [decide_eq_true h, if_pos h]
        by_cases q : pv = 47 <;> simp [q]
      · rw [decide_eq_false h, if_neg h, cond_false]
        cases hx : decide ((c.toNat : Int) < 97) <;> cases hy : decide ((c.toNat : Int) > 122) <;> rw [hx, hy] at hu <;> simp at hu <;> simp [hu]
    unfold nb
    by_cases h : (if c = 47 then !decide (pv = 47) else inr c) = true
    · rw [if_pos h] at hbody
      rw [whileM_nxt hbody, ih, h, Bool.true_and]
    · rw [if_neg h] at hbody
      rw [whileM_ret hbody]
      have : (if c = 47 then !decide (pv = 47) else inr c) = false := eq_false_of_ne_true h
      rw [this]; rfl
theorem f39_val {p : ByteArray} (hs : p.size ≤ 9223372036854775807) : F39 p = some (nameB p) := by
  unfold F39 nameB
  rw [sEq_iff, sEq_iff]
  cases hp : bl p with
  | nil =>
    have h1 : p ≠ ByteArray.mk #[47] := fun e => by rw [e] at hp; cases hp
    have h2 : p = ByteArray.mk #[] := bl_inj (by rw [hp]; rfl)
    rw [decide_eq_false h1, decide_eq_true h2]
    rfl
  | cons c cs =>
    have hl : p.size = cs.length + 1 := by rw [← bl_len, hp]; rfl
    have h2 : p ≠ ByteArray.mk #[] := fun e => by rw [e] at hp; cases hp
    have h0 : (bl p)[0]? = some c := by rw [hp]; rfl
    have hs0 : sidx p 0 = some (c.toNat : Int) := sidx_at h0
    have hlast : (bl p)[cs.length]? = some ((c :: cs).getLast (by simp)) := by
      rw [hp, List.getLast_eq_getElem]
      simp
    have hs1 : sidx p (w64 ((p.size : Int) - 1)) = some (((c :: cs).getLast (by simp)).toNat : Int) := by
      rw [show w64 ((p.size : Int) - 1) = ((cs.length : Nat) : Int) by rw [w64_of (by omega) (by omega)]; omega]
      exact sidx_at hlast
    show _ = some (if c = 47 then cs.isEmpty || okL true cs else false)
    by_cases hc : c = 47
    · subst hc
      by_cases he : cs = []
      · subst he
        have : p = ByteArray.mk #[47] := bl_inj (by rw [hp]; rfl)
        rw [decide_eq_true this]
        rfl
      · have h1 : p ≠ ByteArray.mk #[47] := fun e => by
          rw [e] at hp
          have h2 : bl (ByteArray.mk #[47]) = [47] := rfl
          rw [h2] at hp
          exact he (List.cons.inj hp).2.symm
        have h3 : cs.isEmpty = false := by simpa using he
        have hst : F39_L0 p 0 = some (.nxt 1) := by
          have e : decide ((0 : Int) < (p.size : Int)) = true := by rw [decide_eq_true_eq]; omega
          simp only [F39_L0, e, cond_true, hs0, Option.bind_some, u47]
          rfl
        have hlp := f39_loop (p := p) (by omega) cs 1 47 (by rw [hp]; rfl) (by omega) (by omega) (by rw [hp]; rfl)
        have hok := okL_nb cs 47
        rw [show decide ((47 : UInt8) = 47) = true from rfl] at hok
        rw [decide_eq_false h1, decide_eq_false h2, cond_false, cond_false, hs0, Option.bind_some, if_pos rfl, h3, Bool.false_or, hok]
        have e5 : (((47 : UInt8).toNat : Int) != 47) = false := rfl
        rw [e5, Option.bind_some, cond_false, hs1, Option.bind_some, u47, Option.bind_some]
        cases decide ((47 :: cs).getLast (by simp) = 47) with
        | true => rfl
        | false =>
          rw [cond_false, whileM_nxt hst]
          have hlp' : whileM (F39_L0 p) 1 = _ := hlp
          rw [hlp']
          cases nb 47 cs <;> rfl
    · have h1 : p ≠ ByteArray.mk #[47] := fun e => by
        rw [e] at hp
        have h2 : bl (ByteArray.mk #[47]) = [47] := rfl
        rw [h2] at hp
        exact hc (List.cons.inj hp).1.symm
      have e5 : ((c.toNat : Int) != 47) = true := by rw [bne, u47, decide_eq_false hc]; rfl
      rw [decide_eq_false h1, decide_eq_false h2, cond_false, cond_false, hs0, Option.bind_some, e5, Option.bind_some, cond_true, if_neg hc]
      rfl
end Go.Proofs.YtadfgohglcglcaaDoor

namespace Go.Proofs.YtadfgohglcglcaaDoor
open Go Go.Bk
set_option linter.unusedVariables false
set_option linter.unusedSimpArgs false
theorem last_ex {p : ByteArray} {cs : List UInt8} (hp : bl p = 47 :: cs) (hs : p.size ≤ 9223372036854775807) : ∀ k, k < p.size → ∃ i, i ≤ k ∧ (bl p)[i]? = some 47 ∧ whileM (F55_L0 p 47) (k : Int) = some (.ret (i : Int)) ∧ whileM (F32_L0 p) (k : Int) = some (.brk (i : Int)) := by
  intro k
  induction k with
  | zero =>
    intro hk
    have hg : (bl p)[0]? = some 47 := by rw [hp]; rfl
    have e : decide (((0 : Nat) : Int) ≥ 0) = true := rfl
    refine ⟨0, Nat.le_refl _, hg, whileM_ret ?_, whileM_brk ?_⟩
    · simp only [F55_L0, e, cond_true, sidx_at hg, Option.bind_some]; rfl
    · simp only [F32_L0, sidx_at hg, Option.bind_some]; rfl
  | succ k ih =>
    intro hk
    have hl : k + 1 < (bl p).length := by rw [bl_len]; exact hk
    have hg : (bl p)[k + 1]? = some (bl p)[k + 1] := List.getElem?_eq_getElem hl
    have e : decide (((k + 1 : Nat) : Int) ≥ 0) = true := by rw [decide_eq_true_eq]; omega
    have hw : w64 (((k + 1 : Nat) : Int) - 1) = ((k : Nat) : Int) := by rw [w64_of (by omega) (by omega)]; omega
    generalize (bl p)[k + 1] = c at hg
    by_cases hc : c = 47
    · subst hc
      refine ⟨k + 1, Nat.le_refl _, hg, whileM_ret ?_, whileM_brk ?_⟩
      · simp only [F55_L0, e, cond_true, sidx_at hg, Option.bind_some]; rfl
      · simp only [F32_L0, sidx_at hg, Option.bind_some]; rfl
    · obtain ⟨i, h1, h2, h3, h4⟩ := ih (by omega)
      have hu := u47 c
      rw [decide_eq_false hc] at hu
      refine ⟨i, by omega, h2, ?_, ?_⟩
      · rw [whileM_nxt (s' := (k : Int)) ?_, h3]
        simp only [F55_L0, e, cond_true, sidx_at hg, Option.bind_some, hu, cond_false, hw]
      · rw [whileM_nxt (s' := (k : Int)) ?_, h4]
        have hu2 : ((c.toNat : Int) != 47) = true := by rw [bne, hu]; rfl
        simp only [F32_L0, sidx_at hg, Option.bind_some, hu2, cond_true, hw]
theorem name_cons {p : ByteArray} (h : nameB p = true) : ∃ cs, bl p = 47 :: cs := by
  unfold nameB at h
  cases hp : bl p with
  | nil => rw [hp] at h; cases h
  | cons c cs =>
    rw [hp] at h
    by_cases hc : c = 47
    · exact ⟨cs, by rw [hc]⟩
    · simp [hc] at h
/-- The parent, and the last part. -/
noncomputable def prt (p : ByteArray) : ByteArray × ByteArray := (F42 p).getD (ByteArray.empty, ByteArray.empty)
/-- A name as it may be. -/
structure OkN (p : ByteArray) : Prop where
  nm : nameB p = true
  sz : p.size ≤ 9223372036854775807
theorem prt_val {p : ByteArray} (h : OkN p) : F42 p = some (prt p) ∧ F32 p = some (prt p) := by
  have hb := h.sz
  obtain ⟨cs, hp⟩ := name_cons h.nm
  have hl : p.size = cs.length + 1 := by rw [← bl_len, hp]; rfl
  have hz : (0 : Int) < (p.size : Int) := by omega
  obtain ⟨i, h1, h2, h3, h4⟩ := last_ex hp (by omega) (p.size - 1) (by omega)
  have hs : w64 ((p.size : Int) - 1) = ((p.size - 1 : Nat) : Int) := by rw [w64_of (by omega) (by omega)]; omega
  have hi : i < p.size := by omega
  have hi1 : w64 ((i : Int) + 1) = ((i + 1 : Nat) : Int) := w64_succ hi (by omega)
  have hx5 : sslc p ((i + 1 : Nat) : Int) (p.size : Int) = some (p.extract (i + 1) p.size) := sslc_at (by omega) (by omega)
  have key : ∃ r, F42 p = some r ∧ F32 p = some r := by
    unfold F42 F49 F55 F32
    rw [hs, h3, h4]
    simp only [Option.bind_some, Ctl.on, hi1, hx5]
    by_cases c : i = 0
    · subst c
      have e0 : (((0 : Nat) : Int) == 0) = true := rfl
      have e1 : mx ((0 : Nat) : Int) 1 = ((1 : Nat) : Int) := rfl
      have e2 : sslc p 0 ((1 : Nat) : Int) = some (p.extract 0 1) := sslc_at (a := 0) (by omega) (by omega)
      have e3 : sslc p 1 (p.size : Int) = some (p.extract 1 p.size) := sslc_at (a := 1) (by omega) (by omega)
      have e4 : p.extract 0 1 = ByteArray.mk #[47] := by apply bl_inj; rw [bl_extract, hp]; rfl
      rw [e0, e1, e2, e3, e4]
      exact ⟨_, rfl, rfl⟩
    · have e0 : ((i : Int) == 0) = false := by rw [beq_eq_false_iff_ne]; omega
      have e1 : mx (i : Int) 1 = (i : Int) := by unfold mx; split <;> omega
      have e2 : sslc p 0 (i : Int) = some (p.extract 0 i) := sslc_at (a := 0) (by omega) (by omega)
      rw [e0, e1, e2]
      exact ⟨_, rfl, rfl⟩
  obtain ⟨r, k1, k2⟩ := key
  have : prt p = r := by unfold prt; rw [k1]; rfl
  rw [this]
  exact ⟨k1, k2⟩

/-! Sorting. -/
theorem sLt_iff (x y : ByteArray) : sLt x y = decide (bl x < bl y) := by
  unfold sLt
  rw [ByteArray.toList_eq, ByteArray.toList_eq]
  exact Go.Proofs.bytesLess_eq _ _
def insD (x : ByteArray) : List ByteArray → List ByteArray
  | [] => [x]
  | z :: rs => if sLt x z = true then z :: insD x rs else x :: z :: rs
theorem insD_perm (x : ByteArray) : ∀ rs, (insD x rs).Perm (x :: rs)
  | [] => List.Perm.refl _
  | z :: rs => by
    unfold insD
    split
    · exact ((insD_perm x rs).cons z).trans (List.Perm.swap x z rs)
    · exact List.Perm.refl _
def Dsc (rs : List ByteArray) : Prop := rs.Pairwise fun a b => bl b ≤ bl a
theorem insD_dsc {x : ByteArray} : ∀ {rs : List ByteArray}, Dsc rs → Dsc (insD x rs)
  | [], _ => List.pairwise_singleton _ _
  | z :: rs, h => by
    obtain ⟨h1, h2⟩ := List.pairwise_cons.1 h
    unfold insD
    split
    · rename_i c
      rw [sLt_iff, decide_eq_true_eq] at c
      refine List.pairwise_cons.2 ⟨fun y hy => ?_, insD_dsc h2⟩
      rcases List.mem_cons.1 ((insD_perm x rs).mem_iff.1 hy) with rfl | hy
      · exact List.le_of_lt c
      · exact h1 y hy
    · rename_i c
      rw [sLt_iff, decide_eq_true_eq] at c
      have hz : bl z ≤ bl x := List.not_lt.1 c
      refine List.pairwise_cons.2 ⟨fun y hy => ?_, h⟩
      rcases List.mem_cons.1 hy with rfl | hy
      · exact hz
      · exact List.le_trans (h1 y hy) hz
theorem dsc_sorted {rs c : List ByteArray} (h : Dsc rs) (hp : rs.Perm c) : rs.reverse = sortedS c := by
  unfold sortedS
  have tr : ∀ a b c : List UInt8, decide (a ≤ b) = true → decide (b ≤ c) = true → decide (a ≤ c) = true := fun a b c h1 h2 => by simp only [decide_eq_true_eq] at *; exact List.le_trans h1 h2
  have to : ∀ a b : List UInt8, (decide (a ≤ b) || decide (b ≤ a)) = true := fun a b => by simp only [Bool.or_eq_true, decide_eq_true_eq]; exact List.le_total a b
  have e : (rs.reverse).map bl = (c.map bl).mergeSort fun x y => decide (x ≤ y) := by
    refine List.Perm.eq_of_pairwise (le := fun a b => decide (a ≤ b) = true) (fun a b _ _ h1 h2 => ?_) ?_ (List.pairwise_mergeSort tr to _) ((((List.reverse_perm rs).trans hp).map bl).trans (List.mergeSort_perm _ _).symm)
    · simp only [decide_eq_true_eq] at h1 h2
      exact List.le_antisymm h1 h2
    · rw [List.pairwise_map, List.pairwise_reverse]
      exact h.imp fun q => by rw [decide_eq_true_eq]; exact q
  rw [← e, List.map_map]
  have : (lb ∘ bl) = id := funext lb_bl
  rw [this, List.map_id]
theorem f41_l2 : ∀ (rp : List ByteArray) (x : ByteArray) (tl : List ByteArray), rp.length ≤ 1000 → whileM F41_L2 (rp.reverse ++ x :: tl, (rp.length : Int)) = some (.brk ((insD x rp).reverse ++ tl))
  | [], x, tl, h => by
    refine whileM_brk ?_
    have e : decide ((([] : List ByteArray).length : Int) > 0) = false := rfl
    simp only [F41_L2, e, cond_false, Option.bind_some]
    rfl
  | z :: rs, x, tl, h => by
    have hl : rs.length ≤ 1000 := by simp at h; omega
    have e : decide ((((z :: rs).length : Nat) : Int) > 0) = true := by rw [decide_eq_true_eq]; simp
    have hy : (z :: rs).reverse ++ x :: tl = rs.reverse ++ z :: x :: tl := by simp
    have hn : (z :: rs).length = rs.length + 1 := rfl
    have i1 : idx (rs.reverse ++ z :: x :: tl) ((rs.length + 1 : Nat) : Int) = some x := idx_some (by rw [List.getElem?_append_right (by simp)]; simp)
    have i2 : idx (rs.reverse ++ z :: x :: tl) ((rs.length : Nat) : Int) = some z := idx_some (by rw [List.getElem?_append_right (by simp)]; simp)
    have hw : w64 (((rs.length + 1 : Nat) : Int) - 1) = ((rs.length : Nat) : Int) := by rw [w64_of (by omega) (by omega)]; omega
    rw [hy, hn]
    unfold insD
    have hb : F41_L2 (rs.reverse ++ z :: x :: tl, ((rs.length + 1 : Nat) : Int)) = (if sLt x z = true then some (.nxt (rs.reverse ++ x :: z :: tl, (rs.length : Int))) else some (.brk (rs.reverse ++ z :: x :: tl))) := by
      rw [hn] at e
      simp only [F41_L2, e, cond_true, i1, i2, hw, Option.bind_some]
      cases c : sLt x z with
      | false => rfl
      | true =>
        have s1 : (rs.reverse ++ z :: x :: tl).set (rs.length + 1) z = rs.reverse ++ z :: z :: tl := by
          rw [List.set_append, if_neg (by simp)]; simp
        have s2 : (rs.reverse ++ z :: z :: tl).set rs.length x = rs.reverse ++ x :: z :: tl := by
          rw [List.set_append]; simp
        have i3 : idx (rs.reverse ++ z :: z :: tl) ((rs.length : Nat) : Int) = some z := idx_some (by rw [List.getElem?_append_right (by simp)]; simp)
        simp only [cond_true, Int.toNat_natCast, s1, i3, s2, Option.bind_some, if_true]
    by_cases c : sLt x z = true
    · rw [if_pos c] at hb
      rw [whileM_nxt hb, f41_l2 rs x (z :: tl) hl, if_pos c]
      simp
    · rw [if_neg c] at hb
      rw [whileM_brk hb, if_neg c]
      simp
def dsc (c : List ByteArray) : List ByteArray := c.foldl (fun rs x => insD x rs) []
theorem dsc_snoc (c : List ByteArray) (x : ByteArray) : dsc (c ++ [x]) = insD x (dsc c) := by unfold dsc; rw [List.foldl_append]; rfl
theorem dsc_fold : ∀ (c rs : List ByteArray), Dsc rs → Dsc (c.foldl (fun rs x => insD x rs) rs) ∧ (c.foldl (fun rs x => insD x rs) rs).Perm (c ++ rs)
  | [], rs, h => ⟨h, List.Perm.refl _⟩
  | x :: c, rs, h => by
    obtain ⟨h1, h2⟩ := dsc_fold c (insD x rs) (insD_dsc h)
    refine ⟨h1, h2.trans ?_⟩
    exact ((insD_perm x rs).append_left c).trans List.perm_middle
theorem dsc_ok (c : List ByteArray) : Dsc (dsc c) ∧ (dsc c).Perm c := by
  have := dsc_fold c [] List.Pairwise.nil
  rwa [List.append_nil] at this
theorem f41_sort {c : List ByteArray} (hl : c.length ≤ 1000) : whileM F41_L1 (c, 1) = some (.brk (sortedS c)) := by
  have hfin : (dsc c).reverse = sortedS c := dsc_sorted (dsc_ok c).1 (dsc_ok c).2
  by_cases h0 : c = []
  · subst h0
    refine whileM_brk ?_
    have e : decide ((1 : Int) < ((([] : List ByteArray).length : Nat) : Int)) = false := rfl
    simp only [F41_L1, e, cond_false]
    rw [← hfin]; rfl
  · have h1 : 0 < c.length := List.length_pos_iff.2 h0
    have hst : ((fun (k : Nat) => ((dsc (c.take (k + 1))).reverse ++ c.drop (k + 1), ((k + 1 : Nat) : Int))) 0) = (c, 1) := by
      match c, h0 with
      | x :: cs, _ => simp [dsc, insD]
    rw [← hst]
    refine while_upto (fun (k : Nat) => ((dsc (c.take (k + 1))).reverse ++ c.drop (k + 1), ((k + 1 : Nat) : Int))) (c.length - 1) (fun k hk => ?_) ?_ (fun s h => by cases h)
    · have hlen : ((dsc (c.take (k + 1))).reverse ++ c.drop (k + 1)).length = c.length := by
        rw [List.length_append, List.length_reverse, (dsc_ok _).2.length_eq, List.length_take, List.length_drop]; omega
      have e : decide (((k + 1 : Nat) : Int) < ((((dsc (c.take (k + 1))).reverse ++ c.drop (k + 1)).length : Nat) : Int)) = true := by rw [hlen, decide_eq_true_eq]; omega
      have hd : c.drop (k + 1) = c[k + 1] :: c.drop (k + 1 + 1) := (List.getElem_cons_drop (by omega)).symm
      have hn : ((dsc (c.take (k + 1))).length : Int) = ((k + 1 : Nat) : Int) := by rw [(dsc_ok _).2.length_eq, List.length_take]; omega
      have hin := f41_l2 (dsc (c.take (k + 1))) c[k + 1] (c.drop (k + 1 + 1)) (by rw [(dsc_ok _).2.length_eq, List.length_take]; omega)
      rw [hn, ← hd] at hin
      have ht : c.take (k + 1 + 1) = c.take (k + 1) ++ [c[k + 1]] := by rw [List.take_add_one, List.getElem?_eq_getElem (by omega)]; rfl
      have hw : w64 (((k + 1 : Nat) : Int) + 1) = ((k + 1 + 1 : Nat) : Int) := w64_succ (n := c.length) (by omega) (by omega)
      simp only [F41_L1, e, cond_true, hin, Option.bind_some, Ctl.on, hw, ht, dsc_snoc]
    · have hlen : ((dsc (c.take (c.length - 1 + 1))).reverse ++ c.drop (c.length - 1 + 1)) = (dsc c).reverse := by
        rw [Nat.sub_add_cancel h1, List.take_length, List.drop_length, List.append_nil]
      have e : decide (((c.length - 1 + 1 : Nat) : Int) < (((dsc c).reverse.length : Nat) : Int)) = false := by
        rw [List.length_reverse, (dsc_ok _).2.length_eq, decide_eq_false_iff_not]; omega
      rw [hfin] at e hlen
      simp only [hlen, F41_L1, e, cond_false]
end Go.Proofs.YtadfgohglcglcaaDoor

namespace Go.Proofs.YtadfgohglcglcaaDoor
open Go Go.Bk
set_option linter.unusedVariables false
set_option linter.unusedSimpArgs false
abbrev Nd := ByteArray × ByteArray × Int
abbrev Mp := ByteArray → Option (ByteArray × Int)
abbrev Tl := Int × ByteArray × Int × List ByteArray
abbrev Dd := Int × ByteArray × ByteArray × Int
/-- The program's tree and the reference's. -/
structure R (M : Mp) (l : List Nd) : Prop where
  en : Enum M l
  nm : ∀ x ∈ l, OkN x.1
  len : l.length ≤ 12
theorem R.mem {M : Mp} {l : List Nd} (h : R M l) {p : ByteArray} {v : ByteArray × Int} : M p = some v ↔ (p, v) ∈ l := (h.en.2 p v).symm
theorem R.absent {M : Mp} {l : List Nd} (h : R M l) {p : ByteArray} : M p = none ↔ ∀ x ∈ l, x.1 ≠ p := by
  constructor
  · intro hp x hx e
    have := h.mem.2 (show (x.1, x.2) ∈ l from hx)
    rw [e, hp] at this; cases this
  · intro hx
    cases hp : M p with
    | none => rfl
    | some v => exact (hx _ (h.mem.1 hp) rfl).elim
/-- Where a name stands. -/
theorem f40_val {l : List Nd} (hl : l.length ≤ 1000) (p : ByteArray) : F40 l p = some (match scan (fun k (x : Nd) => if x.1 = p then some (k : Int) else none) l 0 with
    | some i => i
    | none => -1) := by
  have h : whileM (F40_L0 l p) 0 = some (found () (scan (fun k (x : Nd) => if x.1 = p then some (k : Int) else none) l 0)) := by
    refine while_scan (by omega) _ (fun k e hk => ?_) (by simp [F40_L0])
    have hlt := lt_of_get hk
    have hd : decide ((k : Int) < (l.length : Int)) = true := by simpa using hlt
    simp only [F40_L0, hd, cond_true, idx_some hk, Option.bind_some, sEq_iff]
    by_cases c : e.1 = p
    · simp [c, going]
    · simp [c, going]
  unfold F40
  rw [h]
  cases scan (fun k (x : Nd) => if x.1 = p then some (k : Int) else none) l 0 <;> rfl
theorem where_some {M : Mp} {l : List Nd} (h : R M l) {p : ByteArray} {v : ByteArray × Int} (hp : M p = some v) : ∃ i : Nat, i < l.length ∧ l[i]? = some (p, v) ∧ F40 l p = some (i : Int) := by
  rw [f40_val (by have := h.len; omega)]
  cases hs : scan (fun k (x : Nd) => if x.1 = p then some (k : Int) else none) l 0 with
  | none =>
    exfalso
    have hm := h.mem.1 hp
    obtain ⟨i, hi⟩ := List.getElem?_of_mem hm
    have := scan_none.1 hs i _ hi
    simp at this
  | some r =>
    obtain ⟨i, e, hi, hv⟩ := scan_val hs
    by_cases c : e.1 = p
    · simp [c] at hv
      subst hv
      have h2 := h.mem.2 (show (e.1, e.2) ∈ l from List.mem_of_getElem? hi)
      rw [c, hp] at h2
      have h3 : v = e.2 := Option.some.inj h2
      refine ⟨i, lt_of_get hi, ?_, rfl⟩
      rw [hi, h3, ← c]
    · simp [c] at hv
theorem where_none {M : Mp} {l : List Nd} (h : R M l) {p : ByteArray} (hp : M p = none) : F40 l p = some (-1) := by
  rw [f40_val (by have := h.len; omega)]
  have : scan (fun k (x : Nd) => if x.1 = p then some (k : Int) else none) l 0 = none := scan_none.2 fun i e hi => by
    have := h.absent.1 hp e (List.mem_of_getElem? hi)
    simp [this]
  rw [this]
/-- What stands below. -/
noncomputable def pick (path : ByteArray) (x : Nd) : Option ByteArray := if (prt x.1).1 = path ∧ x.1 ≠ ByteArray.mk #[47] then some (prt x.1).2 else none
theorem app16 (l : List ByteArray) (z : ByteArray) (h : l.length ≤ 1000) : appl 16 l [z] = some (l ++ [z]) := by
  unfold appl; rw [if_pos]; simp; omega
theorem pick_len (path : ByteArray) (l : List Nd) : (l.filterMap (pick path)).length ≤ l.length := List.length_filterMap_le _ _
theorem f37_fold (path : ByteArray) : ∀ (q : List Nd) (y : List ByteArray), (∀ x ∈ q, OkN x.1) → y.length + q.length ≤ 1000 → foldR (F37_L0 path) q y = some (.nxt (y ++ q.filterMap (pick path)))
  | [], y, _, _ => by simp [foldR]
  | x :: q, y, hn, hl => by
    have hx := prt_val (hn x (List.mem_cons_self ..))
    have hl' : y.length + (q.length + 1) ≤ 1000 := hl
    rw [foldR_cons]
    have hb : F37_L0 path x.1 x.2 y = some (.nxt (match pick path x with
        | some z => y ++ [z]
        | none => y)) := by
      unfold F37_L0 pick
      rw [hx.1]
      simp only [Option.bind_some, sEq_iff]
      by_cases c1 : (prt x.1).1 = path <;> by_cases c2 : x.1 = ByteArray.mk #[47] <;> simp [c1, c2, app16 y _ (by omega)]
    rw [hb]
    simp only []
    rw [f37_fold path q _ (fun z hz => hn z (List.mem_cons_of_mem _ hz)) (by cases pick path x <;> simp <;> omega)]
    rw [List.filterMap_cons]
    cases pick path x <;> simp
theorem f37_val {M : Mp} {l : List Nd} (h : R M l) (path : ByteArray) : F37 M path = some (sortedS (l.filterMap (pick path)), M) := by
  have hl := h.len
  have hall : ∀ q, Enum M q → ∃ t, foldR (F37_L0 path) q [] = some (.nxt t) ∧ t.Perm (l.filterMap (pick path)) := fun q hq => by
    have hp := Enum.perm hq h.en
    refine ⟨q.filterMap (pick path), ?_, hp.filterMap _⟩
    have := f37_fold path q [] (fun x hx => h.nm x (hp.mem_iff.1 hx)) (by rw [hp.length_eq]; simp; omega)
    simpa using this
  obtain ⟨c, hc⟩ := rangeQ_of (R := List.Perm) (ρ := Unit) (β := Unit) ⟨l, h.en⟩ hall
  obtain ⟨_, hc2⟩ := rangeQ_spec hc
  obtain ⟨t, ht, htc⟩ := hc2 l h.en
  obtain ⟨t', ht', htl⟩ := hall l h.en
  rw [ht] at ht'
  obtain rfl : t = t' := by simpa using ht'
  have hcl : c.Perm (l.filterMap (pick path)) := htc.symm.trans htl
  unfold F37
  rw [hc, Option.bind_some]
  refine permK_of fun z hz => ?_
  have hzl : z.Perm (l.filterMap (pick path)) := hz.trans hcl
  have hlen : z.length < 4611686018427387904 := by rw [hzl.length_eq]; have := pick_len path l; omega
  unfold srtS
  rw [if_pos hlen, Option.bind_some, sortedS_perm hzl]
theorem f41_val {M : Mp} {l : List Nd} (h : R M l) (path : ByteArray) : F41 l path = some (sortedS (l.filterMap (pick path))) := by
  have hl := h.len
  have hw : whileM (F41_L0 l path) ([], 0) = some (.brk (l.filterMap (pick path))) := by
    have hst : ((fun (k : Nat) => ((l.take k).filterMap (pick path), (k : Int))) 0) = ([], 0) := rfl
    rw [← hst]
    refine while_upto (fun (k : Nat) => ((l.take k).filterMap (pick path), (k : Int))) l.length (fun k hk => ?_) ?_ (fun s h => by cases h)
    · have hg : l[k]? = some l[k] := List.getElem?_eq_getElem hk
      have ht : l.take (k + 1) = l.take k ++ [l[k]] := by rw [List.take_add_one, hg]; rfl
      have hx := prt_val (h.nm _ (List.getElem_mem hk))
      have hd : decide ((k : Int) < (l.length : Int)) = true := by simpa using hk
      have hpl : ((l.take k).filterMap (pick path)).length ≤ 1000 := by have := pick_len path (l.take k); rw [List.length_take] at this; omega
      rw [ht, List.filterMap_append]
      generalize l[k] = x at hg hx
      generalize (l.take k).filterMap (pick path) = Y at hpl
      simp only [F41_L0, hd, cond_true, idx_some hg, Option.bind_some, sEq_iff, w64_succ hk (show l.length ≤ 9223372036854775807 by omega), hx.2]
      unfold pick
      by_cases c2 : x.1 = ByteArray.mk #[47]
      · simp [c2]
      · by_cases c1 : (prt x.1).1 = path
        · simp [c1, c2]
          rw [app16 _ _ hpl]
          rfl
        · simp [c1, c2]
    · have hd : decide ((l.length : Int) < (l.length : Int)) = false := by simp
      simp only [F41_L0, hd, cond_false, List.take_length]
  unfold F41
  rw [hw]
  simp only [Option.bind_some, Ctl.on]
  rw [f41_sort (by have := pick_len path l; omega)]
  rfl
end Go.Proofs.YtadfgohglcglcaaDoor

namespace Go.Proofs.YtadfgohglcglcaaDoor
open Go Go.Bk
set_option linter.unusedVariables false
set_option linter.unusedSimpArgs false
theorem R.idx {M : Mp} {l : List Nd} (h : R M l) {i j : Nat} {a b : Nd} (ha : l[i]? = some a) (hb : l[j]? = some b) (e : a.1 = b.1) : i = j := by
  have hn := h.en.1
  have h1 : (l.map (·.1))[i]? = some a.1 := by rw [List.getElem?_map, ha]; rfl
  have h2 : (l.map (·.1))[j]? = some a.1 := by rw [List.getElem?_map, hb, e]; rfl
  obtain ⟨l1, e1⟩ := List.getElem?_eq_some_iff.1 h1
  obtain ⟨l2, e2⟩ := List.getElem?_eq_some_iff.1 h2
  rcases Nat.lt_trichotomy i j with q | q | q
  · exact (List.pairwise_iff_getElem.1 hn i j l1 l2 q (e1.trans e2.symm)).elim
  · exact q
  · exact (List.pairwise_iff_getElem.1 hn j i l2 l1 q (e2.trans e1.symm)).elim
theorem R.add {M : Mp} {l : List Nd} (h : R M l) {p : ByteArray} {v : ByteArray × Int} (hp : M p = none) (hn : OkN p) (hl : l.length < 12) : R (mupd M p v) (l ++ [(p, v)]) := by
  have hx := h.absent.1 hp
  refine ⟨⟨?_, fun k w => ?_⟩, fun x hx' => ?_, by simp; omega⟩
  · rw [List.map_append, List.nodup_append]
    refine ⟨h.en.1, by simp, fun a ha b hb e => ?_⟩
    obtain ⟨x, hx1, rfl⟩ := List.mem_map.1 ha
    simp at hb
    exact hx x hx1 (by rw [e, hb])
  · rw [List.mem_append, List.mem_singleton, h.en.2]
    unfold mupd
    by_cases c : k = p
    · subst c
      rw [hp]; simp [eq_comm]
    · simp [c]
  · rcases List.mem_append.1 hx' with q | q
    · exact h.nm x q
    · rw [List.mem_singleton] at q; rw [q]; exact hn
theorem R.del {M : Mp} {l : List Nd} (h : R M l) {i : Nat} {p : ByteArray} {v : ByteArray × Int} (hi : l[i]? = some (p, v)) : R (mdel M p) (l.take i ++ l.drop (i + 1)) := by
  rw [← List.eraseIdx_eq_take_drop_succ]
  have hs := List.eraseIdx_sublist l i
  refine ⟨⟨(hs.map _).nodup h.en.1, fun k w => ?_⟩, fun x hx => h.nm x (hs.subset hx), Nat.le_trans hs.length_le h.len⟩
  rw [List.mem_eraseIdx_iff_getElem?]
  unfold mdel
  constructor
  · rintro ⟨j, hj, hg⟩
    have hm := h.mem.2 (List.mem_of_getElem? hg)
    have : k ≠ p := fun e => hj (h.idx hg hi e)
    rw [if_neg this]; exact hm
  · intro hk
    by_cases c : k = p
    · rw [if_pos c] at hk; cases hk
    · rw [if_neg c] at hk
      obtain ⟨j, hj⟩ := List.getElem?_of_mem (h.mem.1 hk)
      refine ⟨j, fun e => ?_, hj⟩
      subst e
      rw [hi] at hj
      exact c (Prod.mk.inj (Option.some.inj hj)).1.symm
theorem R.set {M : Mp} {l : List Nd} (h : R M l) {i : Nat} {p : ByteArray} {v w : ByteArray × Int} (hi : l[i]? = some (p, v)) : R (mupd M p w) (l.set i (p, w)) := by
  have hil := lt_of_get hi
  have hk : (l.set i (p, w)).map (·.1) = l.map (·.1) := by
    apply List.ext_getElem?
    intro j
    rw [List.getElem?_map, List.getElem?_map, List.getElem?_set]
    by_cases c : i = j
    · subst c; rw [hi]; simp [hil]
    · simp [c]
  have hm : ∀ k u, (k, u) ∈ l.set i (p, w) ↔ mupd M p w k = some u := fun k u => by
    unfold mupd
    constructor
    · intro hx
      obtain ⟨j, hj⟩ := List.getElem?_of_mem hx
      rw [List.getElem?_set] at hj
      by_cases c : i = j
      · subst c
        simp [hil] at hj
        simp [hj.1, hj.2]
      · simp [c] at hj
        have : k ≠ p := fun e => c (h.idx hi hj (by simp [e]))
        rw [if_neg this]; exact h.mem.2 (List.mem_of_getElem? hj)
    · intro hk
      by_cases c : k = p
      · rw [if_pos c] at hk
        obtain rfl := Option.some.inj hk
        refine List.mem_of_getElem? (i := i) ?_
        rw [List.getElem?_set_self hil, c]
      · rw [if_neg c] at hk
        obtain ⟨j, hj⟩ := List.getElem?_of_mem (h.mem.1 hk)
        refine List.mem_of_getElem? (i := j) ?_
        have : i ≠ j := fun e => by
          subst e
          rw [hi] at hj
          exact c (Prod.mk.inj (Option.some.inj hj)).1.symm
        rw [List.getElem?_set_ne this, hj]
  refine ⟨⟨by rw [hk]; exact h.en.1, hm⟩, fun x hx => ?_, by rw [List.length_set]; exact h.len⟩
  obtain ⟨j, hj⟩ := List.getElem?_of_mem hx
  rw [List.getElem?_set] at hj
  by_cases c : i = j
  · subst c
    simp [hil] at hj
    rw [← hj]
    show OkN p
    exact h.nm (p, v) (List.mem_of_getElem? hi)
  · simp [c] at hj
    exact h.nm _ (List.mem_of_getElem? hj)
theorem f38_val (c : Int) (l : List Nd) : F38 c l = some (c, ByteArray.empty, 0, []) := rfl
theorem app40 (l m : List Nd) (h : l.length + m.length ≤ 1000) : appl 40 l m = some (l ++ m) := by
  unfold appl; rw [if_pos]; omega
/-- The same answer, and trees that go together. -/
def Same (x : Option (Tl × Mp)) (y : Option (List Nd × Tl)) : Prop := ∃ t M l, x = some (t, M) ∧ y = some (l, t) ∧ R M l ∧ t.2.2.2.length ≤ 12
theorem deed {M : Mp} {l : List Nd} (h : R M l) (d : Dd) (hd : d.2.1.size ≤ 9223372036854775807) : Same (F29 M d) (F30 l d) := by
  obtain ⟨k, path, data, ver⟩ := d
  have hlen := h.len
  have hml : mlen M = l.length := mlen_of h.en
  have hd' : path.size ≤ 9223372036854775807 := hd
  have n1 := f35_val (p := path) (by omega)
  have n2 := f39_val (p := path) (by omega)
  unfold F29 F30
  simp only [f38_val, Option.bind_some, n1, n2]
  by_cases ck : k < 1 ∨ k > 5
  · have : (decide (k < 1) || decide (k > 5)) = true := by simpa using ck
    simp only [this, cond_true]
    exact ⟨_, _, _, rfl, rfl, h, Nat.zero_le _⟩
  have ck' : (decide (k < 1) || decide (k > 5)) = false := by simp; omega
  simp only [ck', cond_false]
  cases cn : nameB path with
  | false => exact ⟨_, _, _, rfl, rfl, h, Nat.zero_le _⟩
  | true =>
  have hn : OkN path := ⟨cn, hd'⟩
  have hp := prt_val hn
  simp only [Bool.not_true, cond_false]
  cases cl : (((k == 1) || (k == 2)) && (decide ((data.size : Int) > 20))) with
  | true => exact ⟨_, _, _, rfl, rfl, h, Nat.zero_le _⟩
  | false =>
  simp only [cond_false]
  have f37 := f37_val h path
  have f41 := f41_val h path
  have hbl : (sortedS (l.filterMap (pick path))).length ≤ 12 := by rw [sortedS_len]; have := pick_len path l; omega
  generalize hbelow : sortedS (l.filterMap (pick path)) = bel at f37 f41 hbl
  have hc : k = 1 ∨ k = 2 ∨ k = 3 ∨ k = 4 ∨ k = 5 := by omega
  cases hM : M path with
  | none =>
    have hw := where_none h hM
    have e0 : decide ((-1 : Int) ≥ 0) = false := rfl
    have e1 : decide ((-1 : Int) < 0) = true := rfl
    simp only [hw, Option.bind_some, e0, e1, cond_false, cond_true, hM, Option.isSome_none, Bool.not_false]
    rcases hc with rfl | rfl | rfl | rfl | rfl
    · -- make
      unfold F36
      simp only [hM, Option.isSome_none, cond_false, hp.1, hp.2, Option.bind_some]
      cases hu : M (prt path).1 with
      | none =>
        have hw2 := where_none h hu
        simp only [hw2, Option.bind_some, e1, cond_true, Option.isSome_none, Bool.not_false]
        exact ⟨_, _, _, rfl, rfl, h, Nat.zero_le _⟩
      | some v =>
        obtain ⟨i, hi, hg, hw2⟩ := where_some h hu
        have e2 : decide ((i : Int) < 0) = false := by simp
        simp only [hw2, Option.bind_some, e2, cond_false, Option.isSome_some, Bool.not_true, hml]
        by_cases cf : l.length ≥ 12
        · have e3 : decide ((l.length : Int) ≥ 12) = true := by rw [decide_eq_true_eq]; omega
          simp only [e3, cond_true]
          exact ⟨_, _, _, rfl, rfl, h, Nat.zero_le _⟩
        · have e3 : decide ((l.length : Int) ≥ 12) = false := by rw [decide_eq_false_iff_not]; omega
          simp only [e3, cond_false, app40 [] l (by simp; omega), List.nil_append, Option.bind_some, app40 l [(path, data, 0)] (by simp; omega)]
          exact ⟨_, _, _, rfl, rfl, h.add hM hn (by omega), Nat.zero_le _⟩
    · exact ⟨_, _, _, rfl, rfl, h, Nat.zero_le _⟩
    · simp only [sEq_iff]
      cases decide (path = ByteArray.mk #[47]) <;> exact ⟨_, _, _, rfl, rfl, h, Nat.zero_le _⟩
    · exact ⟨_, _, _, rfl, rfl, h, Nat.zero_le _⟩
    · exact ⟨_, _, _, rfl, rfl, h, Nat.zero_le _⟩
  | some v =>
    obtain ⟨i, hi, hg, hw⟩ := where_some h hM
    obtain ⟨dat, vs⟩ := v
    have e0 : decide ((i : Int) ≥ 0) = true := by simp
    have e1 : decide ((i : Int) < 0) = false := by simp
    have hix : idx l (i : Int) = some (path, dat, vs) := idx_some hg
    simp only [hw, Option.bind_some, e0, e1, cond_false, cond_true, hM, Option.isSome_some, Bool.not_true, Option.getD_some, hix, f37, f41]
    rcases hc with rfl | rfl | rfl | rfl | rfl
    · unfold F36
      simp only [hM, Option.isSome_some, cond_true]
      exact ⟨_, _, _, rfl, rfl, h, Nat.zero_le _⟩
    · -- set
      have hb : (Option.bind (cond (decide (ver ≥ 0)) (some (ver != vs)) (some false)) fun b82 => some b82) = some (decide (ver ≥ 0) && (ver != vs)) := by cases decide (ver ≥ 0) <;> rfl
      have hb2 : cond (decide (ver ≥ 0)) (some (ver != vs)) (some false) = some (decide (ver ≥ 0) && (ver != vs)) := by cases decide (ver ≥ 0) <;> rfl
      simp only [hb2, Option.bind_some]
      cases cv : (decide (ver ≥ 0) && (ver != vs)) with
      | true => exact ⟨_, _, _, rfl, rfl, h, Nat.zero_le _⟩
      | false =>
        have i2 : idx (l.set i (path, data, vs)) (i : Int) = some (path, data, vs) := idx_some (List.getElem?_set_self hi)
        have i3 : idx ((l.set i (path, data, vs)).set i (path, data, w64 (vs + 1))) (i : Int) = some (path, data, w64 (vs + 1)) := idx_some (List.getElem?_set_self (by rw [List.length_set]; exact hi))
        simp only [cond_false, app40 [] l (by simp; omega), List.nil_append, Option.bind_some, hix, Int.toNat_natCast, i2, i3]
        refine ⟨_, _, _, rfl, rfl, ?_, Nat.zero_le _⟩
        rw [List.set_set]
        exact h.set hg
    · -- drop
      have hb2 : cond (decide (ver ≥ 0)) (some (ver != vs)) (some false) = some (decide (ver ≥ 0) && (ver != vs)) := by cases decide (ver ≥ 0) <;> rfl
      simp only [hb2, Option.bind_some, sEq_iff]
      cases decide (path = ByteArray.mk #[47]) with
      | true => exact ⟨_, _, _, rfl, rfl, h, Nat.zero_le _⟩
      | false =>
        cases cv : (decide (ver ≥ 0) && (ver != vs)) with
        | true => exact ⟨_, _, _, rfl, rfl, h, Nat.zero_le _⟩
        | false =>
          cases cb : decide ((bel.length : Int) > 0) with
          | true => exact ⟨_, _, _, rfl, rfl, h, Nat.zero_le _⟩
          | false =>
            have s1 : slI l 0 (i : Int) = some (l.take i) := slI_take hi
            have hw1 : w64 ((i : Int) + 1) = ((i + 1 : Nat) : Int) := w64_succ hi (by omega)
            have s2 : slI l ((i + 1 : Nat) : Int) (l.length : Int) = some (l.drop (i + 1)) := by
              unfold slI
              rw [if_pos ⟨by omega, by omega, by omega⟩]
              simp
            simp only [s1, hw1, s2, Option.bind_some, app40 [] (l.take i) (by simp; omega), List.nil_append, app40 (l.take i) (l.drop (i + 1)) (by simp; omega)]
            exact ⟨_, _, _, rfl, rfl, h.del hg, Nat.zero_le _⟩
    · exact ⟨_, _, _, rfl, rfl, h, Nat.zero_le _⟩
    · exact ⟨_, _, _, rfl, rfl, h, hbl⟩
end Go.Proofs.YtadfgohglcglcaaDoor

namespace Go.Proofs.YtadfgohglcglcaaDoor
open Go Go.Bk
set_option linter.unusedVariables false
set_option linter.unusedSimpArgs false
theorem sEq_self (x : ByteArray) : sEq x x = true := by rw [sEq_iff]; simp
theorem f16_self (t : Tl) (h : t.2.2.2.length ≤ 12) : F16 t t = some true := by
  have hw : whileM (F16_L0 t t) 0 = some (.brk ()) := by
    refine while_upto (fun (k : Nat) => (k : Int)) t.2.2.2.length (fun k hk => ?_) ?_ (fun s h => by cases h)
    · have hd : decide ((k : Int) < (t.2.2.2.length : Int)) = true := by simpa using hk
      simp only [F16_L0, hd, cond_true, idx_some (List.getElem?_eq_getElem hk), Option.bind_some, sEq_self, Bool.not_true, cond_false, w64_succ hk (show t.2.2.2.length ≤ 9223372036854775807 by omega)]
    · have hd : decide ((t.2.2.2.length : Int) < (t.2.2.2.length : Int)) = false := by simp
      simp only [F16_L0, hd, cond_false]
  have e : (((((t.1 != t.1) || (!sEq t.2.1 t.2.1)) || (t.2.2.1 != t.2.2.1)) || ((t.2.2.2.length : Int) != (t.2.2.2.length : Int)))) = false := by simp [sEq_self]
  unfold F16
  rw [e, cond_false, hw]
  rfl
theorem f13_self (ts : List Tl) (hl : ts.length ≤ 1000) (h : ∀ t ∈ ts, t.2.2.2.length ≤ 12) : F13 ts ts = some true := by
  have hw : whileM (F13_L0 ts ts) 0 = some (.brk ()) := by
    refine while_upto (fun (k : Nat) => (k : Int)) ts.length (fun k hk => ?_) ?_ (fun s h => by cases h)
    · have hd : decide ((k : Int) < (ts.length : Int)) = true := by simpa using hk
      have hs := f16_self ts[k] (h _ (List.getElem_mem hk))
      have hs' : F16 (ts[k].1, ts[k].2.1, ts[k].2.2.1, ts[k].2.2.2) (ts[k].1, ts[k].2.1, ts[k].2.2.1, ts[k].2.2.2) = some true := hs
      simp only [F13_L0, hd, cond_true, idx_some (List.getElem?_eq_getElem hk), Option.bind_some, hs', Bool.not_true, cond_false, w64_succ hk (show ts.length ≤ 9223372036854775807 by omega)]
    · have hd : decide ((ts.length : Int) < (ts.length : Int)) = false := by simp
      simp only [F13_L0, hd, cond_false]
  unfold F13
  rw [show ((ts.length : Int) != (ts.length : Int)) = false by simp, cond_false, hw]
  rfl
theorem app56 (ts : List Tl) (t : Tl) (h : ts.length ≤ 1000) : appl 56 ts [t] = some (ts ++ [t]) := by
  unfold appl; rw [if_pos]; simp; omega
theorem R.start : R (mupd mzero (ByteArray.mk #[47]) (ByteArray.empty, 0)) [(ByteArray.mk #[47], ByteArray.empty, 0)] := by
  have h0 : R (mzero : Mp) [] := ⟨Enum.zero, fun x hx => (by cases hx), by simp⟩
  exact h0.add rfl ⟨rfl, by decide⟩ (by simp)
/-- A script, by both. -/
theorem plays (ds : List Dd) (hl : ds.length ≤ 60) (hp : ∀ d ∈ ds, d.2.1.size ≤ 9223372036854775807) : ∀ (m k : Nat) (ts : List Tl) (M : Mp) (l : List Nd), k + m = ds.length → ts.length = k → (∀ t ∈ ts, t.2.2.2.length ≤ 12) → R M l →
    ∃ ts' M' l', whileM (F15_L0 ds) (ts, M, (k : Int)) = some (.brk (ts', M')) ∧ whileM (F19_L0 ds) (l, ts, (k : Int)) = some (.brk (l', ts')) ∧ R M' l' ∧ ts'.length = ds.length ∧ ∀ t ∈ ts', t.2.2.2.length ≤ 12
  | 0, k, ts, M, l, hk, ht, hb, hR => by
    have hd : decide ((k : Int) < (ds.length : Int)) = false := by rw [decide_eq_false_iff_not]; omega
    refine ⟨ts, M, l, whileM_brk ?_, whileM_brk ?_, hR, by omega, hb⟩
    · simp only [F15_L0, hd, cond_false]
    · simp only [F19_L0, hd, cond_false]
  | m + 1, k, ts, M, l, hk, ht, hb, hR => by
    have hlt : k < ds.length := by omega
    have hd : decide ((k : Int) < (ds.length : Int)) = true := by simpa using hlt
    have hg := List.getElem?_eq_getElem hlt
    obtain ⟨t, M', l', h1, h2, h3, h4⟩ := deed hR ds[k] (hp _ (List.getElem_mem hlt))
    have h1' : F29 M (ds[k].1, ds[k].2.1, ds[k].2.2.1, ds[k].2.2.2) = some (t, M') := h1
    have h2' : F30 l (ds[k].1, ds[k].2.1, ds[k].2.2.1, ds[k].2.2.2) = some (l', t) := h2
    have ha := app56 ts t (by omega)
    have ha' : appl 56 ts [(t.1, t.2.1, t.2.2.1, t.2.2.2)] = some (ts ++ [t]) := ha
    have hw := w64_succ hlt (show ds.length ≤ 9223372036854775807 by omega)
    obtain ⟨ts', M'', l'', r1, r2, r3, r4, r5⟩ := plays ds hl hp m (k + 1) (ts ++ [t]) M' l' (by omega) (by simp [ht]) (fun x hx => by
      rcases List.mem_append.1 hx with q | q
      · exact hb x q
      · rw [List.mem_singleton] at q; rw [q]; exact h4) h3
    refine ⟨ts', M'', l'', ?_, ?_, r3, r4, r5⟩
    · rw [whileM_nxt ?_, r1]
      simp only [F15_L0, hd, cond_true, idx_some hg, Option.bind_some, h1', ha', hw]
    · rw [whileM_nxt ?_, r2]
      simp only [F19_L0, hd, cond_true, idx_some hg, Option.bind_some, h2', ha', hw]
theorem law_TreePlays (a0 : List Dd) (h : a0.length ≤ 140737488351232) (wf : ∀ x ∈ a0, (i64 x.1) ∧ (x.2.1.size ≤ maxLen) ∧ (x.2.2.1.size ≤ maxLen) ∧ (i64 x.2.2.2)) : F6 a0 = some true := by
  unfold F6 F15
  by_cases c : a0.length > 60
  · have e : decide ((a0.length : Int) > 60) = true := by rw [decide_eq_true_eq]; omega
    simp only [e, cond_true, Option.bind_some]
    rfl
  · have e : decide ((a0.length : Int) > 60) = false := by rw [decide_eq_false_iff_not]; omega
    obtain ⟨ts, M, l, h1, h2, h3, h4, h5⟩ := plays a0 (by omega) (fun d hd => (wf d hd).2.1) a0.length 0 [] _ _ (by omega) rfl (fun t ht => by cases ht) R.start
    have h1' : whileM (F15_L0 a0) ([], mupd mzero (ByteArray.mk #[47]) (ByteArray.empty, 0), 0) = some (.brk (ts, M)) := h1
    have h2' : whileM (F19_L0 a0) ([(ByteArray.mk #[47], ByteArray.empty, 0)], [], 0) = some (.brk (l, ts)) := h2
    unfold F26 F20 F19
    simp only [e, cond_false, Option.bind_some, h1', h2', Ctl.on]
    rw [f13_self ts (by omega) h5]
    rfl
end Go.Proofs.YtadfgohglcglcaaDoor

namespace Go.Proofs.YtadfgohglcglcaaDoor
open Go Go.Bk Classical
set_option linter.unusedVariables false
set_option linter.unusedSimpArgs false
abbrev Ky := Int × Int × ByteArray
abbrev Ask := Int × Bool × Int × ByteArray × ByteArray × Int
abbrev Nt := Int × ByteArray
theorem mdel_mem (S : Ky → Option Bool) (x : Ky) (r : List Ky) : (fun j => if j ∈ r then none else mdel S x j) = (fun j => if j ∈ x :: r then none else S j) := by
  funext j
  by_cases h1 : j = x
  · subst h1; simp [mdel]
  · by_cases h2 : j ∈ r
    · simp [h2]
    · simp [h1, h2, mdel]
theorem f43_loop (ks : List Ky) (hl : ks.length ≤ 1000) : ∀ (m k : Nat) (S : Ky → Option Bool) (b : Bool), k + m = ks.length →
    whileM (F43_L0 ks) (S, b, (k : Int)) = some (.brk ((fun j => if j ∈ ks.drop k then none else S j), b || (ks.drop k).any (fun x => (S x).getD false)))
  | 0, k, S, b, hk => by
    have hd : decide ((k : Int) < (ks.length : Int)) = false := by rw [decide_eq_false_iff_not]; omega
    rw [List.drop_eq_nil_of_le (by omega)]
    refine whileM_brk ?_
    simp only [F43_L0, hd, cond_false]
    simp
  | m + 1, k, S, b, hk => by
    have hlt : k < ks.length := by omega
    have hd : decide ((k : Int) < (ks.length : Int)) = true := by rw [decide_eq_true_eq]; omega
    have hg := List.getElem?_eq_getElem hlt
    have ih := f43_loop ks hl m (k + 1) (mdel S ks[k]) (b || (S ks[k]).getD false) (by omega)
    rw [whileM_nxt (s' := (mdel S ks[k], (b || (S ks[k]).getD false), ((k + 1 : Nat) : Int))), ih, List.drop_eq_getElem_cons hlt]
    · have e1 := mdel_mem S ks[k] (ks.drop (k + 1))
      have e2 : ((b || (S ks[k]).getD false) || (ks.drop (k + 1)).any (fun x => (mdel S ks[k] x).getD false)) = (b || (ks[k] :: ks.drop (k + 1)).any (fun x => (S x).getD false)) := by
        rw [List.any_cons, ← Bool.or_assoc]
        cases h : (S ks[k]).getD false with
        | true => simp
        | false =>
          have : (fun x => (mdel S ks[k] x).getD false) = (fun x => (S x).getD false) := by
            funext x
            by_cases h1 : x = ks[k]
            · subst h1; simp [mdel, h]
            · simp [mdel, h1]
          rw [this]
      rw [e1, e2]
    · simp only [F43_L0, hd, cond_true, idx_some hg, Option.bind_some, w64_succ hlt (show ks.length ≤ 9223372036854775807 by omega)]
theorem f43_val (S : Ky → Option Bool) (ks : List Ky) (hl : ks.length ≤ 1000) : F43 S ks = some (ks.any (fun x => (S x).getD false), fun j => if j ∈ ks then none else S j) := by
  have h := f43_loop ks hl ks.length 0 S false (by omega)
  have h : whileM (F43_L0 ks) (S, false, 0) = some (.brk ((fun j => if j ∈ ks then none else S j), ks.any (fun x => (S x).getD false))) := by simpa using h
  unfold F43
  rw [h]
  rfl
/-- The keys that a deed fires for session i. -/
def keysOf (k : Int) (p up : ByteArray) (i : Int) : List Ky := if k = 2 then [(i, 4, p)] else if k = 1 then [(i, 5, up)] else if k = 3 then [(i, 4, p), (i, 5, p), (i, 5, up)] else []
theorem keysOf_fst {k : Int} {p up : ByteArray} {i : Int} {j : Ky} (h : j ∈ keysOf k p up i) : j.1 = i := by
  unfold keysOf at h
  split at h
  · simp at h; rw [h]
  · split at h
    · simp at h; rw [h]
    · split at h
      · simp at h; rcases h with h | h | h <;> rw [h]
      · cases h
theorem keysOf_len (k : Int) (p up : ByteArray) (i : Int) : (keysOf k p up i).length ≤ 1000 := by
  unfold keysOf
  split
  · simp
  · split
    · simp
    · split <;> simp
/-- Notes behind sessions 0 .. n-1. -/
def nts (N : List (List Nt)) (f : Nat → Bool) (note : Nt) : Nat → List (List Nt)
  | 0 => N
  | n + 1 => if f n then (nts N f note n).set n ((N.getD n []) ++ [note]) else nts N f note n
theorem nts_len (N : List (List Nt)) (f : Nat → Bool) (note : Nt) : ∀ n, (nts N f note n).length = N.length
  | 0 => rfl
  | n + 1 => by
    unfold nts
    split
    · rw [List.length_set]; exact nts_len N f note n
    · exact nts_len N f note n
theorem nts_get (N : List (List Nt)) (f : Nat → Bool) (note : Nt) : ∀ n j, n ≤ j → (nts N f note n)[j]? = N[j]?
  | 0, j, _ => rfl
  | n + 1, j, h => by
    unfold nts
    split
    · rw [List.getElem?_set_ne (by omega)]; exact nts_get N f note n j (by omega)
    · exact nts_get N f note n j (by omega)
theorem nts_bound {N : List (List Nt)} {f : Nat → Bool} {note : Nt} {b : Nat} (h : ∀ l ∈ N, l.length ≤ b) : ∀ n, ∀ l ∈ nts N f note n, l.length ≤ b + 1
  | 0, l, hl => by have := h l hl; omega
  | n + 1, l, hl => by
    unfold nts at hl
    split at hl
    · rcases List.mem_or_eq_of_mem_set hl with q | q
      · exact nts_bound h n l q
      · rw [q, List.length_append, List.length_singleton, List.getD_eq_getElem?_getD]
        cases e : N[n]? with
        | none => simp
        | some z => have := h z (List.mem_of_getElem? e); simp; exact this
    · exact nts_bound h n l hl
theorem nts_congr {N : List (List Nt)} {f g : Nat → Bool} {note : Nt} : ∀ n, (∀ i, i < n → f i = g i) → nts N f note n = nts N g note n
  | 0, _ => rfl
  | n + 1, h => by
    unfold nts
    rw [h n (by omega), nts_congr n fun i hi => h i (by omega)]
theorem nts_none {N : List (List Nt)} {note : Nt} : ∀ n, nts N (fun _ => false) note n = N
  | 0 => rfl
  | n + 1 => by unfold nts; simpa using nts_none n
/-- Watches behind sessions 0 .. n-1. -/
noncomputable def Sd (S : Ky → Option Bool) (k : Int) (p up : ByteArray) (n : Nat) : Ky → Option Bool := fun j => if (0 ≤ j.1 ∧ j.1 < (n : Int)) ∧ j ∈ keysOf k p up j.1 then none else S j
theorem Sd_zero (S : Ky → Option Bool) (k : Int) (p up : ByteArray) : Sd S k p up 0 = S := by
  funext j; unfold Sd; rw [if_neg]; rintro ⟨⟨h1, h2⟩, _⟩; omega
theorem Sd_succ (S : Ky → Option Bool) (k : Int) (p up : ByteArray) (n : Nat) : (fun j => if j ∈ keysOf k p up (n : Int) then none else Sd S k p up n j) = Sd S k p up (n + 1) := by
  funext j
  unfold Sd
  by_cases h1 : j ∈ keysOf k p up (n : Int)
  · have e := keysOf_fst h1
    rw [if_pos h1, if_pos ⟨by omega, by rw [e]; exact h1⟩]
  · rw [if_neg h1]
    by_cases h2 : j ∈ keysOf k p up j.1
    · have : j.1 ≠ (n : Int) := fun e => h1 (by rw [← e]; exact h2)
      by_cases h3 : 0 ≤ j.1 ∧ j.1 < (n : Int)
      · rw [if_pos ⟨h3, h2⟩, if_pos ⟨by omega, h2⟩]
      · rw [if_neg fun q => h3 q.1, if_neg fun q => by have := q.1; omega]
    · rw [if_neg fun q => h2 q.2, if_neg fun q => h2 q.2]
noncomputable def fired (S : Ky → Option Bool) (k : Int) (p up : ByteArray) (i : Nat) : Bool := (keysOf k p up (i : Int)).any fun x => (S x).getD false
theorem fired_Sd (S : Ky → Option Bool) (k : Int) (p up : ByteArray) (i : Nat) : (keysOf k p up (i : Int)).any (fun x => (Sd S k p up i x).getD false) = fired S k p up i := by
  unfold fired
  rw [Bool.eq_iff_iff, List.any_eq_true, List.any_eq_true]
  have key : ∀ x ∈ keysOf k p up (i : Int), Sd S k p up i x = S x := fun x hx => by
    unfold Sd
    rw [if_neg]
    rintro ⟨⟨_, h⟩, _⟩
    have := keysOf_fst hx
    omega
  constructor <;> rintro ⟨x, h1, h2⟩ <;> exact ⟨x, h1, by rw [key x h1] at *; exact h2⟩
def kind3 (k : Int) : Int := ((mupd (mupd (mupd (mzero : Int → Option Int) 1 1) 2 2) 3 3) k).getD 0
theorem app24 (l : List Nt) (z : Nt) (h : l.length ≤ 1000) : appl 24 l [z] = some (l ++ [z]) := by
  unfold appl; rw [if_pos]; simp; omega
theorem f31_loop (S : Ky → Option Bool) (N : List (List Nt)) (k : Int) (p data : ByteArray) (v : Int) (up : ByteArray) (hN : N.length = 6) (hb : ∀ l ∈ N, l.length ≤ 1000) : ∀ (m i : Nat), i + m = 6 →
    whileM (F31_L0 (S, N) (k, p, data, v) up) (Sd S k p up i, nts N (fired S k p up) (kind3 k, p) i, (i : Int)) = some (.brk (Sd S k p up 6, nts N (fired S k p up) (kind3 k, p) 6))
  | 0, i, h => by
    have e : i = 6 := by omega
    subst e
    have hd : decide (((6 : Nat) : Int) < (N.length : Int)) = false := by rw [decide_eq_false_iff_not, hN]; omega
    refine whileM_brk ?_
    simp only [F31_L0, hd, cond_false]
  | m + 1, i, h => by
    have hlt : i < N.length := by omega
    have hd : decide ((i : Int) < (N.length : Int)) = true := by rw [decide_eq_true_eq]; omega
    have ih := f31_loop S N k p data v up hN hb m (i + 1) (by omega)
    have hg : (nts N (fired S k p up) (kind3 k, p) i)[i]? = some N[i] := by rw [nts_get _ _ _ i i (Nat.le_refl _)]; exact List.getElem?_eq_getElem hlt
    have hgd : N.getD i [] = N[i] := by rw [List.getD_eq_getElem?_getD, List.getElem?_eq_getElem hlt]; rfl
    have ha := app24 N[i] (kind3 k, p) (hb _ (List.getElem_mem hlt))
    have ha' : appl 24 N[i] [((((mupd (mupd (mupd (mzero : Int → Option Int) 1 1) 2 2) 3 3) k).getD 0), p)] = some (N[i] ++ [(kind3 k, p)]) := ha
    have hw := w64_succ (k := i) (n := 6) (by omega) (by omega)
    have hf := f43_val (Sd S k p up i) (keysOf k p up (i : Int)) (keysOf_len _ _ _ _)
    rw [fired_Sd, Sd_succ] at hf
    have hn : nts N (fired S k p up) (kind3 k, p) (i + 1) = if fired S k p up i then (nts N (fired S k p up) (kind3 k, p) i).set i (N[i] ++ [(kind3 k, p)]) else nts N (fired S k p up) (kind3 k, p) i := by rw [nts, hgd]
    rw [whileM_nxt ?_, ih]
    have mid : (cond (k == 2) (Option.bind (F43 (Sd S k p up i) ([((i : Int), 4, p)] : List Ky)) fun (r48, r49) => some (r49, r48))
        (cond (k == 1) (Option.bind (F43 (Sd S k p up i) ([((i : Int), 5, up)] : List Ky)) fun (r56, r57) => some (r57, r56))
        (cond (k == 3) (Option.bind (F43 (Sd S k p up i) ([((i : Int), 4, p), ((i : Int), 5, p), ((i : Int), 5, up)] : List Ky)) fun (r64, r65) => some (r65, r64))
        (some (Sd S k p up i, false))))) = some (Sd S k p up (i + 1), fired S k p up i) := by
      by_cases k2 : k = 2
      · subst k2
        have hf : F43 (Sd S 2 p up i) [((i : Int), 4, p)] = some (fired S 2 p up i, Sd S 2 p up (i + 1)) := hf
        simp only [show ((2 : Int) == 2) = true from rfl, cond_true, hf, Option.bind_some]
      · by_cases k1 : k = 1
        · subst k1
          have hf : F43 (Sd S 1 p up i) [((i : Int), 5, up)] = some (fired S 1 p up i, Sd S 1 p up (i + 1)) := hf
          simp only [show ((1 : Int) == 2) = false from rfl, show ((1 : Int) == 1) = true from rfl, cond_true, cond_false, hf, Option.bind_some]
        · by_cases k3 : k = 3
          · subst k3
            have hf : F43 (Sd S 3 p up i) [((i : Int), 4, p), ((i : Int), 5, p), ((i : Int), 5, up)] = some (fired S 3 p up i, Sd S 3 p up (i + 1)) := hf
            simp only [show ((3 : Int) == 2) = false from rfl, show ((3 : Int) == 1) = false from rfl, show ((3 : Int) == 3) = true from rfl, cond_true, cond_false, hf, Option.bind_some]
          · have b2 : (k == 2) = false := by simpa using k2
            have b1 : (k == 1) = false := by simpa using k1
            have b3 : (k == 3) = false := by simpa using k3
            have e0 : ∀ i : Int, keysOf k p up i = [] := fun i => by unfold keysOf; rw [if_neg k2, if_neg k1, if_neg k3]
            have e1 : Sd S k p up (i + 1) = Sd S k p up i := by funext j; unfold Sd; rw [e0]; simp
            have e2 : fired S k p up i = false := by unfold fired; rw [e0]; rfl
            simp only [b1, b2, b3, cond_false, e1, e2]
    simp only [F31_L0, hd, cond_true, Option.bind_some, mid]
    cases hfi : fired S k p up i with
    | true =>
      rw [hfi] at hn
      rw [hn]
      simp only [cond_true, idx_some hg, Option.bind_some, ha', hw, Int.toNat_natCast, if_pos]
    | false =>
      rw [hfi] at hn
      rw [hn]
      simp only [cond_false, Option.bind_some, hw]
      rfl
theorem f31_val (S : Ky → Option Bool) (N : List (List Nt)) (d : Dd) (hd : OkN d.2.1) (hN : N.length = 6) (hb : ∀ l ∈ N, l.length ≤ 1000) :
    F31 (S, N) d = some (Sd S d.1 d.2.1 (prt d.2.1).1 6, nts N (fired S d.1 d.2.1 (prt d.2.1).1) (kind3 d.1, d.2.1) 6) := by
  obtain ⟨k, p, data, v⟩ := d
  have h := f31_loop S N k p data v (prt p).1 hN hb 6 0 (by omega)
  rw [Sd_zero] at h
  have h : whileM (F31_L0 (S, N) (k, p, data, v) (prt p).1) (S, N, 0) = _ := h
  have hp : F42 p = some ((prt p).1, (prt p).2) := (prt_val hd).1
  show F31 (S, N) (k, p, data, v) = _
  unfold F31
  simp only [hp, Option.bind_some, h, Ctl.on]
end Go.Proofs.YtadfgohglcglcaaDoor

namespace Go.Proofs.YtadfgohglcglcaaDoor
open Go Go.Bk Classical
set_option linter.unusedVariables false
set_option linter.unusedSimpArgs false
def cnd (k : Int) (p up : ByteArray) (w : Ask) : Bool := ((sEq w.2.2.2.1 p) && (((k == 2) && (w.2.2.1 == 4)) || (k == 3))) || ((w.2.2.1 == 5) && (sEq w.2.2.2.1 up))
noncomputable def upR (k : Int) (p : ByteArray) : ByteArray := cond (k != 2) (prt p).1 (ByteArray.mk #[])
def kyOf (w : Ask) : Ky := (w.1, w.2.2.1, w.2.2.2.1)
structure WOk (w : Ask) : Prop where
  lo : 0 ≤ w.1
  hi : w.1 < 6
  kd : w.2.2.1 = 4 ∨ w.2.2.1 = 5
  nm : OkN w.2.2.2.1
def frd (c : Ask → Bool) (W : List Ask) : List Bool := (List.range 6).map fun (i : Nat) => W.any fun w => decide (w.1 = (i : Int)) && c w
theorem frd_len (c : Ask → Bool) (W : List Ask) : (frd c W).length = 6 := by unfold frd; simp
theorem frd_get (c : Ask → Bool) (W : List Ask) {i : Nat} (h : i < 6) : (frd c W)[i]? = some (W.any fun w => decide (w.1 = (i : Int)) && c w) := by
  unfold frd
  rw [List.getElem?_map, List.getElem?_range h]
  rfl
theorem frd_set {c : Ask → Bool} {W : List Ask} {w : Ask} {i : Nat} (hi : i < 6) (hw : w.1 = (i : Int)) (hc : c w = true) : (frd c W).set i true = frd c (W ++ [w]) := by
  apply List.ext_getElem?
  intro j
  by_cases hj : j < 6
  · rw [frd_get _ _ hj, List.getElem?_set]
    by_cases e : i = j
    · subst e
      rw [if_pos rfl, if_pos (by rw [frd_len]; exact hi)]
      simp [hw, hc]
    · rw [if_neg e, frd_get _ _ hj]
      have : decide (w.1 = (j : Int)) = false := by rw [decide_eq_false_iff_not]; omega
      simp [this]
  · rw [List.getElem?_eq_none (by rw [List.length_set, frd_len]; omega), List.getElem?_eq_none (by rw [frd_len]; omega)]
theorem frd_not {c : Ask → Bool} {W : List Ask} {w : Ask} (hc : c w = false) : frd c (W ++ [w]) = frd c W := by
  unfold frd
  congr 1
  funext i
  simp [hc]
theorem app64 (l : List Ask) (z : Ask) (h : l.length ≤ 1000) : appl 64 l [z] = some (l ++ [z]) := by
  unfold appl; rw [if_pos]; simp; omega
theorem f23_l1 (W : List Ask) (x : Ask) (hx : OkN x.2.2.2.1) (hW : ∀ w ∈ W, WOk w) (hl : W.length ≤ 1000) : ∀ (m k : Nat), k + m = W.length →
    whileM (F23_L1 W x) ((W.take k).filter (fun w => !cnd x.2.2.1 x.2.2.2.1 (upR x.2.2.1 x.2.2.2.1) w), frd (cnd x.2.2.1 x.2.2.2.1 (upR x.2.2.1 x.2.2.2.1)) (W.take k), (k : Int)) = some (.brk (W.filter (fun w => !cnd x.2.2.1 x.2.2.2.1 (upR x.2.2.1 x.2.2.2.1) w), frd (cnd x.2.2.1 x.2.2.2.1 (upR x.2.2.1 x.2.2.2.1)) W))
  | 0, k, h => by
    have hd : decide ((k : Int) < (W.length : Int)) = false := by rw [decide_eq_false_iff_not]; omega
    rw [List.take_of_length_le (by omega)]
    refine whileM_brk ?_
    simp only [F23_L1, hd, cond_false]
  | m + 1, k, h => by
    have hlt : k < W.length := by omega
    have hd : decide ((k : Int) < (W.length : Int)) = true := by rw [decide_eq_true_eq]; omega
    have hg := List.getElem?_eq_getElem hlt
    have ih := f23_l1 W x hx hW hl m (k + 1) (by omega)
    have htk : W.take (k + 1) = W.take k ++ [W[k]] := by rw [List.take_add_one, hg]; rfl
    have hw := hW _ (List.getElem_mem hlt)
    have hp : F32 x.2.2.2.1 = some ((prt x.2.2.2.1).1, (prt x.2.2.2.1).2) := (prt_val hx).2
    have hup : (cond (x.2.2.1 != 2) (Option.bind (F32 x.2.2.2.1) fun (r143, r144) => some r143) (some (ByteArray.mk #[]))) = some (upR x.2.2.1 x.2.2.2.1) := by
      unfold upR
      cases x.2.2.1 != 2 with
      | true => simp only [cond_true, hp, Option.bind_some]
      | false => rfl
    obtain ⟨i, hi⟩ := Int.eq_ofNat_of_zero_le hw.lo
    have hi6 : i < 6 := by have := hw.hi; omega
    obtain ⟨z, hid⟩ : ∃ z, idx (frd (cnd x.2.2.1 x.2.2.2.1 (upR x.2.2.1 x.2.2.2.1)) (W.take k)) W[k].1 = some z := by rw [hi]; exact ⟨_, idx_some (frd_get _ _ hi6)⟩
    have hwk := w64_succ hlt (show W.length ≤ 9223372036854775807 by omega)
    rw [whileM_nxt ?_, ih]
    cases hc : cnd x.2.2.1 x.2.2.2.1 (upR x.2.2.1 x.2.2.2.1) W[k] with
    | true =>
      have hc' := hc
      unfold cnd at hc'
      have hs := frd_set (W := W.take k) hi6 hi hc
      simp only [F23_L1, hd, cond_true, idx_some hg, Option.bind_some, hup, hc', hid, hwk]
      rw [htk, List.filter_append, ← hs, hi]
      simp [hc]
    | false =>
      have hc' := hc
      unfold cnd at hc'
      have ha := app64 ((W.take k).filter (fun w => !cnd x.2.2.1 x.2.2.2.1 (upR x.2.2.1 x.2.2.2.1) w)) W[k] (by
        have := List.length_filter_le (fun w => !cnd x.2.2.1 x.2.2.2.1 (upR x.2.2.1 x.2.2.2.1) w) (W.take k)
        rw [List.length_take] at this; omega)
      have ha' : appl 64 ((W.take k).filter (fun w => !cnd x.2.2.1 x.2.2.2.1 (upR x.2.2.1 x.2.2.2.1) w)) ([(W[k].1, W[k].2.1, (W[k].2.2.1, W[k].2.2.2.1, W[k].2.2.2.2.1, W[k].2.2.2.2.2))] : List Ask) = _ := ha
      simp only [F23_L1, hd, cond_true, cond_false, idx_some hg, Option.bind_some, hup, hc', ha', hwk]
      rw [htk, frd_not hc, List.filter_append]
      simp [hc]
theorem f23_l2 (x : Ask) (kk : Int) (c : Ask → Bool) (W : List Ask) (N : List (List Nt)) (hN : N.length = 6) (hb : ∀ l ∈ N, l.length ≤ 1000) : ∀ (m i : Nat), i + m = 6 →
    whileM (F23_L2 x kk (frd c W)) (nts N (fun i => W.any fun w => decide (w.1 = (i : Int)) && c w) (kk, x.2.2.2.1) i, (i : Int)) = some (.brk (nts N (fun i => W.any fun w => decide (w.1 = (i : Int)) && c w) (kk, x.2.2.2.1) 6))
  | 0, i, h => by
    have e : i = 6 := by omega
    subst e
    refine whileM_brk ?_
    rfl
  | m + 1, i, h => by
    have hd : decide ((i : Int) < 6) = true := by rw [decide_eq_true_eq]; omega
    have ih := f23_l2 x kk c W N hN hb m (i + 1) (by omega)
    have hlt : i < N.length := by omega
    have hw := w64_succ (k := i) (n := 6) (by omega) (by omega)
    have hfi := frd_get c W (i := i) (by omega)
    generalize hf : (fun i : Nat => W.any fun w => decide (w.1 = (i : Int)) && c w) = f at ih ⊢
    have hfi : (frd c W)[i]? = some (f i) := by rw [hfi, ← hf]
    have hg : (nts N f (kk, x.2.2.2.1) i)[i]? = some N[i] := by rw [nts_get _ _ _ i i (Nat.le_refl _)]; exact List.getElem?_eq_getElem hlt
    have hgd : N.getD i [] = N[i] := by rw [List.getD_eq_getElem?_getD, List.getElem?_eq_getElem hlt]; rfl
    have ha := app24 N[i] (kk, x.2.2.2.1) (hb _ (List.getElem_mem hlt))
    have hn : nts N f (kk, x.2.2.2.1) (i + 1) = if f i then (nts N f (kk, x.2.2.2.1) i).set i (N[i] ++ [(kk, x.2.2.2.1)]) else nts N f (kk, x.2.2.2.1) i := by rw [nts, hgd]
    rw [whileM_nxt ?_, ih]
    cases h1 : f i with
    | true =>
      rw [h1] at hn hfi
      rw [hn]
      simp only [F23_L2, hd, cond_true, idx_some hfi, Option.bind_some, idx_some hg, ha, hw, Int.toNat_natCast, if_pos]
    | false =>
      rw [h1] at hn hfi
      rw [hn]
      simp only [F23_L2, hd, cond_true, cond_false, idx_some hfi, Option.bind_some, hw]
      rfl
/-- A tree that tells OK. -/
theorem ok_kind {M M' : Mp} {d : Dd} {t : Tl} (hd : d.2.1.size ≤ 9223372036854775807) (h : F29 M d = some (t, M')) (h0 : t.1 = 0) : 1 ≤ d.1 ∧ d.1 ≤ 5 ∧ nameB d.2.1 = true := by
  have n1 := f35_val (p := d.2.1) hd
  unfold F29 at h
  cases c1 : ((decide (d.1 < 1)) || (decide (d.1 > 5))) with
  | true =>
    rw [c1] at h
    have e := (Prod.mk.inj (Option.some.inj h)).1
    rw [← e] at h0
    cases h0
  | false =>
    rw [c1] at h
    simp only [cond_false, n1, Option.bind_some] at h
    simp only [Bool.or_eq_false_iff, decide_eq_false_iff_not] at c1
    cases c2 : nameB d.2.1 with
    | true => exact ⟨by omega, by omega, rfl⟩
    | false =>
      rw [c2] at h
      have e := (Prod.mk.inj (Option.some.inj h)).1
      rw [← e] at h0
      cases h0
theorem name_ne {p : ByteArray} (h : OkN p) : p ≠ ByteArray.mk #[] := by
  intro e
  obtain ⟨cs, hc⟩ := name_cons h.nm
  rw [e] at hc
  cases hc
theorem hit_eq {k : Int} {p : ByteArray} (hk : k = 1 ∨ k = 2 ∨ k = 3) {w : Ask} (hw : WOk w) : cnd k p (upR k p) w = decide (kyOf w ∈ keysOf k p (prt p).1 w.1) := by
  obtain ⟨f, wt, kd, q, data, v⟩ := w
  obtain ⟨h1, h2, h3, h4⟩ := hw
  have hne := name_ne h4
  have hne : q ≠ ByteArray.mk #[] := hne
  have h3 : kd = 4 ∨ kd = 5 := h3
  unfold cnd upR kyOf keysOf
  simp only [sEq_iff]
  rcases hk with rfl | rfl | rfl <;> rcases h3 with rfl | rfl
  · simp
  · by_cases e : q = (prt p).1 <;> simp [e]
  · by_cases e : q = p <;> simp [e]
  · simp [hne]
  · by_cases e : q = p <;> simp [e]
  · by_cases e : q = p <;> by_cases e2 : q = (prt p).1 <;> simp [e, e2]
def Rel (S : Ky → Option Bool) (W : List Ask) : Prop := ∀ j, S j = if j ∈ W.map kyOf then some true else none
theorem fired_eq {S : Ky → Option Bool} {W : List Ask} (hR : Rel S W) (hW : ∀ w ∈ W, WOk w) {k : Int} {p : ByteArray} (hk : k = 1 ∨ k = 2 ∨ k = 3) (i : Nat) :
    fired S k p (prt p).1 i = W.any (fun w => decide (w.1 = (i : Int)) && cnd k p (upR k p) w) := by
  unfold fired
  rw [Bool.eq_iff_iff, List.any_eq_true, List.any_eq_true]
  constructor
  · rintro ⟨x, h1, h2⟩
    have hx := keysOf_fst h1
    rw [hR x] at h2
    by_cases hm : x ∈ W.map kyOf
    · obtain ⟨w, h3, h4⟩ := List.mem_map.mp hm
      have hf : w.1 = x.1 := by rw [← h4]; rfl
      refine ⟨w, h3, ?_⟩
      rw [hit_eq hk (hW w h3), Bool.and_eq_true, decide_eq_true_eq, decide_eq_true_eq, h4, hf, hx]
      exact ⟨rfl, h1⟩
    · rw [if_neg hm] at h2
      cases h2
  · rintro ⟨w, h3, h4⟩
    rw [hit_eq hk (hW w h3), Bool.and_eq_true, decide_eq_true_eq, decide_eq_true_eq] at h4
    refine ⟨kyOf w, by rw [← h4.1]; exact h4.2, ?_⟩
    rw [hR, if_pos (List.mem_map_of_mem h3)]
    rfl
theorem Rel.after {S : Ky → Option Bool} {W : List Ask} (hR : Rel S W) (hW : ∀ w ∈ W, WOk w) {k : Int} {p : ByteArray} (hk : k = 1 ∨ k = 2 ∨ k = 3) : Rel (Sd S k p (prt p).1 6) (W.filter fun w => !cnd k p (upR k p) w) := by
  intro j
  unfold Sd
  by_cases h : (0 ≤ j.1 ∧ j.1 < ((6 : Nat) : Int)) ∧ j ∈ keysOf k p (prt p).1 j.1
  · rw [if_pos h, if_neg]
    intro hm
    obtain ⟨w, h3, h4⟩ := List.mem_map.mp hm
    obtain ⟨h5, h6⟩ := List.mem_filter.mp h3
    have hf : w.1 = j.1 := by rw [← h4]; rfl
    rw [hit_eq hk (hW w h5), h4, hf, decide_eq_true h.2] at h6
    cases h6
  · rw [if_neg h, hR j]
    by_cases hm : j ∈ W.map kyOf
    · rw [if_pos hm, if_pos]
      obtain ⟨w, h3, h4⟩ := List.mem_map.mp hm
      refine List.mem_map.mpr ⟨w, List.mem_filter.mpr ⟨h3, ?_⟩, h4⟩
      have hf : w.1 = j.1 := by rw [← h4]; rfl
      have hw := hW w h3
      rw [hit_eq hk hw, h4, hf]
      have : j ∉ keysOf k p (prt p).1 j.1 := fun q => h ⟨⟨by rw [← hf]; exact hw.lo, by rw [← hf]; exact hw.hi⟩, q⟩
      rw [decide_eq_false this]
      rfl
    · rw [if_neg hm, if_neg]
      intro q
      obtain ⟨w, h3, h4⟩ := List.mem_map.mp q
      exact hm (List.mem_map.mpr ⟨w, (List.mem_filter.mp h3).1, h4⟩)
theorem Rel.more {S : Ky → Option Bool} {W : List Ask} (hR : Rel S W) (w : Ask) : Rel (mupd S (kyOf w) true) (W ++ [w]) := by
  intro j
  unfold mupd
  by_cases e : j = kyOf w
  · rw [if_pos e, if_pos (by rw [e]; simp)]
  · rw [if_neg e, hR j]
    by_cases hm : j ∈ W.map kyOf
    · rw [if_pos hm, if_pos (by rw [List.map_append]; exact List.mem_append_left _ hm)]
    · rw [if_neg hm, if_neg]
      rw [List.map_append, List.mem_append]
      rintro (q | q)
      · exact hm q
      · simp at q; exact e q
theorem keysOf_read {k : Int} (hk : 4 ≤ k) (p up : ByteArray) (i : Int) : keysOf k p up i = [] := by
  unfold keysOf; rw [if_neg (by omega), if_neg (by omega), if_neg (by omega)]
theorem Sd_read {S : Ky → Option Bool} {k : Int} (hk : 4 ≤ k) (p up : ByteArray) (n : Nat) : Sd S k p up n = S := by
  funext j; unfold Sd; rw [keysOf_read hk]; simp
theorem fired_read {S : Ky → Option Bool} {k : Int} (hk : 4 ≤ k) (p up : ByteArray) : fired S k p up = fun _ => false := by
  funext i; unfold fired; rw [keysOf_read hk]; rfl
end Go.Proofs.YtadfgohglcglcaaDoor

namespace Go.Proofs.YtadfgohglcglcaaDoor
open Go Go.Bk Classical
set_option linter.unusedVariables false
set_option linter.unusedSimpArgs false
theorem kinds3 {k : Int} (hk : k = 1 ∨ k = 2 ∨ k = 3) : kind3 k = k := by
  rcases hk with rfl | rfl | rfl <;> rfl
theorem watch_loop (a0 : List Ask) (hl : a0.length ≤ 60) (hp : ∀ a ∈ a0, a.2.2.2.1.size ≤ 9223372036854775807) : ∀ (m k : Nat) (ts : List Tl) (S : Ky → Option Bool) (M : Mp) (l : List Nd) (W : List Ask) (N : List (List Nt)),
    k + m = a0.length → ts.length = k → (∀ t ∈ ts, t.2.2.2.length ≤ 12) → R M l → Rel S W → (∀ w ∈ W, WOk w) → W.length ≤ k → N.length = 6 → (∀ n ∈ N, n.length ≤ k) →
    ∃ ts' S' M' N', whileM (F22_L0 a0) (ts, S, M, N, (k : Int)) = some (.brk (ts', S', M', N')) ∧ whileM (F23_L0 a0) (l, ts, W, N, (k : Int)) = some (.brk (ts', N')) ∧ ts'.length = a0.length ∧ (∀ t ∈ ts', t.2.2.2.length ≤ 12) ∧ N'.length = 6 ∧ ∀ n ∈ N', n.length ≤ 60
  | 0, k, ts, S, M, l, W, N, hk, ht, hb, hR, hS, hW, hWl, hN, hNb => by
    have hd : decide ((k : Int) < (a0.length : Int)) = false := by rw [decide_eq_false_iff_not]; omega
    refine ⟨ts, S, M, N, whileM_brk ?_, whileM_brk ?_, by omega, hb, hN, fun n q => by have := hNb n q; omega⟩
    · simp only [F22_L0, hd, cond_false]
    · simp only [F23_L0, hd, cond_false]
  | m + 1, k, ts, S, M, l, W, N, hk, ht, hb, hR, hS, hW, hWl, hN, hNb => by
    have hlt : k < a0.length := by omega
    have hd : decide ((k : Int) < (a0.length : Int)) = true := by rw [decide_eq_true_eq]; omega
    have hg := List.getElem?_eq_getElem hlt
    have hpa := hp _ (List.getElem_mem hlt)
    have hwk := w64_succ hlt (show a0.length ≤ 9223372036854775807 by omega)
    generalize a0[k] = a at hg hpa
    obtain ⟨f, wt, kd, p, data, v⟩ := a
    have hpa : p.size ≤ 9223372036854775807 := hpa
    have ih := watch_loop a0 hl hp m (k + 1)
    have grow : ∀ t : Tl, t.2.2.2.length ≤ 12 → ∀ x ∈ ts ++ [t], x.2.2.2.length ≤ 12 := fun t h x hx => by
      rcases List.mem_append.1 hx with q | q
      · exact hb x q
      · rw [List.mem_singleton] at q; rw [q]; exact h
    cases hr : ((decide (f < 0)) || (decide (f ≥ 6))) with
    | true =>
      have ha := app56 ts (2, ByteArray.empty, 0, []) (by omega)
      have ha : appl 56 ts [(2, ByteArray.empty, 0, ([] : List ByteArray))] = some (ts ++ [(2, ByteArray.empty, 0, [])]) := ha
      obtain ⟨ts', S', M', N', r1, r2, r3⟩ := ih (ts ++ [(2, ByteArray.empty, 0, [])]) S M l W N (by omega) (by simp [ht]) (grow _ (Nat.zero_le _)) hR hS hW (by omega) hN (fun n q => by have := hNb n q; omega)
      refine ⟨ts', S', M', N', ?_, ?_, r3⟩
      · rw [whileM_nxt ?_, r1]
        simp only [F22_L0, hd, cond_true, idx_some hg, Option.bind_some, hr, ha, hwk]
      · rw [whileM_nxt ?_, r2]
        simp only [F23_L0, hd, cond_true, idx_some hg, Option.bind_some, hr, ha, hwk]
    | false =>
    obtain ⟨t, M1, l1, h1, h2, h3, h4⟩ := deed hR (kd, p, data, v) hpa
    have ha := app56 ts t (by omega)
    have ha : appl 56 ts [(t.1, t.2.1, t.2.2.1, t.2.2.2)] = some (ts ++ [t]) := ha
    cases hc : (t.1 != 0) with
    | true =>
      obtain ⟨ts', S', M', N', r1, r2, r3⟩ := ih (ts ++ [t]) S M1 l1 W N (by omega) (by simp [ht]) (grow _ h4) h3 hS hW (by omega) hN (fun n q => by have := hNb n q; omega)
      refine ⟨ts', S', M', N', ?_, ?_, r3⟩
      · rw [whileM_nxt ?_, r1]
        simp only [F22_L0, hd, cond_true, cond_false, idx_some hg, Option.bind_some, hr, h1, ha, hc, hwk]
      · rw [whileM_nxt ?_, r2]
        simp only [F23_L0, hd, cond_true, cond_false, idx_some hg, Option.bind_some, hr, h2, ha, hc, hwk]
    | false =>
    have h0 : t.1 = 0 := by simpa using hc
    obtain ⟨k1, k5, hnm⟩ := ok_kind (d := (kd, p, data, v)) hpa h1 h0
    have k1 : 1 ≤ kd := k1
    have k5 : kd ≤ 5 := k5
    have hn : OkN p := ⟨hnm, hpa⟩
    have hf := f31_val S N (kd, p, data, v) hn hN (fun n q => by have := hNb n q; omega)
    have hf : F31 (S, N) (kd, p, data, v) = some (Sd S kd p (prt p).1 6, nts N (fired S kd p (prt p).1) (kind3 kd, p) 6) := hf
    by_cases k4 : 4 ≤ kd
    · rw [Sd_read k4, fired_read k4, nts_none] at hf
      have d4 : decide (kd ≥ 4) = true := by rw [decide_eq_true_eq]; exact k4
      have hfr : 0 ≤ f ∧ f < 6 := by
        simp only [Bool.or_eq_false_iff, decide_eq_false_iff_not] at hr
        omega
      cases wt with
      | true =>
        have hw : WOk (f, true, kd, p, data, v) := ⟨hfr.1, hfr.2, by show kd = 4 ∨ kd = 5; omega, hn⟩
        have ha2 := app64 W (f, true, kd, p, data, v) (by omega)
        have ha2 : appl 64 W ([(f, true, (kd, p, data, v))] : List Ask) = some (W ++ [(f, true, kd, p, data, v)]) := ha2
        obtain ⟨ts', S', M', N', r1, r2, r3⟩ := ih (ts ++ [t]) (mupd S (f, kd, p) true) M1 l1 (W ++ [(f, true, kd, p, data, v)]) N (by omega) (by simp [ht]) (grow _ h4) h3 (hS.more (f, true, kd, p, data, v)) (fun w q => by
          rcases List.mem_append.1 q with q | q
          · exact hW w q
          · rw [List.mem_singleton] at q; rw [q]; exact hw) (by simp; omega) hN (fun n q => by have := hNb n q; omega)
        refine ⟨ts', S', M', N', ?_, ?_, r3⟩
        · rw [whileM_nxt ?_, r1]
          simp only [F22_L0, hd, cond_true, cond_false, idx_some hg, Option.bind_some, hr, h1, ha, hc, hwk, hf, d4, Bool.and_true]
        · rw [whileM_nxt ?_, r2]
          simp only [F23_L0, hd, cond_true, cond_false, idx_some hg, Option.bind_some, hr, h2, ha, hc, hwk, d4, ha2]
      | false =>
        obtain ⟨ts', S', M', N', r1, r2, r3⟩ := ih (ts ++ [t]) S M1 l1 W N (by omega) (by simp [ht]) (grow _ h4) h3 hS hW (by omega) hN (fun n q => by have := hNb n q; omega)
        refine ⟨ts', S', M', N', ?_, ?_, r3⟩
        · rw [whileM_nxt ?_, r1]
          simp only [F22_L0, hd, cond_true, cond_false, idx_some hg, Option.bind_some, hr, h1, ha, hc, hwk, hf, d4, Bool.false_and]
        · rw [whileM_nxt ?_, r2]
          simp only [F23_L0, hd, cond_true, cond_false, idx_some hg, Option.bind_some, hr, h2, ha, hc, hwk, d4]
    · have k3 : kd = 1 ∨ kd = 2 ∨ kd = 3 := by omega
      have d4 : decide (kd ≥ 4) = false := by rw [decide_eq_false_iff_not]; omega
      rw [kinds3 k3, nts_congr 6 (fun i _ => fired_eq hS hW k3 i)] at hf
      have hk3 : (Option.bind (α := Int) (cond ((kd == 1)) (some 1) (some kd)) fun x102 =>
          Option.bind (α := Int) (cond ((kd == 2)) (some 2) (some x102)) fun x105 =>
          cond ((kd == 3)) (some 3) (some x105)) = some kd := by
        rcases k3 with rfl | rfl | rfl <;> rfl
      have hm : mkl 6 1 false = some (frd (cnd kd p (upR kd p)) []) := by unfold mkl; rw [if_pos ⟨by decide, by decide, by decide⟩]; rfl
      have l1' := f23_l1 W (f, wt, kd, p, data, v) hn hW (by omega) W.length 0 (by omega)
      have l1' : whileM (F23_L1 W (f, wt, kd, p, data, v)) ([], frd (cnd kd p (upR kd p)) [], 0) = some (.brk (W.filter (fun w => !cnd kd p (upR kd p) w), frd (cnd kd p (upR kd p)) W)) := l1'
      have l2' := f23_l2 (f, wt, kd, p, data, v) kd (cnd kd p (upR kd p)) W N hN (fun n q => by have := hNb n q; omega) 6 0 (by omega)
      have l2' : whileM (F23_L2 (f, wt, kd, p, data, v) kd (frd (cnd kd p (upR kd p)) W)) (N, 0) = some (.brk (nts N (fun i => W.any fun w => decide (w.1 = (i : Int)) && cnd kd p (upR kd p) w) (kd, p) 6)) := l2'
      have hfl := List.length_filter_le (fun w => !cnd kd p (upR kd p) w) W
      obtain ⟨ts', S', M', N', r1, r2, r3⟩ := ih (ts ++ [t]) (Sd S kd p (prt p).1 6) M1 l1 (W.filter (fun w => !cnd kd p (upR kd p) w)) (nts N (fun i => W.any fun w => decide (w.1 = (i : Int)) && cnd kd p (upR kd p) w) (kd, p) 6) (by omega) (by simp [ht]) (grow _ h4) h3 (hS.after hW k3) (fun w q => hW w (List.mem_filter.mp q).1) (by omega) (by rw [nts_len]; exact hN) (nts_bound hNb 6)
      refine ⟨ts', S', M', N', ?_, ?_, r3⟩
      · rw [whileM_nxt ?_, r1]
        simp only [F22_L0, hd, cond_true, cond_false, idx_some hg, Option.bind_some, hr, h1, ha, hc, hwk, hf, d4, Bool.and_false]
      · rw [whileM_nxt ?_, r2]
        simp only [F23_L0, hd, cond_true, cond_false, idx_some hg, Option.bind_some, hr, h2, ha, hc, hwk, d4]
        rcases k3 with rfl | rfl | rfl
        all_goals simp only [show ((1 : Int) == 1) = true from rfl, show ((1 : Int) == 2) = false from rfl, show ((1 : Int) == 3) = false from rfl, show ((2 : Int) == 1) = false from rfl, show ((2 : Int) == 2) = true from rfl, show ((2 : Int) == 3) = false from rfl, show ((3 : Int) == 1) = false from rfl, show ((3 : Int) == 2) = false from rfl, show ((3 : Int) == 3) = true from rfl, cond_true, cond_false, Option.bind_some, hm, l1', l2', Ctl.on]
theorem f24_self (l : List Nt) (hl : l.length ≤ 1000) : F24 l l = some true := by
  have hw : whileM (F24_L0 l l) 0 = some (.brk ()) := by
    refine while_upto (fun (k : Nat) => (k : Int)) l.length (fun k hk => ?_) ?_ (fun s h => by cases h)
    · have hd : decide ((k : Int) < (l.length : Int)) = true := by simpa using hk
      have e : (!((l[k].1 == l[k].1) && ((l[k].2 == l[k].2) && true))) = false := by simp [bytes_eq]
      simp only [F24_L0, hd, cond_true, idx_some (List.getElem?_eq_getElem hk), Option.bind_some, e, cond_false, w64_succ hk (show l.length ≤ 9223372036854775807 by omega)]
    · have hd : decide ((l.length : Int) < (l.length : Int)) = false := by simp
      simp only [F24_L0, hd, cond_false]
  have e : ((l.length : Int) != (l.length : Int)) = false := by simp
  unfold F24
  rw [e, cond_false, hw]
  rfl
theorem f8_l0 (N : List (List Nt)) (hN : N.length = 6) (hb : ∀ n ∈ N, n.length ≤ 60) : whileM (F8_L0 N N) 0 = some (.brk ()) := by
  refine while_upto (fun (k : Nat) => (k : Int)) N.length (fun k hk => ?_) ?_ (fun s h => by cases h)
  · have hd : decide ((k : Int) < (N.length : Int)) = true := by simpa using hk
    have e := f24_self N[k] (by have := hb _ (List.getElem_mem hk); omega)
    simp only [F8_L0, hd, cond_true, idx_some (List.getElem?_eq_getElem hk), Option.bind_some, e, Bool.not_true, cond_false, w64_succ hk (show N.length ≤ 9223372036854775807 by omega)]
  · have hd : decide ((N.length : Int) < (N.length : Int)) = false := by simp
    simp only [F8_L0, hd, cond_false]
theorem law_WatchPlays (a0 : List Ask) (h : a0.length ≤ 140737488351232) (wf : ∀ x ∈ a0, (i64 x.1) ∧ (True) ∧ ((i64 x.2.2.1) ∧ (x.2.2.2.1.size ≤ maxLen) ∧ (x.2.2.2.2.1.size ≤ maxLen) ∧ (i64 x.2.2.2.2.2))) : F8 a0 = some true := by
  cases c : decide ((a0.length : Int) > 60) with
  | true =>
    have e : F22 a0 = some ([], [], 1) := by unfold F22; rw [c]; rfl
    unfold F8
    simp only [e, c, Option.bind_some]
    rfl
  | false =>
    have hl : a0.length ≤ 60 := by rw [decide_eq_false_iff_not] at c; omega
    have hR := R.start
    have hS : Rel (mzero : Ky → Option Bool) [] := fun j => by rw [if_neg (by simp)]; rfl
    obtain ⟨ts, S, M, N, r1, r2, r3, r4, r5, r6⟩ := watch_loop a0 hl (fun a q => (wf a q).2.2.2.1) a0.length 0 [] mzero (mupd mzero (ByteArray.mk #[47]) (ByteArray.empty, 0)) [(ByteArray.mk #[47], ByteArray.empty, 0)] [] (List.replicate 6 []) (by omega) rfl (fun t q => by cases q) hR hS (fun w q => by cases q) (Nat.le_refl _) rfl (fun n q => by rw [(List.mem_replicate.mp q).2]; exact Nat.le_refl _)
    have hm : mkl 6 24 ([] : List Nt) = some (List.replicate 6 []) := by unfold mkl; rw [if_pos ⟨by decide, by decide, by decide⟩]; rfl
    have h26 : F26 = some (mupd mzero (ByteArray.mk #[47]) (ByteArray.empty, 0)) := rfl
    have h20 : F20 = some [(ByteArray.mk #[47], ByteArray.empty, 0)] := rfl
    have r1 : whileM (F22_L0 a0) ([], mzero, mupd mzero (ByteArray.mk #[47]) (ByteArray.empty, 0), List.replicate 6 [], 0) = some (.brk (ts, S, M, N)) := r1
    have r2 : whileM (F23_L0 a0) ([(ByteArray.mk #[47], ByteArray.empty, 0)], [], [], List.replicate 6 [], 0) = some (.brk (ts, N)) := r2
    have e1 : F22 a0 = some (ts, N, 0) := by
      unfold F22
      simp only [c, cond_false, h26, hm, Option.bind_some, r1, Ctl.on]
    have e2 : F23 a0 = some (ts, N) := by
      unfold F23
      simp only [h20, hm, Option.bind_some, r2, Ctl.on]
    have e3 := f13_self ts (by omega) r4
    have e4 := f8_l0 N r5 r6
    have e5 : ((N.length : Int) != (N.length : Int)) = false := by simp
    unfold F8
    simp only [e1, c, cond_false, e2, Option.bind_some, show ((0 : Int) != 0) = false from rfl, e3, Bool.not_true, e5, Bool.or_false, e4, Ctl.on]
end Go.Proofs.YtadfgohglcglcaaDoor


namespace Go.Proofs.YtadfgohglcglcaaDoor
open Go Go.Bk Go.ChangeShapes Go.WideShapes Go.ChangeAt Go.RowKit
set_option linter.unusedVariables false
set_option linter.unusedSimpArgs false
theorem tkunderlying_3_some_int_i64 : Tryd.prog.underlying 3 = some (.int .i64) := by kernel_rfl
theorem tkunderlying_4_some_bool : Tryd.prog.underlying 4 = some .bool := by kernel_rfl
theorem tkunderlying_9_some_string : Tryd.prog.underlying 9 = some .string := by kernel_rfl
theorem tkunderlying_45_some_struct_fieldsOf_45 : Tryd.prog.underlying 45 = some (.struct (Tryd.prog.fieldsOf 45)) := by kernel_rfl
theorem tkcellsOf_45_4 : Tryd.prog.cellsOf 45 = 4 := by kernel_rfl
theorem tkfieldsOf_45_0_map_fun_f_f_type_f_offset_some_3_0 : ((Tryd.prog.fieldsOf 45)[0]?).map (fun f => (f.type, f.offset)) = some (3, 0) := by kernel_rfl
theorem tkcellsOf_3_1 : Tryd.prog.cellsOf 3 = 1 := by kernel_rfl
theorem tkfieldsOf_45_1_map_fun_f_f_type_f_offset_some_9_1 : ((Tryd.prog.fieldsOf 45)[1]?).map (fun f => (f.type, f.offset)) = some (9, 1) := by kernel_rfl
theorem tkcellsOf_9_1 : Tryd.prog.cellsOf 9 = 1 := by kernel_rfl
theorem tkfieldsOf_45_2_map_fun_f_f_type_f_offset_some_9_2 : ((Tryd.prog.fieldsOf 45)[2]?).map (fun f => (f.type, f.offset)) = some (9, 2) := by kernel_rfl
theorem tkfieldsOf_45_3_map_fun_f_f_type_f_offset_some_3_3 : ((Tryd.prog.fieldsOf 45)[3]?).map (fun f => (f.type, f.offset)) = some (3, 3) := by kernel_rfl
theorem tkunderlying_90_some_struct_fieldsOf_90 : Tryd.prog.underlying 90 = some (.struct (Tryd.prog.fieldsOf 90)) := by kernel_rfl
theorem tkcellsOf_90_6 : Tryd.prog.cellsOf 90 = 6 := by kernel_rfl
theorem tkfieldsOf_90_0_map_fun_f_f_type_f_offset_some_3_0 : ((Tryd.prog.fieldsOf 90)[0]?).map (fun f => (f.type, f.offset)) = some (3, 0) := by kernel_rfl
theorem tkfieldsOf_90_1_map_fun_f_f_type_f_offset_some_4_1 : ((Tryd.prog.fieldsOf 90)[1]?).map (fun f => (f.type, f.offset)) = some (4, 1) := by kernel_rfl
theorem tkcellsOf_4_1 : Tryd.prog.cellsOf 4 = 1 := by kernel_rfl
theorem tkfieldsOf_90_2_map_fun_f_f_type_f_offset_some_45_2 : ((Tryd.prog.fieldsOf 90)[2]?).map (fun f => (f.type, f.offset)) = some (45, 2) := by kernel_rfl
theorem tkunderlying_59_some_slice_90 : Tryd.prog.underlying 59 = some (.slice 90) := by kernel_rfl
theorem tksliceB_59_90_6_true : sliceB Tryd.prog 59 90 6 = true := by kernel_rfl
theorem tkbytesOf_90_64 : Tryd.prog.bytesOf 90 = 64 := by kernel_rfl
theorem tkownKnob_godebug_none : ownKnob Tryd.prog.godebug = none := by kernel_rfl
theorem tklaidOutB_true : laidOutB Tryd.prog = true := by kernel_rfl
theorem opens_45 {H : Type} {enc : TypeId × Value → H} {W : World} : Opens Tryd.prog W enc 45 cTissi (fun y => (i64 y.1) ∧ (y.2.1.size ≤ maxLen) ∧ (y.2.2.1.size ≤ maxLen) ∧ (i64 y.2.2.2)) := fun n cs x h => by
  obtain ⟨xs, m, _, _, hl, hlen, hf⟩ := DataW.trod_struct tkunderlying_45_some_struct_fieldsOf_45 h
  rw [tkcellsOf_45_4] at hl
  obtain ⟨y0, e0, w0⟩ := field_open (i := 0) (opens_int tkunderlying_3_some_int_i64) hlen hf tkfieldsOf_45_0_map_fun_f_f_type_f_offset_some_3_0 tkcellsOf_3_1
  obtain ⟨y1, e1, w1⟩ := field_open (i := 1) (opens_str tkunderlying_9_some_string) hlen hf tkfieldsOf_45_1_map_fun_f_f_type_f_offset_some_9_1 tkcellsOf_9_1
  obtain ⟨y2, e2, w2⟩ := field_open (i := 2) (opens_str tkunderlying_9_some_string) hlen hf tkfieldsOf_45_2_map_fun_f_f_type_f_offset_some_9_2 tkcellsOf_9_1
  obtain ⟨y3, e3, w3⟩ := field_open (i := 3) (opens_int tkunderlying_3_some_int_i64) hlen hf tkfieldsOf_45_3_map_fun_f_f_type_f_offset_some_3_3 tkcellsOf_3_1
  clear hf h
  match cs, hl with
  | [c0, c1, c2, c3], _ =>
    simp [cI, cU, cB, cS] at e0
    simp [cI, cU, cB, cS] at e1
    simp [cI, cU, cB, cS] at e2
    simp [cI, cU, cB, cS] at e3
    exact ⟨(y0, y1, y2, y3), by simp [e0, e1, e2, e3], w0, w1, w2, w3⟩
theorem opens_90 {H : Type} {enc : TypeId × Value → H} {W : World} : Opens Tryd.prog W enc 90 cTibissi (fun y => (i64 y.1) ∧ (True) ∧ ((i64 y.2.2.1) ∧ (y.2.2.2.1.size ≤ maxLen) ∧ (y.2.2.2.2.1.size ≤ maxLen) ∧ (i64 y.2.2.2.2.2))) := fun n cs x h => by
  obtain ⟨xs, m, _, _, hl, hlen, hf⟩ := DataW.trod_struct tkunderlying_90_some_struct_fieldsOf_90 h
  rw [tkcellsOf_90_6] at hl
  obtain ⟨y0, e0, w0⟩ := field_open (i := 0) (opens_int tkunderlying_3_some_int_i64) hlen hf tkfieldsOf_90_0_map_fun_f_f_type_f_offset_some_3_0 tkcellsOf_3_1
  obtain ⟨y1, e1, w1⟩ := field_open (i := 1) (opens_bool tkunderlying_4_some_bool) hlen hf tkfieldsOf_90_1_map_fun_f_f_type_f_offset_some_4_1 tkcellsOf_4_1
  obtain ⟨y2, e2, w2⟩ := field_open (i := 2) opens_45 hlen hf tkfieldsOf_90_2_map_fun_f_f_type_f_offset_some_45_2 tkcellsOf_45_4
  clear hf h
  match cs, hl with
  | [c0, c1, c2, c3, c4, c5], _ =>
    simp [cI, cU, cB, cS] at e0
    simp [cI, cU, cB, cS] at e1
    simp [cI, cU, cB, cS] at e2
    exact ⟨(y0, y1, y2), by simp [e0, e1, e2], w0, w1, w2⟩
set_option maxRecDepth 100000 in
theorem watchPlays_lifted (os : Os) (started : os.Started) (H : Type) (enc : TypeId × Value → H) :
    ReturnsInHanded Rows.watchPlaysRow.assume Tryd.checked os 8 .any (fun w args => (Rows.watchPlaysSpec.pre enc Tryd.prog Tryd.f8 Rows.watchPlaysRow.domain false w args ∧ laidMetH Tryd.prog Rows.watchPlaysRow.laid w) ∧ sizedMet enc Tryd.prog Tryd.f8 (OpenSpec.ofChange Rows.watchPlaysSpec) false w args) (Rows.watchPlaysSpec.post enc Tryd.prog Tryd.f8 false true false false) := by
  refine returnsInHanded_of_change_and (C := Tryd.checked) (X := fun w _ => laidMetH Tryd.prog Rows.watchPlaysRow.laid w) (fun _ _ _ hh h => h.of_heap hh) tkownKnob_godebug_none started (by kernel_rfl) Tryd.func8
    (ChangeSpec.witness_shaped (enc := enc) (C := Tryd.checked) (os := os) (X := fun w _ => laidMetH Tryd.prog Rows.watchPlaysRow.laid w) false (World.laidAll Tryd.prog os Rows.watchPlaysRow.laid) #[.slice none 0 0] 8 (World.laidAll_os _ _ _)
      (World.shaped_of_ZipB (by kernel_rfl) (by kernel_rfl)) (by kernel_rfl) (by kernel_rfl) (by kernel_rfl)
      (by rw [MakeChecks.laidMetH_plain _ _ _ (by kernel_rfl)]; exact laidMet_laidAll _ (by kernel_rfl) (by kernel_rfl))) ?_
  intro W base args ds gs before hval0 hW hcnd hwt hL _
  have hval : ∀ (j : Nat) t v, Tryd.f8.params[j]? = some t → args[j]? = some v → Value.okWide Tryd.prog W .any base t v := hval0
  have hW' := hW
  obtain ⟨p, q, hA0, hV, rfl, hfz, hnd⟩ := hW
  have hA : DataW.TrodAll enc Tryd.prog W 0 (fun _ => true) true Tryd.f8.params.toList args.toList ds p := hA0
  rw [Tryd.params8] at hA hval
  obtain ⟨v0, vs0, d0, ds0, p0, q0, hargs, rfl, rfl, h0, r0⟩ := trodAll_cons hA
  obtain ⟨rfl, rfl, rfl⟩ := trodAll_nil r0
  obtain rfl : args = #[v0] := by cases args; simp_all
  obtain ⟨rfl, rfl⟩ := trodVars_none hV
  have hh0 := h0
  obtain ⟨x0, en0, ln0, wf0⟩ := open_rd tksliceB_59_90_6_true (by decide) (okWide_slice tkunderlying_59_some_slice_90 (hval 0 59 v0 rfl rfl)) h0 opens_90
  have lb0 := open_len tkunderlying_59_some_slice_90 hh0 (fun n hn => by simpa using List.all_eq_true.1 hwt n (DataW.weights_mem_each (j := 0) (t := 59) rfl rfl n hn)) en0 tkbytesOf_90_64 (by decide)
  clear hA0 hval0
  refine (C8 en0 (law_WatchPlays x0 lb0 wf0) (St.start W)).mono fun e W' ⟨he, hs⟩ => ?_
  subst he
  have bel := hs.below
  exact ⟨_, rfl, _, _, _, [], _, [], hW', trodAll_mk1 (shut_bool tkunderlying_4_some_bool _), (trodAll_cons_mk (trod_below tklaidOutB_true (by kernel_rfl) (of_decide_eq_true (by kernel_rfl)) hh0 bel) trodAll_mk0), rfl, bel.frame _, fun h => by cases h⟩

theorem watchPlays_row : Rows.WatchPlaysSaid :=
  OpenClaim.holds_of_wide 8 Tryd.f8 rfl rfl rfl rfl rfl rfl rfl ⟨rfl, rfl, rfl, rfl, rfl⟩ rfl rfl rfl rfl rfl (by kernel_rfl) Tryd.func8 (by kernel_rfl)
    (of_decide_eq_true (by kernel_rfl)) (by unfold Func.isWrapper; first | (rw [if_pos (by decide +kernel)]; kernel_rfl) | (rw [if_neg (by decide +kernel)]; exact ⟨rfl, rfl⟩))
    (fun os started H enc _ => watchPlays_lifted os started H enc)
theorem watchPlays_holds : Rows.WatchPlaysCardSaid :=
  Claim7.holds_tied_plain_at .later [] [.data, .pinned] true (true, "0889df3315a1edfbd6ae7a38e6e38c776aedd44776af9dd68cd7c9e4c0d4b7b5") false watchPlays_row (fun _ h => by cases h) (by kernel_rfl) (fun _ h => by cases h) watchPlays_row_tie rfl ⟨rfl, rfl⟩ (by kernel_rfl) rfl
    (fun f fn hf hfn => by
      obtain rfl : f = 8 := Option.some.inj ((show Tryd.prog.funcNamed "beaconry/beaconrylaw.WatchPlays" = some 8 by kernel_rfl).symm.trans hf) |>.symm
      obtain rfl : fn = Tryd.f8 := (Option.some.inj (Tryd.func8.symm.trans hfn)).symm
      exact ⟨by kernel_rfl, fun j t ht => by
        rw [Tryd.params8] at ht
        have hm : t ∈ [59] := by simpa using Array.mem_of_getElem? ht
        have hall : ([59].all fun u => !Tryd.prog.wantsStandIn u) = true := by kernel_rfl
        exact (show Tryd.prog.wantsStandIn t = false by simpa using List.all_eq_true.1 hall t hm)⟩)
    (by kernel_rfl)
#print axioms watchPlays_holds
end Go.Proofs.YtadfgohglcglcaaDoor
