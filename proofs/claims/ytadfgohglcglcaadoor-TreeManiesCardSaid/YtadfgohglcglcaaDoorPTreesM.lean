/-
  Plain laws, laid into one text: PName, PBelow, PTree, PDeed, PTreePlays, PTreeManies.
-/
import Derived.Test.YtadfgohglcglcaaDoorKM
import Derived.Test.YtadfgohglcglcaaDoorPl
import Derived.Test.YtadfgohglcglcaaDoorPw
import Derived.Laws.RangeAny
import Derived.Laws.RangeString
import Derived.Lib.IndexLaws
import Derived.Sort.Walk0
import Derived.Test.YtadfgohglcglcaaDoorBk6
import Derived.Test.YtadfgohglcglcaaDoorMM
namespace Go.Proofs.YtadfgohglcglcaaDoor
open Go Go.Bk
set_option linter.unusedVariables false
set_option linter.unusedSimpArgs false
theorem sEq_iff (x y : ByteArray) : sEq x y = decide (x = y) := by
  unfold sEq
  rw [ByteArray.toList_eq, ByteArray.toList_eq]
  by_cases h : x = y
  · subst h; simp
  · rw [decide_eq_false h, beq_eq_false_iff_ne]
    intro e
    apply h
    rw [← lb_bl x, ← lb_bl y]
    exact congrArg lb e
theorem bget (s : ByteArray) (i : Nat) : s[i]? = (bl s)[i]? := by
  unfold bl
  by_cases h : i < s.size
  · rw [getElem?_pos s i h, Array.getElem?_toList, Array.getElem?_eq_getElem h]; rfl
  · rw [getElem?_neg s i h, Array.getElem?_toList, Array.getElem?_eq_none (by simpa using h)]
theorem bl_len (s : ByteArray) : (bl s).length = s.size := by unfold bl; simp
theorem bl_extract (s : ByteArray) (a b : Nat) : bl (s.extract a b) = ((bl s).take b).drop a := by
  unfold bl
  rw [ByteArray.data_extract, Array.toList_extract, List.drop_take]
theorem bl_inj {x y : ByteArray} (h : bl x = bl y) : x = y := by rw [← lb_bl x, ← lb_bl y, h]
def inr (c : UInt8) : Bool := decide (97 ≤ c.toNat) && decide (c.toNat ≤ 122)
def fR (x : Nat) : Bool := decide ((x : Int) < 97) || decide ((x : Int) > 122)
theorem fR_lo (c : UInt8) : fR c.toNat = !inr c := by
  unfold fR inr
  by_cases a : 97 ≤ c.toNat <;> by_cases b : c.toNat ≤ 122 <;> simp [a, b] <;> omega
theorem idxF (s : ByteArray) : ∀ fuel pos, s.size ≤ pos + fuel → decide (0 ≤ Lib.idxFuncFrom fR true s fuel pos) = ((bl s).drop pos).any (fun c => !inr c)
  | 0, pos, h => by
    rw [List.drop_eq_nil_of_le (by rw [bl_len]; omega)]
    rfl
  | fuel + 1, pos, h => by
    unfold Lib.idxFuncFrom
    by_cases hp : pos < s.size
    · rw [if_pos hp]
      have hg : (bl s)[pos]? = some (s[pos]'hp) := by rw [← bget, getElem?_pos s pos hp]
      have hd : (bl s).drop pos = s[pos]'hp :: (bl s).drop (pos + 1) := by
        rw [← List.getElem_cons_drop (by rw [bl_len]; exact hp)]
        congr 1
      rw [hd, List.any_cons]
      by_cases ha : (s[pos]'hp).toNat < 128
      · rw [decode_ascii s pos hp ha]
        simp only [fR_lo]
        cases inr (s[pos]'hp) with
        | true =>
          simp only [Bool.not_true, Bool.false_or, Bool.false_eq_true, if_false]
          exact idxF s fuel (pos + 1) (by omega)
        | false => simp
      · obtain ⟨h1, _⟩ := decode_high s pos hp (by omega)
        have h2 : fR (Utf8.decode s pos).1 = true := by unfold fR; simp; omega
        have h3 : inr (s[pos]'hp) = false := by unfold inr; simp; omega
        rw [if_pos h2, h3]
        simp
    · rw [if_neg hp, List.drop_eq_nil_of_le (by rw [bl_len]; omega)]
      rfl
theorem goodP_val (s : ByteArray) : goodP s = (!(bl s).isEmpty && (bl s).all inr) := by
  unfold goodP Lib.idxFunc
  have h := idxF s s.size 0 (by omega)
  unfold fR at h
  rw [h, List.drop_zero, sEq_iff, Bool.not_or]
  congr 1
  · have : (s = ByteArray.mk #[]) ↔ bl s = [] := ⟨fun e => by rw [e]; rfl, fun e => bl_inj (by rw [e]; rfl)⟩
    rw [decide_eq_decide.2 this]
    by_cases e : bl s = []
    · have : (bl s).isEmpty = true := by simpa using e
      rw [this, decide_eq_true e]
    · have : (bl s).isEmpty = false := by simpa using e
      rw [this, decide_eq_false e]
  · rw [List.all_eq_not_any_not]
/-- All parts are there and good. -/
def okL : Bool → List UInt8 → Bool
  | st, [] => !st
  | st, c :: cs => if c = 47 then !st && okL true cs else inr c && okL false cs
theorem okL_nil (st : Bool) : okL st [] = !st := rfl
theorem okL_cons (st : Bool) (c : UInt8) (cs : List UInt8) : okL st (c :: cs) = if c = 47 then !st && okL true cs else inr c && okL false cs := rfl
theorem inr47 : inr 47 = false := by decide
theorem okL_end {bs : List UInt8} (h : Lib.indexByte bs 47 < 0) : ∀ st, okL st bs = (bs.all inr && (!st || !bs.isEmpty)) := by
  induction bs with
  | nil => intro st; simp [okL]
  | cons b bs ih =>
    intro st
    unfold Lib.indexByte at h
    by_cases c : b = 47
    · subst c; simp at h
    · have hc : (b == 47) = false := by simpa using c
      rw [hc] at h
      have h2 : Lib.indexByte bs 47 < 0 := by
        have := Lib.indexByte_ge bs 47
        by_cases q : Lib.indexByte bs 47 = -1
        · omega
        · have q2 : (Lib.indexByte bs 47 == -1) = false := by simpa using q
          simp [q2] at h
          omega
      rw [okL_cons, if_neg c, ih h2 false]
      cases st <;> simp
theorem okL_more {bs : List UInt8} {i : Nat} (h : Lib.indexByte bs 47 = (i : Int)) : ∀ st, okL st bs = (((bs.take i).all inr && (!st || !(bs.take i).isEmpty)) && okL true (bs.drop (i + 1))) := by
  induction bs generalizing i with
  | nil => unfold Lib.indexByte at h; omega
  | cons b bs ih =>
    intro st
    unfold Lib.indexByte at h
    by_cases c : b = 47
    · subst c
      have : i = 0 := by simp at h; omega
      subst this
      rw [okL_cons, if_pos rfl]
      simp
    · have hc : (b == 47) = false := by simpa using c
      rw [hc] at h
      by_cases q : Lib.indexByte bs 47 = -1
      · simp [q] at h
      · have q2 : (Lib.indexByte bs 47 == -1) = false := by simpa using q
        simp only [q2, Bool.false_eq_true, if_false] at h
        have := Lib.indexByte_ge bs 47
        obtain ⟨j, hj⟩ := Int.eq_ofNat_of_zero_le (show 0 ≤ Lib.indexByte bs 47 by omega)
        have : i = j + 1 := by omega
        subst this
        rw [okL_cons, if_neg c, ih hj false, List.drop_succ_cons, List.take_succ_cons]
        cases st <;> simp [Bool.and_assoc]
theorem allG_val : ∀ (n : Nat) (s : ByteArray), s.size ≤ n → allG n s = okL true (bl s)
  | 0, s, h => by
    have : bl s = [] := List.eq_nil_of_length_eq_zero (by rw [bl_len]; omega)
    show goodP s = _
    rw [goodP_val, this]; rfl
  | n + 1, s, h => by
    unfold allG
    by_cases c : cutAt s < 0
    · rw [decide_eq_true c, cond_true, goodP_val, okL_end (bs := bl s) c true]
      simp [Bool.and_comm]
    · obtain ⟨i, hi⟩ := Int.eq_ofNat_of_zero_le (show 0 ≤ cutAt s by omega)
      have hi' : Lib.indexByte (bl s) 47 = (i : Int) := hi
      rw [decide_eq_false c, cond_false, hi, okL_more hi' true, goodP_val, bl_extract]
      have hlt : i < s.size := by
        have h1 := (Lib.indexByte_some hi').1
        have h2 := (List.getElem?_eq_some_iff.1 h1).1
        rw [bl_len] at h2; exact h2
      rw [Int.toNat_natCast, allG_val n (s.extract (i + 1) s.size) (by rw [ByteArray.size_extract]; omega), bl_extract, List.drop_zero]
      have : (bl s).take s.size = bl s := List.take_of_length_le (by rw [bl_len]; exact Nat.le_refl _)
      rw [this]
      simp [Bool.and_comm]
/-- What a name is. -/
def nameB (p : ByteArray) : Bool := match bl p with
  | [] => false
  | c :: cs => if c = 47 then cs.isEmpty || okL true cs else false

theorem sidx_at {p : ByteArray} {j : Nat} {c : UInt8} (h : (bl p)[j]? = some c) : sidx p (j : Int) = some (c.toNat : Int) := by
  unfold sidx
  rw [if_pos (by omega), Int.toNat_natCast, bget, h]; rfl
theorem u47 (c : UInt8) : ((c.toNat : Int) == 47) = decide (c = 47) := by
  by_cases h : c = 47
  · subst h; rfl
  · rw [decide_eq_false h, beq_eq_false_iff_ne]
    intro e
    apply h
    have : c.toNat = (47 : UInt8).toNat := by
      have h2 : (47 : UInt8).toNat = 47 := rfl
      omega
    exact UInt8.toNat_inj.1 this
theorem uinr (c : UInt8) : (decide ((c.toNat : Int) < 97) || decide ((c.toNat : Int) > 122)) = !inr c := by
  have := fR_lo c
  unfold fR at this
  exact this
theorem sslc_at {s : ByteArray} {a b : Nat} (h1 : a ≤ b) (h2 : b ≤ s.size) : sslc s (a : Int) (b : Int) = some (s.extract a b) := by
  unfold sslc
  rw [if_pos ⟨by omega, by omega, by omega⟩]
  simp
/-- The program's look. -/
theorem f44_val (p : ByteArray) : F44 p (ByteArray.mk #[47]) = some (match bl p with
    | c :: _ => if c = 47 then (p.extract 1 p.size, true) else (p, false)
    | [] => (p, false)) := by
  have hs : (((ByteArray.mk #[47]).size : Nat) : Int) = ((1 : Nat) : Int) := rfl
  unfold F44 F50 F56
  rw [hs]
  cases hp : bl p with
  | nil =>
    have : p.size = 0 := by rw [← bl_len, hp]; rfl
    have hd : decide ((p.size : Int) ≥ ((1 : Nat) : Int)) = false := by rw [decide_eq_false_iff_not]; omega
    rw [hd]
    rfl
  | cons c cs =>
    have hl : p.size = cs.length + 1 := by rw [← bl_len, hp]; rfl
    have hd : decide ((p.size : Int) ≥ ((1 : Nat) : Int)) = true := by rw [decide_eq_true_eq]; omega
    have h1 : sslc p 0 ((1 : Nat) : Int) = some (p.extract 0 1) := sslc_at (a := 0) (by omega) (by omega)
    have h2 : sslc p ((1 : Nat) : Int) (p.size : Int) = some (p.extract 1 p.size) := sslc_at (by omega) (by omega)
    have he : sEq (p.extract 0 1) (ByteArray.mk #[47]) = decide (c = 47) := by
      rw [sEq_iff]
      apply decide_eq_decide.2
      constructor
      · intro h
        have := congrArg bl h
        rw [bl_extract, hp] at this
        simpa [bl] using this
      · intro h
        subst h
        apply bl_inj
        rw [bl_extract, hp]
        rfl
    rw [hd, h1, h2]
    simp only [cond_true, Option.bind_some, he]
    by_cases hc : c = 47 <;> simp [hc]
theorem f35_val {p : ByteArray} (hs : p.size ≤ 9223372036854775807) : F35 p = some (nameB p) := by
  unfold F35 nameB
  rw [f44_val, sEq_iff]
  cases hp : bl p with
  | nil =>
    have : p ≠ ByteArray.mk #[47] := fun e => by rw [e] at hp; cases hp
    simp [this]
  | cons c cs =>
    have hl : p.size = cs.length + 1 := by rw [← bl_len, hp]; rfl
    by_cases hc : c = 47
    · subst hc
      by_cases he : cs = []
      · subst he
        have : p = ByteArray.mk #[47] := bl_inj (by rw [hp]; rfl)
        simp [this]
      · have : p ≠ ByteArray.mk #[47] := fun e => by
          rw [e] at hp
          have h2 : bl (ByteArray.mk #[47]) = [47] := rfl
          rw [h2] at hp
          exact he (List.cons.inj hp).2.symm
        have h3 : cs.isEmpty = false := by simpa using he
        have h4 : (p.extract 1 p.size).size ≤ 9223372036854775807 := by rw [ByteArray.size_extract]; omega
        have h5 : bl (p.extract 1 p.size) = cs := by
          rw [bl_extract, hp, List.take_of_length_le (by simp; omega)]; rfl
        simp only [this, decide_false, cond_false, if_true, Option.bind_some, Bool.not_true, if_pos h4, h3, Bool.false_or]
        rw [allG_val _ _ (Nat.le_refl _), h5]
    · have : p ≠ ByteArray.mk #[47] := fun e => by
        rw [e] at hp
        have h2 : bl (ByteArray.mk #[47]) = [47] := rfl
        rw [h2] at hp
        exact hc (List.cons.inj hp).1.symm
      simp [this, hc]
/-! The reference's look. -/
/-- No fault behind a letter. -/
def nb : UInt8 → List UInt8 → Bool
  | _, [] => true
  | pv, c :: cs => (if c = 47 then !decide (pv = 47) else inr c) && nb c cs
theorem okL_nb : ∀ (cs : List UInt8) (pv : UInt8), okL (decide (pv = 47)) cs = (!decide ((pv :: cs).getLast (by simp) = 47) && nb pv cs)
  | [], pv => by
    rw [okL_nil]
    by_cases h : pv = 47 <;> simp [nb, h]
  | c :: cs, pv => by
    have ih := okL_nb cs c
    rw [okL_cons, List.getLast_cons (by simp)]
    unfold nb
    by_cases h : c = 47
    · rw [if_pos h, if_pos h]
      rw [decide_eq_true h] at ih
      rw [ih]
      cases decide (pv = 47) <;> simp
    · rw [if_neg h, if_neg h]
      rw [decide_eq_false h] at ih
      rw [ih]
      cases inr c <;> simp
theorem f39_loop {p : ByteArray} (hsz : p.size ≤ 9223372036854775807) : ∀ (cs : List UInt8) (j : Nat) (pv : UInt8), (bl p).drop j = cs → 0 < j → j ≤ p.size → (bl p)[j - 1]? = some pv → whileM (F39_L0 p) (j : Int) = some (if nb pv cs = true then .brk () else .ret false)
  | [], j, pv, hd, h0, hj, hp => by
    have hl : p.size ≤ j := by
      have := List.drop_eq_nil_iff.1 hd
      rwa [bl_len] at this
    have e : decide ((j : Int) < (p.size : Int)) = false := by rw [decide_eq_false_iff_not]; omega
    have hb : F39_L0 p (j : Int) = some (.brk ()) := by simp only [F39_L0, e, cond_false]
    rw [whileM_brk hb]
    rfl
  | c :: cs, j, pv, hd, h0, hj, hp => by
    have hg : (bl p)[j]? = some c := by
      have := congrArg (fun l => l[0]?) hd
      simpa [List.getElem?_drop] using this
    have hlt : j < p.size := by have := (List.getElem?_eq_some_iff.1 hg).1; rwa [bl_len] at this
    have hd2 : (bl p).drop (j + 1) = cs := by
      rw [← List.drop_drop, hd]; rfl
    have e : decide ((j : Int) < (p.size : Int)) = true := by rw [decide_eq_true_eq]; omega
    have e0 : decide ((j : Int) > 0) = true := by rw [decide_eq_true_eq]; omega
    have hj1 : w64 ((j : Int) - 1) = ((j - 1 : Nat) : Int) := by rw [w64_of (by omega) (by omega)]; omega
    have hj2 : w64 ((j : Int) + 1) = ((j + 1 : Nat) : Int) := w64_succ hlt hsz
    have ih := f39_loop hsz cs (j + 1) c hd2 (by omega) (by omega) (by simpa using hg)
    have hbody : F39_L0 p (j : Int) = (if (if c = 47 then !decide (pv = 47) else inr c) = true then some (.nxt ((j + 1 : Nat) : Int)) else some (.ret false)) := by
      have hu := uinr c
      simp only [F39_L0, e, e0, cond_true, sidx_at hg, sidx_at hp, hj1, hj2, Option.bind_some, u47]
      by_cases h : c = 47
      · rw [decide_eq_true h, if_pos h]
        by_cases q : pv = 47 <;> simp [q]
      · rw [decide_eq_false h, if_neg h, cond_false]
        cases hx : decide ((c.toNat : Int) < 97) <;> cases hy : decide ((c.toNat : Int) > 122) <;> rw [hx, hy] at hu <;> simp at hu <;> simp [hu]
    unfold nb
    by_cases h : (if c = 47 then !decide (pv = 47) else inr c) = true
    · rw [if_pos h] at hbody
      rw [whileM_nxt hbody, ih, h, Bool.true_and]
    · rw [if_neg h] at hbody
      rw [whileM_ret hbody]
      have : (if c = 47 then !decide (pv = 47) else inr c) = false := eq_false_of_ne_true h
      rw [this]; rfl
theorem f39_val {p : ByteArray} (hs : p.size ≤ 9223372036854775807) : F39 p = some (nameB p) := by
  unfold F39 nameB
  rw [sEq_iff, sEq_iff]
  cases hp : bl p with
  | nil =>
    have h1 : p ≠ ByteArray.mk #[47] := fun e => by rw [e] at hp; cases hp
    have h2 : p = ByteArray.mk #[] := bl_inj (by rw [hp]; rfl)
    rw [decide_eq_false h1, decide_eq_true h2]
    rfl
  | cons c cs =>
    have hl : p.size = cs.length + 1 := by rw [← bl_len, hp]; rfl
    have h2 : p ≠ ByteArray.mk #[] := fun e => by rw [e] at hp; cases hp
    have h0 : (bl p)[0]? = some c := by rw [hp]; rfl
    have hs0 : sidx p 0 = some (c.toNat : Int) := sidx_at h0
    have hlast : (bl p)[cs.length]? = some ((c :: cs).getLast (by simp)) := by
      rw [hp, List.getLast_eq_getElem]
      simp
    have hs1 : sidx p (w64 ((p.size : Int) - 1)) = some (((c :: cs).getLast (by simp)).toNat : Int) := by
      rw [show w64 ((p.size : Int) - 1) = ((cs.length : Nat) : Int) by rw [w64_of (by omega) (by omega)]; omega]
      exact sidx_at hlast
    show _ = some (if c = 47 then cs.isEmpty || okL true cs else false)
    by_cases hc : c = 47
    · subst hc
      by_cases he : cs = []
      · subst he
        have : p = ByteArray.mk #[47] := bl_inj (by rw [hp]; rfl)
        rw [decide_eq_true this]
        rfl
      · have h1 : p ≠ ByteArray.mk #[47] := fun e => by
          rw [e] at hp
          have h2 : bl (ByteArray.mk #[47]) = [47] := rfl
          rw [h2] at hp
          exact he (List.cons.inj hp).2.symm
        have h3 : cs.isEmpty = false := by simpa using he
        have hst : F39_L0 p 0 = some (.nxt 1) := by
          have e : decide ((0 : Int) < (p.size : Int)) = true := by rw [decide_eq_true_eq]; omega
          simp only [F39_L0, e, cond_true, hs0, Option.bind_some, u47]
          rfl
        have hlp := f39_loop (p := p) (by omega) cs 1 47 (by rw [hp]; rfl) (by omega) (by omega) (by rw [hp]; rfl)
        have hok := okL_nb cs 47
        rw [show decide ((47 : UInt8) = 47) = true from rfl] at hok
        rw [decide_eq_false h1, decide_eq_false h2, cond_false, cond_false, hs0, Option.bind_some, if_pos rfl, h3, Bool.false_or, hok]
        have e5 : (((47 : UInt8).toNat : Int) != 47) = false := rfl
        rw [e5, Option.bind_some, cond_false, hs1, Option.bind_some, u47, Option.bind_some]
        cases decide ((47 :: cs).getLast (by simp) = 47) with
        | true => rfl
        | false =>
          rw [cond_false, whileM_nxt hst]
          have hlp' : whileM (F39_L0 p) 1 = _ := hlp
          rw [hlp']
          cases nb 47 cs <;> rfl
    · have h1 : p ≠ ByteArray.mk #[47] := fun e => by
        rw [e] at hp
        have h2 : bl (ByteArray.mk #[47]) = [47] := rfl
        rw [h2] at hp
        exact hc (List.cons.inj hp).1.symm
      have e5 : ((c.toNat : Int) != 47) = true := by rw [bne, u47, decide_eq_false hc]; rfl
      rw [decide_eq_false h1, decide_eq_false h2, cond_false, cond_false, hs0, Option.bind_some, e5, Option.bind_some, cond_true, if_neg hc]
      rfl
end Go.Proofs.YtadfgohglcglcaaDoor

namespace Go.Proofs.YtadfgohglcglcaaDoor
open Go Go.Bk
set_option linter.unusedVariables false
set_option linter.unusedSimpArgs false
theorem last_ex {p : ByteArray} {cs : List UInt8} (hp : bl p = 47 :: cs) (hs : p.size ≤ 9223372036854775807) : ∀ k, k < p.size → ∃ i, i ≤ k ∧ (bl p)[i]? = some 47 ∧ whileM (F55_L0 p 47) (k : Int) = some (.ret (i : Int)) ∧ whileM (F32_L0 p) (k : Int) = some (.brk (i : Int)) := by
  intro k
  induction k with
  | zero =>
    intro hk
    have hg : (bl p)[0]? = some 47 := by rw [hp]; rfl
    have e : decide (((0 : Nat) : Int) ≥ 0) = true := rfl
    refine ⟨0, Nat.le_refl _, hg, whileM_ret ?_, whileM_brk ?_⟩
    · simp only [F55_L0, e, cond_true, sidx_at hg, Option.bind_some]; rfl
    · simp only [F32_L0, sidx_at hg, Option.bind_some]; rfl
  | succ k ih =>
    intro hk
    have hl : k + 1 < (bl p).length := by rw [bl_len]; exact hk
    have hg : (bl p)[k + 1]? = some (bl p)[k + 1] := List.getElem?_eq_getElem hl
    have e : decide (((k + 1 : Nat) : Int) ≥ 0) = true := by rw [decide_eq_true_eq]; omega
    have hw : w64 (((k + 1 : Nat) : Int) - 1) = ((k : Nat) : Int) := by rw [w64_of (by omega) (by omega)]; omega
    generalize (bl p)[k + 1] = c at hg
    by_cases hc : c = 47
    · subst hc
      refine ⟨k + 1, Nat.le_refl _, hg, whileM_ret ?_, whileM_brk ?_⟩
      · simp only [F55_L0, e, cond_true, sidx_at hg, Option.bind_some]; rfl
      · simp only [F32_L0, sidx_at hg, Option.bind_some]; rfl
    · obtain ⟨i, h1, h2, h3, h4⟩ := ih (by omega)
      have hu := u47 c
      rw [decide_eq_false hc] at hu
      refine ⟨i, by omega, h2, ?_, ?_⟩
      · rw [whileM_nxt (s' := (k : Int)) ?_, h3]
        simp only [F55_L0, e, cond_true, sidx_at hg, Option.bind_some, hu, cond_false, hw]
      · rw [whileM_nxt (s' := (k : Int)) ?_, h4]
        have hu2 : ((c.toNat : Int) != 47) = true := by rw [bne, hu]; rfl
        simp only [F32_L0, sidx_at hg, Option.bind_some, hu2, cond_true, hw]
theorem name_cons {p : ByteArray} (h : nameB p = true) : ∃ cs, bl p = 47 :: cs := by
  unfold nameB at h
  cases hp : bl p with
  | nil => rw [hp] at h; cases h
  | cons c cs =>
    rw [hp] at h
    by_cases hc : c = 47
    · exact ⟨cs, by rw [hc]⟩
    · simp [hc] at h
/-- The parent, and the last part. -/
noncomputable def prt (p : ByteArray) : ByteArray × ByteArray := (F42 p).getD (ByteArray.empty, ByteArray.empty)
/-- A name as it may be. -/
structure OkN (p : ByteArray) : Prop where
  nm : nameB p = true
  sz : p.size ≤ 9223372036854775807
theorem prt_val {p : ByteArray} (h : OkN p) : F42 p = some (prt p) ∧ F32 p = some (prt p) := by
  have hb := h.sz
  obtain ⟨cs, hp⟩ := name_cons h.nm
  have hl : p.size = cs.length + 1 := by rw [← bl_len, hp]; rfl
  have hz : (0 : Int) < (p.size : Int) := by omega
  obtain ⟨i, h1, h2, h3, h4⟩ := last_ex hp (by omega) (p.size - 1) (by omega)
  have hs : w64 ((p.size : Int) - 1) = ((p.size - 1 : Nat) : Int) := by rw [w64_of (by omega) (by omega)]; omega
  have hi : i < p.size := by omega
  have hi1 : w64 ((i : Int) + 1) = ((i + 1 : Nat) : Int) := w64_succ hi (by omega)
  have hx5 : sslc p ((i + 1 : Nat) : Int) (p.size : Int) = some (p.extract (i + 1) p.size) := sslc_at (by omega) (by omega)
  have key : ∃ r, F42 p = some r ∧ F32 p = some r := by
    unfold F42 F49 F55 F32
    rw [hs, h3, h4]
    simp only [Option.bind_some, Ctl.on, hi1, hx5]
    by_cases c : i = 0
    · subst c
      have e0 : (((0 : Nat) : Int) == 0) = true := rfl
      have e1 : mx ((0 : Nat) : Int) 1 = ((1 : Nat) : Int) := rfl
      have e2 : sslc p 0 ((1 : Nat) : Int) = some (p.extract 0 1) := sslc_at (a := 0) (by omega) (by omega)
      have e3 : sslc p 1 (p.size : Int) = some (p.extract 1 p.size) := sslc_at (a := 1) (by omega) (by omega)
      have e4 : p.extract 0 1 = ByteArray.mk #[47] := by apply bl_inj; rw [bl_extract, hp]; rfl
      rw [e0, e1, e2, e3, e4]
      exact ⟨_, rfl, rfl⟩
    · have e0 : ((i : Int) == 0) = false := by rw [beq_eq_false_iff_ne]; omega
      have e1 : mx (i : Int) 1 = (i : Int) := by unfold mx; split <;> omega
      have e2 : sslc p 0 (i : Int) = some (p.extract 0 i) := sslc_at (a := 0) (by omega) (by omega)
      rw [e0, e1, e2]
      exact ⟨_, rfl, rfl⟩
  obtain ⟨r, k1, k2⟩ := key
  have : prt p = r := by unfold prt; rw [k1]; rfl
  rw [this]
  exact ⟨k1, k2⟩

/-! Sorting. -/
theorem sLt_iff (x y : ByteArray) : sLt x y = decide (bl x < bl y) := by
  unfold sLt
  rw [ByteArray.toList_eq, ByteArray.toList_eq]
  exact Go.Proofs.bytesLess_eq _ _
def insD (x : ByteArray) : List ByteArray → List ByteArray
  | [] => [x]
  | z :: rs => if sLt x z = true then z :: insD x rs else x :: z :: rs
theorem insD_perm (x : ByteArray) : ∀ rs, (insD x rs).Perm (x :: rs)
  | [] => List.Perm.refl _
  | z :: rs => by
    unfold insD
    split
    · exact ((insD_perm x rs).cons z).trans (List.Perm.swap x z rs)
    · exact List.Perm.refl _
def Dsc (rs : List ByteArray) : Prop := rs.Pairwise fun a b => bl b ≤ bl a
theorem insD_dsc {x : ByteArray} : ∀ {rs : List ByteArray}, Dsc rs → Dsc (insD x rs)
  | [], _ => List.pairwise_singleton _ _
  | z :: rs, h => by
    obtain ⟨h1, h2⟩ := List.pairwise_cons.1 h
    unfold insD
    split
    · rename_i c
      rw [sLt_iff, decide_eq_true_eq] at c
      refine List.pairwise_cons.2 ⟨fun y hy => ?_, insD_dsc h2⟩
      rcases List.mem_cons.1 ((insD_perm x rs).mem_iff.1 hy) with rfl | hy
      · exact List.le_of_lt c
      · exact h1 y hy
    · rename_i c
      rw [sLt_iff, decide_eq_true_eq] at c
      have hz : bl z ≤ bl x := List.not_lt.1 c
      refine List.pairwise_cons.2 ⟨fun y hy => ?_, h⟩
      rcases List.mem_cons.1 hy with rfl | hy
      · exact hz
      · exact List.le_trans (h1 y hy) hz
theorem dsc_sorted {rs c : List ByteArray} (h : Dsc rs) (hp : rs.Perm c) : rs.reverse = sortedS c := by
  unfold sortedS
  have tr : ∀ a b c : List UInt8, decide (a ≤ b) = true → decide (b ≤ c) = true → decide (a ≤ c) = true := fun a b c h1 h2 => by simp only [decide_eq_true_eq] at *; exact List.le_trans h1 h2
  have to : ∀ a b : List UInt8, (decide (a ≤ b) || decide (b ≤ a)) = true := fun a b => by simp only [Bool.or_eq_true, decide_eq_true_eq]; exact List.le_total a b
  have e : (rs.reverse).map bl = (c.map bl).mergeSort fun x y => decide (x ≤ y) := by
    refine List.Perm.eq_of_pairwise (le := fun a b => decide (a ≤ b) = true) (fun a b _ _ h1 h2 => ?_) ?_ (List.pairwise_mergeSort tr to _) ((((List.reverse_perm rs).trans hp).map bl).trans (List.mergeSort_perm _ _).symm)
    · simp only [decide_eq_true_eq] at h1 h2
      exact List.le_antisymm h1 h2
    · rw [List.pairwise_map, List.pairwise_reverse]
      exact h.imp fun q => by rw [decide_eq_true_eq]; exact q
  rw [← e, List.map_map]
  have : (lb ∘ bl) = id := funext lb_bl
  rw [this, List.map_id]
theorem f41_l2 : ∀ (rp : List ByteArray) (x : ByteArray) (tl : List ByteArray), rp.length ≤ 1000 → whileM F41_L2 (rp.reverse ++ x :: tl, (rp.length : Int)) = some (.brk ((insD x rp).reverse ++ tl))
  | [], x, tl, h => by
    refine whileM_brk ?_
    have e : decide ((([] : List ByteArray).length : Int) > 0) = false := rfl
    simp only [F41_L2, e, cond_false, Option.bind_some]
    rfl
  | z :: rs, x, tl, h => by
    have hl : rs.length ≤ 1000 := by simp at h; omega
    have e : decide ((((z :: rs).length : Nat) : Int) > 0) = true := by rw [decide_eq_true_eq]; simp
    have hy : (z :: rs).reverse ++ x :: tl = rs.reverse ++ z :: x :: tl := by simp
    have hn : (z :: rs).length = rs.length + 1 := rfl
    have i1 : idx (rs.reverse ++ z :: x :: tl) ((rs.length + 1 : Nat) : Int) = some x := idx_some (by rw [List.getElem?_append_right (by simp)]; simp)
    have i2 : idx (rs.reverse ++ z :: x :: tl) ((rs.length : Nat) : Int) = some z := idx_some (by rw [List.getElem?_append_right (by simp)]; simp)
    have hw : w64 (((rs.length + 1 : Nat) : Int) - 1) = ((rs.length : Nat) : Int) := by rw [w64_of (by omega) (by omega)]; omega
    rw [hy, hn]
    unfold insD
    have hb : F41_L2 (rs.reverse ++ z :: x :: tl, ((rs.length + 1 : Nat) : Int)) = (if sLt x z = true then some (.nxt (rs.reverse ++ x :: z :: tl, (rs.length : Int))) else some (.brk (rs.reverse ++ z :: x :: tl))) := by
      rw [hn] at e
      simp only [F41_L2, e, cond_true, i1, i2, hw, Option.bind_some]
      cases c : sLt x z with
      | false => rfl
      | true =>
        have s1 : (rs.reverse ++ z :: x :: tl).set (rs.length + 1) z = rs.reverse ++ z :: z :: tl := by
          rw [List.set_append, if_neg (by simp)]; simp
        have s2 : (rs.reverse ++ z :: z :: tl).set rs.length x = rs.reverse ++ x :: z :: tl := by
          rw [List.set_append]; simp
        have i3 : idx (rs.reverse ++ z :: z :: tl) ((rs.length : Nat) : Int) = some z := idx_some (by rw [List.getElem?_append_right (by simp)]; simp)
        simp only [cond_true, Int.toNat_natCast, s1, i3, s2, Option.bind_some, if_true]
    by_cases c : sLt x z = true
    · rw [if_pos c] at hb
      rw [whileM_nxt hb, f41_l2 rs x (z :: tl) hl, if_pos c]
      simp
    · rw [if_neg c] at hb
      rw [whileM_brk hb, if_neg c]
      simp
def dsc (c : List ByteArray) : List ByteArray := c.foldl (fun rs x => insD x rs) []
theorem dsc_snoc (c : List ByteArray) (x : ByteArray) : dsc (c ++ [x]) = insD x (dsc c) := by unfold dsc; rw [List.foldl_append]; rfl
theorem dsc_fold : ∀ (c rs : List ByteArray), Dsc rs → Dsc (c.foldl (fun rs x => insD x rs) rs) ∧ (c.foldl (fun rs x => insD x rs) rs).Perm (c ++ rs)
  | [], rs, h => ⟨h, List.Perm.refl _⟩
  | x :: c, rs, h => by
    obtain ⟨h1, h2⟩ := dsc_fold c (insD x rs) (insD_dsc h)
    refine ⟨h1, h2.trans ?_⟩
    exact ((insD_perm x rs).append_left c).trans List.perm_middle
theorem dsc_ok (c : List ByteArray) : Dsc (dsc c) ∧ (dsc c).Perm c := by
  have := dsc_fold c [] List.Pairwise.nil
  rwa [List.append_nil] at this
theorem f41_sort {c : List ByteArray} (hl : c.length ≤ 1000) : whileM F41_L1 (c, 1) = some (.brk (sortedS c)) := by
  have hfin : (dsc c).reverse = sortedS c := dsc_sorted (dsc_ok c).1 (dsc_ok c).2
  by_cases h0 : c = []
  · subst h0
    refine whileM_brk ?_
    have e : decide ((1 : Int) < ((([] : List ByteArray).length : Nat) : Int)) = false := rfl
    simp only [F41_L1, e, cond_false]
    rw [← hfin]; rfl
  · have h1 : 0 < c.length := List.length_pos_iff.2 h0
    have hst : ((fun (k : Nat) => ((dsc (c.take (k + 1))).reverse ++ c.drop (k + 1), ((k + 1 : Nat) : Int))) 0) = (c, 1) := by
      match c, h0 with
      | x :: cs, _ => simp [dsc, insD]
    rw [← hst]
    refine while_upto (fun (k : Nat) => ((dsc (c.take (k + 1))).reverse ++ c.drop (k + 1), ((k + 1 : Nat) : Int))) (c.length - 1) (fun k hk => ?_) ?_ (fun s h => by cases h)
    · have hlen : ((dsc (c.take (k + 1))).reverse ++ c.drop (k + 1)).length = c.length := by
        rw [List.length_append, List.length_reverse, (dsc_ok _).2.length_eq, List.length_take, List.length_drop]; omega
      have e : decide (((k + 1 : Nat) : Int) < ((((dsc (c.take (k + 1))).reverse ++ c.drop (k + 1)).length : Nat) : Int)) = true := by rw [hlen, decide_eq_true_eq]; omega
      have hd : c.drop (k + 1) = c[k + 1] :: c.drop (k + 1 + 1) := (List.getElem_cons_drop (by omega)).symm
      have hn : ((dsc (c.take (k + 1))).length : Int) = ((k + 1 : Nat) : Int) := by rw [(dsc_ok _).2.length_eq, List.length_take]; omega
      have hin := f41_l2 (dsc (c.take (k + 1))) c[k + 1] (c.drop (k + 1 + 1)) (by rw [(dsc_ok _).2.length_eq, List.length_take]; omega)
      rw [hn, ← hd] at hin
      have ht : c.take (k + 1 + 1) = c.take (k + 1) ++ [c[k + 1]] := by rw [List.take_add_one, List.getElem?_eq_getElem (by omega)]; rfl
      have hw : w64 (((k + 1 : Nat) : Int) + 1) = ((k + 1 + 1 : Nat) : Int) := w64_succ (n := c.length) (by omega) (by omega)
      simp only [F41_L1, e, cond_true, hin, Option.bind_some, Ctl.on, hw, ht, dsc_snoc]
    · have hlen : ((dsc (c.take (c.length - 1 + 1))).reverse ++ c.drop (c.length - 1 + 1)) = (dsc c).reverse := by
        rw [Nat.sub_add_cancel h1, List.take_length, List.drop_length, List.append_nil]
      have e : decide (((c.length - 1 + 1 : Nat) : Int) < (((dsc c).reverse.length : Nat) : Int)) = false := by
        rw [List.length_reverse, (dsc_ok _).2.length_eq, decide_eq_false_iff_not]; omega
      rw [hfin] at e hlen
      simp only [hlen, F41_L1, e, cond_false]
end Go.Proofs.YtadfgohglcglcaaDoor

namespace Go.Proofs.YtadfgohglcglcaaDoor
open Go Go.Bk
set_option linter.unusedVariables false
set_option linter.unusedSimpArgs false
abbrev Nd := ByteArray × ByteArray × Int
abbrev Mp := ByteArray → Option (ByteArray × Int)
abbrev Tl := Int × ByteArray × Int × List ByteArray
abbrev Dd := Int × ByteArray × ByteArray × Int
/-- The program's tree and the reference's. -/
structure R (M : Mp) (l : List Nd) : Prop where
  en : Enum M l
  nm : ∀ x ∈ l, OkN x.1
  len : l.length ≤ 12
theorem R.mem {M : Mp} {l : List Nd} (h : R M l) {p : ByteArray} {v : ByteArray × Int} : M p = some v ↔ (p, v) ∈ l := (h.en.2 p v).symm
theorem R.absent {M : Mp} {l : List Nd} (h : R M l) {p : ByteArray} : M p = none ↔ ∀ x ∈ l, x.1 ≠ p := by
  constructor
  · intro hp x hx e
    have := h.mem.2 (show (x.1, x.2) ∈ l from hx)
    rw [e, hp] at this; cases this
  · intro hx
    cases hp : M p with
    | none => rfl
    | some v => exact (hx _ (h.mem.1 hp) rfl).elim
/-- Where a name stands. -/
theorem f40_val {l : List Nd} (hl : l.length ≤ 1000) (p : ByteArray) : F40 l p = some (match scan (fun k (x : Nd) => if x.1 = p then some (k : Int) else none) l 0 with
    | some i => i
    | none => -1) := by
  have h : whileM (F40_L0 l p) 0 = some (found () (scan (fun k (x : Nd) => if x.1 = p then some (k : Int) else none) l 0)) := by
    refine while_scan (by omega) _ (fun k e hk => ?_) (by simp [F40_L0])
    have hlt := lt_of_get hk
    have hd : decide ((k : Int) < (l.length : Int)) = true := by simpa using hlt
    simp only [F40_L0, hd, cond_true, idx_some hk, Option.bind_some, sEq_iff]
    by_cases c : e.1 = p
    · simp [c, going]
    · simp [c, going]
  unfold F40
  rw [h]
  cases scan (fun k (x : Nd) => if x.1 = p then some (k : Int) else none) l 0 <;> rfl
theorem where_some {M : Mp} {l : List Nd} (h : R M l) {p : ByteArray} {v : ByteArray × Int} (hp : M p = some v) : ∃ i : Nat, i < l.length ∧ l[i]? = some (p, v) ∧ F40 l p = some (i : Int) := by
  rw [f40_val (by have := h.len; omega)]
  cases hs : scan (fun k (x : Nd) => if x.1 = p then some (k : Int) else none) l 0 with
  | none =>
    exfalso
    have hm := h.mem.1 hp
    obtain ⟨i, hi⟩ := List.getElem?_of_mem hm
    have := scan_none.1 hs i _ hi
    simp at this
  | some r =>
    obtain ⟨i, e, hi, hv⟩ := scan_val hs
    by_cases c : e.1 = p
    · simp [c] at hv
      subst hv
      have h2 := h.mem.2 (show (e.1, e.2) ∈ l from List.mem_of_getElem? hi)
      rw [c, hp] at h2
      have h3 : v = e.2 := Option.some.inj h2
      refine ⟨i, lt_of_get hi, ?_, rfl⟩
      rw [hi, h3, ← c]
    · simp [c] at hv
theorem where_none {M : Mp} {l : List Nd} (h : R M l) {p : ByteArray} (hp : M p = none) : F40 l p = some (-1) := by
  rw [f40_val (by have := h.len; omega)]
  have : scan (fun k (x : Nd) => if x.1 = p then some (k : Int) else none) l 0 = none := scan_none.2 fun i e hi => by
    have := h.absent.1 hp e (List.mem_of_getElem? hi)
    simp [this]
  rw [this]
/-- What stands below. -/
noncomputable def pick (path : ByteArray) (x : Nd) : Option ByteArray := if (prt x.1).1 = path ∧ x.1 ≠ ByteArray.mk #[47] then some (prt x.1).2 else none
theorem app16 (l : List ByteArray) (z : ByteArray) (h : l.length ≤ 1000) : appl 16 l [z] = some (l ++ [z]) := by
  unfold appl; rw [if_pos]; simp; omega
theorem pick_len (path : ByteArray) (l : List Nd) : (l.filterMap (pick path)).length ≤ l.length := List.length_filterMap_le _ _
theorem f37_fold (path : ByteArray) : ∀ (q : List Nd) (y : List ByteArray), (∀ x ∈ q, OkN x.1) → y.length + q.length ≤ 1000 → foldR (F37_L0 path) q y = some (.nxt (y ++ q.filterMap (pick path)))
  | [], y, _, _ => by simp [foldR]
  | x :: q, y, hn, hl => by
    have hx := prt_val (hn x (List.mem_cons_self ..))
    have hl' : y.length + (q.length + 1) ≤ 1000 := hl
    rw [foldR_cons]
    have hb : F37_L0 path x.1 x.2 y = some (.nxt (match pick path x with
        | some z => y ++ [z]
        | none => y)) := by
      unfold F37_L0 pick
      rw [hx.1]
      simp only [Option.bind_some, sEq_iff]
      by_cases c1 : (prt x.1).1 = path <;> by_cases c2 : x.1 = ByteArray.mk #[47] <;> simp [c1, c2, app16 y _ (by omega)]
    rw [hb]
    simp only []
    rw [f37_fold path q _ (fun z hz => hn z (List.mem_cons_of_mem _ hz)) (by cases pick path x <;> simp <;> omega)]
    rw [List.filterMap_cons]
    cases pick path x <;> simp
theorem f37_val {M : Mp} {l : List Nd} (h : R M l) (path : ByteArray) : F37 M path = some (sortedS (l.filterMap (pick path)), M) := by
  have hl := h.len
  have hall : ∀ q, Enum M q → ∃ t, foldR (F37_L0 path) q [] = some (.nxt t) ∧ t.Perm (l.filterMap (pick path)) := fun q hq => by
    have hp := Enum.perm hq h.en
    refine ⟨q.filterMap (pick path), ?_, hp.filterMap _⟩
    have := f37_fold path q [] (fun x hx => h.nm x (hp.mem_iff.1 hx)) (by rw [hp.length_eq]; simp; omega)
    simpa using this
  obtain ⟨c, hc⟩ := rangeQ_of (R := List.Perm) (ρ := Unit) (β := Unit) ⟨l, h.en⟩ hall
  obtain ⟨_, hc2⟩ := rangeQ_spec hc
  obtain ⟨t, ht, htc⟩ := hc2 l h.en
  obtain ⟨t', ht', htl⟩ := hall l h.en
  rw [ht] at ht'
  obtain rfl : t = t' := by simpa using ht'
  have hcl : c.Perm (l.filterMap (pick path)) := htc.symm.trans htl
  unfold F37
  rw [hc, Option.bind_some]
  refine permK_of fun z hz => ?_
  have hzl : z.Perm (l.filterMap (pick path)) := hz.trans hcl
  have hlen : z.length < 4611686018427387904 := by rw [hzl.length_eq]; have := pick_len path l; omega
  unfold srtS
  rw [if_pos hlen, Option.bind_some, sortedS_perm hzl]
theorem f41_val {M : Mp} {l : List Nd} (h : R M l) (path : ByteArray) : F41 l path = some (sortedS (l.filterMap (pick path))) := by
  have hl := h.len
  have hw : whileM (F41_L0 l path) ([], 0) = some (.brk (l.filterMap (pick path))) := by
    have hst : ((fun (k : Nat) => ((l.take k).filterMap (pick path), (k : Int))) 0) = ([], 0) := rfl
    rw [← hst]
    refine while_upto (fun (k : Nat) => ((l.take k).filterMap (pick path), (k : Int))) l.length (fun k hk => ?_) ?_ (fun s h => by cases h)
    · have hg : l[k]? = some l[k] := List.getElem?_eq_getElem hk
      have ht : l.take (k + 1) = l.take k ++ [l[k]] := by rw [List.take_add_one, hg]; rfl
      have hx := prt_val (h.nm _ (List.getElem_mem hk))
      have hd : decide ((k : Int) < (l.length : Int)) = true := by simpa using hk
      have hpl : ((l.take k).filterMap (pick path)).length ≤ 1000 := by have := pick_len path (l.take k); rw [List.length_take] at this; omega
      rw [ht, List.filterMap_append]
      generalize l[k] = x at hg hx
      generalize (l.take k).filterMap (pick path) = Y at hpl
      simp only [F41_L0, hd, cond_true, idx_some hg, Option.bind_some, sEq_iff, w64_succ hk (show l.length ≤ 9223372036854775807 by omega), hx.2]
      unfold pick
      by_cases c2 : x.1 = ByteArray.mk #[47]
      · simp [c2]
      · by_cases c1 : (prt x.1).1 = path
        · simp [c1, c2]
          rw [app16 _ _ hpl]
          rfl
        · simp [c1, c2]
    · have hd : decide ((l.length : Int) < (l.length : Int)) = false := by simp
      simp only [F41_L0, hd, cond_false, List.take_length]
  unfold F41
  rw [hw]
  simp only [Option.bind_some, Ctl.on]
  rw [f41_sort (by have := pick_len path l; omega)]
  rfl
end Go.Proofs.YtadfgohglcglcaaDoor

namespace Go.Proofs.YtadfgohglcglcaaDoor
open Go Go.Bk
set_option linter.unusedVariables false
set_option linter.unusedSimpArgs false
theorem R.idx {M : Mp} {l : List Nd} (h : R M l) {i j : Nat} {a b : Nd} (ha : l[i]? = some a) (hb : l[j]? = some b) (e : a.1 = b.1) : i = j := by
  have hn := h.en.1
  have h1 : (l.map (·.1))[i]? = some a.1 := by rw [List.getElem?_map, ha]; rfl
  have h2 : (l.map (·.1))[j]? = some a.1 := by rw [List.getElem?_map, hb, e]; rfl
  obtain ⟨l1, e1⟩ := List.getElem?_eq_some_iff.1 h1
  obtain ⟨l2, e2⟩ := List.getElem?_eq_some_iff.1 h2
  rcases Nat.lt_trichotomy i j with q | q | q
  · exact (List.pairwise_iff_getElem.1 hn i j l1 l2 q (e1.trans e2.symm)).elim
  · exact q
  · exact (List.pairwise_iff_getElem.1 hn j i l2 l1 q (e2.trans e1.symm)).elim
theorem R.add {M : Mp} {l : List Nd} (h : R M l) {p : ByteArray} {v : ByteArray × Int} (hp : M p = none) (hn : OkN p) (hl : l.length < 12) : R (mupd M p v) (l ++ [(p, v)]) := by
  have hx := h.absent.1 hp
  refine ⟨⟨?_, fun k w => ?_⟩, fun x hx' => ?_, by simp; omega⟩
  · rw [List.map_append, List.nodup_append]
    refine ⟨h.en.1, by simp, fun a ha b hb e => ?_⟩
    obtain ⟨x, hx1, rfl⟩ := List.mem_map.1 ha
    simp at hb
    exact hx x hx1 (by rw [e, hb])
  · rw [List.mem_append, List.mem_singleton, h.en.2]
    unfold mupd
    by_cases c : k = p
    · subst c
      rw [hp]; simp [eq_comm]
    · simp [c]
  · rcases List.mem_append.1 hx' with q | q
    · exact h.nm x q
    · rw [List.mem_singleton] at q; rw [q]; exact hn
theorem R.del {M : Mp} {l : List Nd} (h : R M l) {i : Nat} {p : ByteArray} {v : ByteArray × Int} (hi : l[i]? = some (p, v)) : R (mdel M p) (l.take i ++ l.drop (i + 1)) := by
  rw [← List.eraseIdx_eq_take_drop_succ]
  have hs := List.eraseIdx_sublist l i
  refine ⟨⟨(hs.map _).nodup h.en.1, fun k w => ?_⟩, fun x hx => h.nm x (hs.subset hx), Nat.le_trans hs.length_le h.len⟩
  rw [List.mem_eraseIdx_iff_getElem?]
  unfold mdel
  constructor
  · rintro ⟨j, hj, hg⟩
    have hm := h.mem.2 (List.mem_of_getElem? hg)
    have : k ≠ p := fun e => hj (h.idx hg hi e)
    rw [if_neg this]; exact hm
  · intro hk
    by_cases c : k = p
    · rw [if_pos c] at hk; cases hk
    · rw [if_neg c] at hk
      obtain ⟨j, hj⟩ := List.getElem?_of_mem (h.mem.1 hk)
      refine ⟨j, fun e => ?_, hj⟩
      subst e
      rw [hi] at hj
      exact c (Prod.mk.inj (Option.some.inj hj)).1.symm
theorem R.set {M : Mp} {l : List Nd} (h : R M l) {i : Nat} {p : ByteArray} {v w : ByteArray × Int} (hi : l[i]? = some (p, v)) : R (mupd M p w) (l.set i (p, w)) := by
  have hil := lt_of_get hi
  have hk : (l.set i (p, w)).map (·.1) = l.map (·.1) := by
    apply List.ext_getElem?
    intro j
    rw [List.getElem?_map, List.getElem?_map, List.getElem?_set]
    by_cases c : i = j
    · subst c; rw [hi]; simp [hil]
    · simp [c]
  have hm : ∀ k u, (k, u) ∈ l.set i (p, w) ↔ mupd M p w k = some u := fun k u => by
    unfold mupd
    constructor
    · intro hx
      obtain ⟨j, hj⟩ := List.getElem?_of_mem hx
      rw [List.getElem?_set] at hj
      by_cases c : i = j
      · subst c
        simp [hil] at hj
        simp [hj.1, hj.2]
      · simp [c] at hj
        have : k ≠ p := fun e => c (h.idx hi hj (by simp [e]))
        rw [if_neg this]; exact h.mem.2 (List.mem_of_getElem? hj)
    · intro hk
      by_cases c : k = p
      · rw [if_pos c] at hk
        obtain rfl := Option.some.inj hk
        refine List.mem_of_getElem? (i := i) ?_
        rw [List.getElem?_set_self hil, c]
      · rw [if_neg c] at hk
        obtain ⟨j, hj⟩ := List.getElem?_of_mem (h.mem.1 hk)
        refine List.mem_of_getElem? (i := j) ?_
        have : i ≠ j := fun e => by
          subst e
          rw [hi] at hj
          exact c (Prod.mk.inj (Option.some.inj hj)).1.symm
        rw [List.getElem?_set_ne this, hj]
  refine ⟨⟨by rw [hk]; exact h.en.1, hm⟩, fun x hx => ?_, by rw [List.length_set]; exact h.len⟩
  obtain ⟨j, hj⟩ := List.getElem?_of_mem hx
  rw [List.getElem?_set] at hj
  by_cases c : i = j
  · subst c
    simp [hil] at hj
    rw [← hj]
    show OkN p
    exact h.nm (p, v) (List.mem_of_getElem? hi)
  · simp [c] at hj
    exact h.nm _ (List.mem_of_getElem? hj)
theorem f38_val (c : Int) (l : List Nd) : F38 c l = some (c, ByteArray.empty, 0, []) := rfl
theorem app40 (l m : List Nd) (h : l.length + m.length ≤ 1000) : appl 40 l m = some (l ++ m) := by
  unfold appl; rw [if_pos]; omega
/-- The same answer, and trees that go together. -/
def Same (x : Option (Tl × Mp)) (y : Option (List Nd × Tl)) : Prop := ∃ t M l, x = some (t, M) ∧ y = some (l, t) ∧ R M l ∧ t.2.2.2.length ≤ 12
theorem deed {M : Mp} {l : List Nd} (h : R M l) (d : Dd) (hd : d.2.1.size ≤ 9223372036854775807) : Same (F29 M d) (F30 l d) := by
  obtain ⟨k, path, data, ver⟩ := d
  have hlen := h.len
  have hml : mlen M = l.length := mlen_of h.en
  have hd' : path.size ≤ 9223372036854775807 := hd
  have n1 := f35_val (p := path) (by omega)
  have n2 := f39_val (p := path) (by omega)
  unfold F29 F30
  simp only [f38_val, Option.bind_some, n1, n2]
  by_cases ck : k < 1 ∨ k > 5
  · have : (decide (k < 1) || decide (k > 5)) = true := by simpa using ck
    simp only [this, cond_true]
    exact ⟨_, _, _, rfl, rfl, h, Nat.zero_le _⟩
  have ck' : (decide (k < 1) || decide (k > 5)) = false := by simp; omega
  simp only [ck', cond_false]
  cases cn : nameB path with
  | false => exact ⟨_, _, _, rfl, rfl, h, Nat.zero_le _⟩
  | true =>
  have hn : OkN path := ⟨cn, hd'⟩
  have hp := prt_val hn
  simp only [Bool.not_true, cond_false]
  cases cl : (((k == 1) || (k == 2)) && (decide ((data.size : Int) > 20))) with
  | true => exact ⟨_, _, _, rfl, rfl, h, Nat.zero_le _⟩
  | false =>
  simp only [cond_false]
  have f37 := f37_val h path
  have f41 := f41_val h path
  have hbl : (sortedS (l.filterMap (pick path))).length ≤ 12 := by rw [sortedS_len]; have := pick_len path l; omega
  generalize hbelow : sortedS (l.filterMap (pick path)) = bel at f37 f41 hbl
  have hc : k = 1 ∨ k = 2 ∨ k = 3 ∨ k = 4 ∨ k = 5 := by omega
  cases hM : M path with
  | none =>
    have hw := where_none h hM
    have e0 : decide ((-1 : Int) ≥ 0) = false := rfl
    have e1 : decide ((-1 : Int) < 0) = true := rfl
    simp only [hw, Option.bind_some, e0, e1, cond_false, cond_true, hM, Option.isSome_none, Bool.not_false]
    rcases hc with rfl | rfl | rfl | rfl | rfl
    · -- make
      unfold F36
      simp only [hM, Option.isSome_none, cond_false, hp.1, hp.2, Option.bind_some]
      cases hu : M (prt path).1 with
      | none =>
        have hw2 := where_none h hu
        simp only [hw2, Option.bind_some, e1, cond_true, Option.isSome_none, Bool.not_false]
        exact ⟨_, _, _, rfl, rfl, h, Nat.zero_le _⟩
      | some v =>
        obtain ⟨i, hi, hg, hw2⟩ := where_some h hu
        have e2 : decide ((i : Int) < 0) = false := by simp
        simp only [hw2, Option.bind_some, e2, cond_false, Option.isSome_some, Bool.not_true, hml]
        by_cases cf : l.length ≥ 12
        · have e3 : decide ((l.length : Int) ≥ 12) = true := by rw [decide_eq_true_eq]; omega
          simp only [e3, cond_true]
          exact ⟨_, _, _, rfl, rfl, h, Nat.zero_le _⟩
        · have e3 : decide ((l.length : Int) ≥ 12) = false := by rw [decide_eq_false_iff_not]; omega
          simp only [e3, cond_false, app40 [] l (by simp; omega), List.nil_append, Option.bind_some, app40 l [(path, data, 0)] (by simp; omega)]
          exact ⟨_, _, _, rfl, rfl, h.add hM hn (by omega), Nat.zero_le _⟩
    · exact ⟨_, _, _, rfl, rfl, h, Nat.zero_le _⟩
    · simp only [sEq_iff]
      cases decide (path = ByteArray.mk #[47]) <;> exact ⟨_, _, _, rfl, rfl, h, Nat.zero_le _⟩
    · exact ⟨_, _, _, rfl, rfl, h, Nat.zero_le _⟩
    · exact ⟨_, _, _, rfl, rfl, h, Nat.zero_le _⟩
  | some v =>
    obtain ⟨i, hi, hg, hw⟩ := where_some h hM
    obtain ⟨dat, vs⟩ := v
    have e0 : decide ((i : Int) ≥ 0) = true := by simp
    have e1 : decide ((i : Int) < 0) = false := by simp
    have hix : idx l (i : Int) = some (path, dat, vs) := idx_some hg
    simp only [hw, Option.bind_some, e0, e1, cond_false, cond_true, hM, Option.isSome_some, Bool.not_true, Option.getD_some, hix, f37, f41]
    rcases hc with rfl | rfl | rfl | rfl | rfl
    · unfold F36
      simp only [hM, Option.isSome_some, cond_true]
      exact ⟨_, _, _, rfl, rfl, h, Nat.zero_le _⟩
    · -- set
      have hb : (Option.bind (cond (decide (ver ≥ 0)) (some (ver != vs)) (some false)) fun b82 => some b82) = some (decide (ver ≥ 0) && (ver != vs)) := by cases decide (ver ≥ 0) <;> rfl
      have hb2 : cond (decide (ver ≥ 0)) (some (ver != vs)) (some false) = some (decide (ver ≥ 0) && (ver != vs)) := by cases decide (ver ≥ 0) <;> rfl
      simp only [hb2, Option.bind_some]
      cases cv : (decide (ver ≥ 0) && (ver != vs)) with
      | true => exact ⟨_, _, _, rfl, rfl, h, Nat.zero_le _⟩
      | false =>
        have i2 : idx (l.set i (path, data, vs)) (i : Int) = some (path, data, vs) := idx_some (List.getElem?_set_self hi)
        have i3 : idx ((l.set i (path, data, vs)).set i (path, data, w64 (vs + 1))) (i : Int) = some (path, data, w64 (vs + 1)) := idx_some (List.getElem?_set_self (by rw [List.length_set]; exact hi))
        simp only [cond_false, app40 [] l (by simp; omega), List.nil_append, Option.bind_some, hix, Int.toNat_natCast, i2, i3]
        refine ⟨_, _, _, rfl, rfl, ?_, Nat.zero_le _⟩
        rw [List.set_set]
        exact h.set hg
    · -- drop
      have hb2 : cond (decide (ver ≥ 0)) (some (ver != vs)) (some false) = some (decide (ver ≥ 0) && (ver != vs)) := by cases decide (ver ≥ 0) <;> rfl
      simp only [hb2, Option.bind_some, sEq_iff]
      cases decide (path = ByteArray.mk #[47]) with
      | true => exact ⟨_, _, _, rfl, rfl, h, Nat.zero_le _⟩
      | false =>
        cases cv : (decide (ver ≥ 0) && (ver != vs)) with
        | true => exact ⟨_, _, _, rfl, rfl, h, Nat.zero_le _⟩
        | false =>
          cases cb : decide ((bel.length : Int) > 0) with
          | true => exact ⟨_, _, _, rfl, rfl, h, Nat.zero_le _⟩
          | false =>
            have s1 : slI l 0 (i : Int) = some (l.take i) := slI_take hi
            have hw1 : w64 ((i : Int) + 1) = ((i + 1 : Nat) : Int) := w64_succ hi (by omega)
            have s2 : slI l ((i + 1 : Nat) : Int) (l.length : Int) = some (l.drop (i + 1)) := by
              unfold slI
              rw [if_pos ⟨by omega, by omega, by omega⟩]
              simp
            simp only [s1, hw1, s2, Option.bind_some, app40 [] (l.take i) (by simp; omega), List.nil_append, app40 (l.take i) (l.drop (i + 1)) (by simp; omega)]
            exact ⟨_, _, _, rfl, rfl, h.del hg, Nat.zero_le _⟩
    · exact ⟨_, _, _, rfl, rfl, h, Nat.zero_le _⟩
    · exact ⟨_, _, _, rfl, rfl, h, hbl⟩
end Go.Proofs.YtadfgohglcglcaaDoor

namespace Go.Proofs.YtadfgohglcglcaaDoor
open Go Go.Bk
set_option linter.unusedVariables false
set_option linter.unusedSimpArgs false
theorem sEq_self (x : ByteArray) : sEq x x = true := by rw [sEq_iff]; simp
theorem f16_self (t : Tl) (h : t.2.2.2.length ≤ 12) : F16 t t = some true := by
  have hw : whileM (F16_L0 t t) 0 = some (.brk ()) := by
    refine while_upto (fun (k : Nat) => (k : Int)) t.2.2.2.length (fun k hk => ?_) ?_ (fun s h => by cases h)
    · have hd : decide ((k : Int) < (t.2.2.2.length : Int)) = true := by simpa using hk
      simp only [F16_L0, hd, cond_true, idx_some (List.getElem?_eq_getElem hk), Option.bind_some, sEq_self, Bool.not_true, cond_false, w64_succ hk (show t.2.2.2.length ≤ 9223372036854775807 by omega)]
    · have hd : decide ((t.2.2.2.length : Int) < (t.2.2.2.length : Int)) = false := by simp
      simp only [F16_L0, hd, cond_false]
  have e : (((((t.1 != t.1) || (!sEq t.2.1 t.2.1)) || (t.2.2.1 != t.2.2.1)) || ((t.2.2.2.length : Int) != (t.2.2.2.length : Int)))) = false := by simp [sEq_self]
  unfold F16
  rw [e, cond_false, hw]
  rfl
theorem f13_self (ts : List Tl) (hl : ts.length ≤ 1000) (h : ∀ t ∈ ts, t.2.2.2.length ≤ 12) : F13 ts ts = some true := by
  have hw : whileM (F13_L0 ts ts) 0 = some (.brk ()) := by
    refine while_upto (fun (k : Nat) => (k : Int)) ts.length (fun k hk => ?_) ?_ (fun s h => by cases h)
    · have hd : decide ((k : Int) < (ts.length : Int)) = true := by simpa using hk
      have hs := f16_self ts[k] (h _ (List.getElem_mem hk))
      have hs' : F16 (ts[k].1, ts[k].2.1, ts[k].2.2.1, ts[k].2.2.2) (ts[k].1, ts[k].2.1, ts[k].2.2.1, ts[k].2.2.2) = some true := hs
      simp only [F13_L0, hd, cond_true, idx_some (List.getElem?_eq_getElem hk), Option.bind_some, hs', Bool.not_true, cond_false, w64_succ hk (show ts.length ≤ 9223372036854775807 by omega)]
    · have hd : decide ((ts.length : Int) < (ts.length : Int)) = false := by simp
      simp only [F13_L0, hd, cond_false]
  unfold F13
  rw [show ((ts.length : Int) != (ts.length : Int)) = false by simp, cond_false, hw]
  rfl
theorem app56 (ts : List Tl) (t : Tl) (h : ts.length ≤ 1000) : appl 56 ts [t] = some (ts ++ [t]) := by
  unfold appl; rw [if_pos]; simp; omega
theorem R.start : R (mupd mzero (ByteArray.mk #[47]) (ByteArray.empty, 0)) [(ByteArray.mk #[47], ByteArray.empty, 0)] := by
  have h0 : R (mzero : Mp) [] := ⟨Enum.zero, fun x hx => (by cases hx), by simp⟩
  exact h0.add rfl ⟨rfl, by decide⟩ (by simp)
/-- A script, by both. -/
theorem plays (ds : List Dd) (hl : ds.length ≤ 60) (hp : ∀ d ∈ ds, d.2.1.size ≤ 9223372036854775807) : ∀ (m k : Nat) (ts : List Tl) (M : Mp) (l : List Nd), k + m = ds.length → ts.length = k → (∀ t ∈ ts, t.2.2.2.length ≤ 12) → R M l →
    ∃ ts' M' l', whileM (F15_L0 ds) (ts, M, (k : Int)) = some (.brk (ts', M')) ∧ whileM (F19_L0 ds) (l, ts, (k : Int)) = some (.brk (l', ts')) ∧ R M' l' ∧ ts'.length = ds.length ∧ ∀ t ∈ ts', t.2.2.2.length ≤ 12
  | 0, k, ts, M, l, hk, ht, hb, hR => by
    have hd : decide ((k : Int) < (ds.length : Int)) = false := by rw [decide_eq_false_iff_not]; omega
    refine ⟨ts, M, l, whileM_brk ?_, whileM_brk ?_, hR, by omega, hb⟩
    · simp only [F15_L0, hd, cond_false]
    · simp only [F19_L0, hd, cond_false]
  | m + 1, k, ts, M, l, hk, ht, hb, hR => by
    have hlt : k < ds.length := by omega
    have hd : decide ((k : Int) < (ds.length : Int)) = true := by simpa using hlt
    have hg := List.getElem?_eq_getElem hlt
    obtain ⟨t, M', l', h1, h2, h3, h4⟩ := deed hR ds[k] (hp _ (List.getElem_mem hlt))
    have h1' : F29 M (ds[k].1, ds[k].2.1, ds[k].2.2.1, ds[k].2.2.2) = some (t, M') := h1
    have h2' : F30 l (ds[k].1, ds[k].2.1, ds[k].2.2.1, ds[k].2.2.2) = some (l', t) := h2
    have ha := app56 ts t (by omega)
    have ha' : appl 56 ts [(t.1, t.2.1, t.2.2.1, t.2.2.2)] = some (ts ++ [t]) := ha
    have hw := w64_succ hlt (show ds.length ≤ 9223372036854775807 by omega)
    obtain ⟨ts', M'', l'', r1, r2, r3, r4, r5⟩ := plays ds hl hp m (k + 1) (ts ++ [t]) M' l' (by omega) (by simp [ht]) (fun x hx => by
      rcases List.mem_append.1 hx with q | q
      · exact hb x q
      · rw [List.mem_singleton] at q; rw [q]; exact h4) h3
    refine ⟨ts', M'', l'', ?_, ?_, r3, r4, r5⟩
    · rw [whileM_nxt ?_, r1]
      simp only [F15_L0, hd, cond_true, idx_some hg, Option.bind_some, h1', ha', hw]
    · rw [whileM_nxt ?_, r2]
      simp only [F19_L0, hd, cond_true, idx_some hg, Option.bind_some, h2', ha', hw]
theorem law_TreePlays (a0 : List Dd) (h : a0.length ≤ 140737488351232) (wf : ∀ x ∈ a0, (i64 x.1) ∧ (x.2.1.size ≤ maxLen) ∧ (x.2.2.1.size ≤ maxLen) ∧ (i64 x.2.2.2)) : F6 a0 = some true := by
  unfold F6 F15
  by_cases c : a0.length > 60
  · have e : decide ((a0.length : Int) > 60) = true := by rw [decide_eq_true_eq]; omega
    simp only [e, cond_true, Option.bind_some]
    rfl
  · have e : decide ((a0.length : Int) > 60) = false := by rw [decide_eq_false_iff_not]; omega
    obtain ⟨ts, M, l, h1, h2, h3, h4, h5⟩ := plays a0 (by omega) (fun d hd => (wf d hd).2.1) a0.length 0 [] _ _ (by omega) rfl (fun t ht => by cases ht) R.start
    have h1' : whileM (F15_L0 a0) ([], mupd mzero (ByteArray.mk #[47]) (ByteArray.empty, 0), 0) = some (.brk (ts, M)) := h1
    have h2' : whileM (F19_L0 a0) ([(ByteArray.mk #[47], ByteArray.empty, 0)], [], 0) = some (.brk (l, ts)) := h2
    unfold F26 F20 F19
    simp only [e, cond_false, Option.bind_some, h1', h2', Ctl.on]
    rw [f13_self ts (by omega) h5]
    rfl
end Go.Proofs.YtadfgohglcglcaaDoor

namespace Go.Proofs.YtadfgohglcglcaaDoor
open Go Go.Bk
set_option linter.unusedVariables false
set_option linter.unusedSimpArgs false
/-- The script ahead, by both. -/
theorem ahead (ds : List Dd) (hl : ds.length ≤ 60) (hp : ∀ d ∈ ds, d.2.1.size ≤ 9223372036854775807) : ∀ (m k : Nat) (ts : List Tl) (M : Mp) (l : List Nd), k + m = ds.length → ts.length = k → R M l →
    ∃ ts' M' l', whileM (F21_L0 ds) (M, (k : Int)) = some (.brk M') ∧ whileM (F19_L0 ds) (l, ts, (k : Int)) = some (.brk (l', ts')) ∧ R M' l'
  | 0, k, ts, M, l, hk, ht, hR => by
    have hd : decide ((k : Int) < (ds.length : Int)) = false := by rw [decide_eq_false_iff_not]; omega
    refine ⟨ts, M, l, whileM_brk ?_, whileM_brk ?_, hR⟩
    · simp only [F21_L0, hd, cond_false]
    · simp only [F19_L0, hd, cond_false]
  | m + 1, k, ts, M, l, hk, ht, hR => by
    have hlt : k < ds.length := by omega
    have hd : decide ((k : Int) < (ds.length : Int)) = true := by simpa using hlt
    have hg := List.getElem?_eq_getElem hlt
    obtain ⟨t, M', l', h1, h2, h3, h4⟩ := deed hR ds[k] (hp _ (List.getElem_mem hlt))
    have h1' : F29 M (ds[k].1, ds[k].2.1, ds[k].2.2.1, ds[k].2.2.2) = some (t, M') := h1
    have h2' : F30 l (ds[k].1, ds[k].2.1, ds[k].2.2.1, ds[k].2.2.2) = some (l', t) := h2
    have ha' : appl 56 ts [(t.1, t.2.1, t.2.2.1, t.2.2.2)] = some (ts ++ [t]) := app56 ts t (by omega)
    have hw := w64_succ hlt (show ds.length ≤ 9223372036854775807 by omega)
    obtain ⟨ts', M'', l'', r1, r2, r3⟩ := ahead ds hl hp m (k + 1) (ts ++ [t]) M' l' (by omega) (by simp [ht]) h3
    refine ⟨ts', M'', l'', ?_, ?_, r3⟩
    · rw [whileM_nxt ?_, r1]
      simp only [F21_L0, hd, cond_true, idx_some hg, Option.bind_some, h1', hw]
    · rw [whileM_nxt ?_, r2]
      simp only [F19_L0, hd, cond_true, idx_some hg, Option.bind_some, h2', ha', hw]
def err (t : Tl) : Bool := t.1 != 0
/-- The reference goes on whatever is told. -/
theorem goes (ds : List Dd) (hl : ds.length ≤ 60) (hp : ∀ d ∈ ds, d.2.1.size ≤ 9223372036854775807) : ∀ (m k : Nat) (ts : List Tl) (M : Mp) (l : List Nd), k + m = ds.length → ts.length = k → (∀ t ∈ ts, t.2.2.2.length ≤ 12) → R M l →
    ∃ r l', whileM (F19_L0 ds) (l, ts, (k : Int)) = some (.brk (l', ts ++ r)) ∧ (ts ++ r).length = ds.length ∧ ∀ t ∈ ts ++ r, t.2.2.2.length ≤ 12
  | 0, k, ts, M, l, hk, ht, hb, hR => by
    have hd : decide ((k : Int) < (ds.length : Int)) = false := by rw [decide_eq_false_iff_not]; omega
    refine ⟨[], l, whileM_brk ?_, by simp; omega, by simpa using hb⟩
    simp only [F19_L0, hd, cond_false, List.append_nil]
  | m + 1, k, ts, M, l, hk, ht, hb, hR => by
    have hlt : k < ds.length := by omega
    have hd : decide ((k : Int) < (ds.length : Int)) = true := by simpa using hlt
    have hg := List.getElem?_eq_getElem hlt
    obtain ⟨t, M', l', h1, h2, h3, h4⟩ := deed hR ds[k] (hp _ (List.getElem_mem hlt))
    have h2' : F30 l (ds[k].1, ds[k].2.1, ds[k].2.2.1, ds[k].2.2.2) = some (l', t) := h2
    have ha' : appl 56 ts [(t.1, t.2.1, t.2.2.1, t.2.2.2)] = some (ts ++ [t]) := app56 ts t (by omega)
    have hw := w64_succ hlt (show ds.length ≤ 9223372036854775807 by omega)
    obtain ⟨r, l'', r1, r2, r3⟩ := goes ds hl hp m (k + 1) (ts ++ [t]) M' l' (by omega) (by simp [ht]) (fun x hx => by
      rcases List.mem_append.1 hx with q | q
      · exact hb x q
      · rw [List.mem_singleton] at q; rw [q]; exact h4) h3
    have e : ts ++ t :: r = (ts ++ [t]) ++ r := by simp
    refine ⟨t :: r, l'', ?_, by rw [e]; exact r2, by rw [e]; exact r3⟩
    rw [e, whileM_nxt ?_, r1]
    simp only [F19_L0, hd, cond_true, idx_some hg, Option.bind_some, h2', ha', hw]
/-- The group. -/
theorem group (ds : List Dd) (hl : ds.length ≤ 60) (hp : ∀ d ∈ ds, d.2.1.size ≤ 9223372036854775807) : ∀ (m k : Nat) (ts : List Tl) (M : Mp) (l : List Nd), k + m = ds.length → ts.length = k → (∀ t ∈ ts, t.2.2.2.length ≤ 12) → (∀ t ∈ ts, err t = false) → R M l →
    ∃ all l', whileM (F19_L0 ds) (l, ts, (k : Int)) = some (.brk (l', all)) ∧ all.length = ds.length ∧ (∀ t ∈ all, t.2.2.2.length ≤ 12) ∧
      (match all.findIdx? err with
       | none => ∃ M', whileM (F21_L1 ds) (ts, M, (k : Int)) = some (.brk (all, M'))
       | some i => i < all.length ∧ whileM (F21_L1 ds) (ts, M, (k : Int)) = some (.ret (all.take (i + 1), false, 0)))
  | 0, k, ts, M, l, hk, ht, hb, hz, hR => by
    have hd : decide ((k : Int) < (ds.length : Int)) = false := by rw [decide_eq_false_iff_not]; omega
    refine ⟨ts, l, whileM_brk ?_, by omega, hb, ?_⟩
    · simp only [F19_L0, hd, cond_false]
    · have : ts.findIdx? err = none := List.findIdx?_eq_none_iff.2 hz
      rw [this]
      refine ⟨M, whileM_brk ?_⟩
      simp only [F21_L1, hd, cond_false]
  | m + 1, k, ts, M, l, hk, ht, hb, hz, hR => by
    have hlt : k < ds.length := by omega
    have hd : decide ((k : Int) < (ds.length : Int)) = true := by simpa using hlt
    have hg := List.getElem?_eq_getElem hlt
    obtain ⟨t, M', l', h1, h2, h3, h4⟩ := deed hR ds[k] (hp _ (List.getElem_mem hlt))
    have h1' : F29 M (ds[k].1, ds[k].2.1, ds[k].2.2.1, ds[k].2.2.2) = some (t, M') := h1
    have h2' : F30 l (ds[k].1, ds[k].2.1, ds[k].2.2.1, ds[k].2.2.2) = some (l', t) := h2
    have ha' : appl 56 ts [(t.1, t.2.1, t.2.2.1, t.2.2.2)] = some (ts ++ [t]) := app56 ts t (by omega)
    have hw := w64_succ hlt (show ds.length ≤ 9223372036854775807 by omega)
    have hb2 : ∀ x ∈ ts ++ [t], x.2.2.2.length ≤ 12 := fun x hx => by
      rcases List.mem_append.1 hx with q | q
      · exact hb x q
      · rw [List.mem_singleton] at q; rw [q]; exact h4
    have hs19 : F19_L0 ds (l, ts, (k : Int)) = some (.nxt (l', ts ++ [t], ((k + 1 : Nat) : Int))) := by
      simp only [F19_L0, hd, cond_true, idx_some hg, Option.bind_some, h2', ha', hw]
    cases he : err t with
    | true =>
      obtain ⟨r, l'', r1, r2, r3⟩ := goes ds hl hp m (k + 1) (ts ++ [t]) M' l' (by omega) (by simp [ht]) hb2 h3
      refine ⟨(ts ++ [t]) ++ r, l'', by rw [whileM_nxt hs19, r1], r2, r3, ?_⟩
      have hf : ((ts ++ [t]) ++ r).findIdx? err = some k := by
        rw [List.append_assoc, List.findIdx?_append, List.findIdx?_eq_none_iff.2 hz]
        simp [List.findIdx?_cons, he, ht]
      rw [hf]
      refine ⟨by rw [r2]; exact hlt, whileM_ret ?_⟩
      have he' : (t.1 != 0) = true := he
      have htk : ((ts ++ [t]) ++ r).take (k + 1) = ts ++ [t] := by
        rw [List.take_append_of_le_length (by simp [ht])]
        exact List.take_of_length_le (by simp [ht])
      simp only [F21_L1, hd, cond_true, idx_some hg, Option.bind_some, h1', ha', he', htk]
    | false =>
      have he' : (t.1 != 0) = false := he
      obtain ⟨all, l'', r1, r2, r3, r4⟩ := group ds hl hp m (k + 1) (ts ++ [t]) M' l' (by omega) (by simp [ht]) hb2 (fun x hx => by
        rcases List.mem_append.1 hx with q | q
        · exact hz x q
        · rw [List.mem_singleton] at q; rw [q]; exact he) h3
      have hs21 : F21_L1 ds (ts, M, (k : Int)) = some (.nxt (ts ++ [t], M', ((k + 1 : Nat) : Int))) := by
        simp only [F21_L1, hd, cond_true, idx_some hg, Option.bind_some, h1', ha', he', cond_false, hw]
      refine ⟨all, l'', by rw [whileM_nxt hs19, r1], r2, r3, ?_⟩
      rw [whileM_nxt hs21]
      exact r4
/-- How many are told, and whether all went well. -/
theorem f7_loop (all : List Tl) (hl : all.length ≤ 60) : ∀ (k : Nat) (w : Int) (b : Bool), k ≤ all.length → whileM (F7_L0 all) (w, b, (k : Int) - 1) = some (.brk (match (all.take k).findIdx? err with
    | some f => (((f + 1 : Nat) : Int), false)
    | none => (w, b)))
  | 0, w, b, hk => by
    refine whileM_brk ?_
    have e : decide (((0 : Nat) : Int) - 1 ≥ 0) = false := rfl
    simp only [F7_L0, e, cond_false]
    rfl
  | k + 1, w, b, hk => by
    have e0 : ((k + 1 : Nat) : Int) - 1 = (k : Int) := by omega
    have e : decide ((k : Int) ≥ 0) = true := by rw [decide_eq_true_eq]; omega
    have hg : all[k]? = some all[k] := List.getElem?_eq_getElem (by omega)
    have hw : w64 ((k : Int) - 1) = (k : Int) - 1 := w64_of (by omega) (by omega)
    have hw1 : w64 ((k : Int) + 1) = ((k + 1 : Nat) : Int) := w64_succ (n := 100) (by omega) (by omega)
    have ht : all.take (k + 1) = all.take k ++ [all[k]] := by rw [List.take_add_one, hg]; rfl
    rw [e0, ht, List.findIdx?_append]
    generalize all[k] = t at hg
    cases he : err t with
    | true =>
      have he' : (t.1 != 0) = true := he
      rw [whileM_nxt (s' := (((k + 1 : Nat) : Int), false, (k : Int) - 1)) (by simp only [F7_L0, e, cond_true, idx_some hg, Option.bind_some, he', hw, hw1]), f7_loop all hl k _ _ (by omega)]
      cases hf : (all.take k).findIdx? err with
      | some f => rfl
      | none =>
        have hkl : (all.take k).length = k := by rw [List.length_take]; omega
        simp [List.findIdx?_cons, he, hkl]
    | false =>
      have he' : (t.1 != 0) = false := he
      rw [whileM_nxt (s' := (w, b, (k : Int) - 1)) (by simp only [F7_L0, e, cond_true, idx_some hg, Option.bind_some, he', cond_false, hw]), f7_loop all hl k _ _ (by omega)]
      cases hf : (all.take k).findIdx? err with
      | some f => rfl
      | none => simp [List.findIdx?_cons, he]
theorem law_TreeManies (a0 : List Dd) (h0 : a0.length ≤ 140737488351232) (wf0 : ∀ x ∈ a0, (i64 x.1) ∧ (x.2.1.size ≤ maxLen) ∧ (x.2.2.1.size ≤ maxLen) ∧ (i64 x.2.2.2)) (a1 : List Dd) (h1 : a1.length ≤ 140737488351232) (wf1 : ∀ x ∈ a1, (i64 x.1) ∧ (x.2.1.size ≤ maxLen) ∧ (x.2.2.1.size ≤ maxLen) ∧ (i64 x.2.2.2)) : F7 a0 a1 = some true := by
  have hsum : w64 ((a0.length : Int) + (a1.length : Int)) = (a0.length : Int) + (a1.length : Int) := w64_of (by omega) (by omega)
  unfold F7 F21
  rw [hsum]
  by_cases c : a0.length + a1.length > 60
  · have e : decide ((a0.length : Int) + (a1.length : Int) > 60) = true := by rw [decide_eq_true_eq]; omega
    simp only [e, cond_true, Option.bind_some, Bool.or_true]
    rfl
  · have e : decide ((a0.length : Int) + (a1.length : Int) > 60) = false := by rw [decide_eq_false_iff_not]; omega
    have e0 : decide ((a0.length : Int) > 60) = false := by rw [decide_eq_false_iff_not]; omega
    have e1 : decide ((a1.length : Int) > 60) = false := by rw [decide_eq_false_iff_not]; omega
    obtain ⟨ts, M, l, r1, r2, r3⟩ := ahead a0 (by omega) (fun d hd => (wf0 d hd).2.1) a0.length 0 [] _ _ (by omega) rfl R.start
    have r1' : whileM (F21_L0 a0) (mupd mzero (ByteArray.mk #[47]) (ByteArray.empty, 0), 0) = some (.brk M) := r1
    have r2' : whileM (F19_L0 a0) ([(ByteArray.mk #[47], ByteArray.empty, 0)], [], 0) = some (.brk (l, ts)) := r2
    obtain ⟨all, l', g1, g2, g3, g4⟩ := group a1 (by omega) (fun d hd => (wf1 d hd).2.1) a1.length 0 [] M l (by omega) rfl (fun t ht => by cases ht) (fun t ht => by cases ht) r3
    have g1' : whileM (F19_L0 a1) (l, [], 0) = some (.brk (l', all)) := g1
    have hlp := f7_loop all (by omega) all.length (all.length : Int) true (Nat.le_refl _)
    rw [List.take_length] at hlp
    have hw : w64 ((all.length : Int) - 1) = (all.length : Int) - 1 := w64_of (by omega) (by omega)
    unfold F26 F20 F19
    simp only [e, e0, e1, cond_false, Option.bind_some, Bool.or_false, r1', r2', g1', Ctl.on, hw, hlp]
    cases hf : all.findIdx? err with
    | none =>
      rw [hf] at g4
      obtain ⟨M', g4⟩ := g4
      have g4' : whileM (F21_L1 a1) ([], M, 0) = some (.brk (all, M')) := g4
      have hs : slI all 0 (all.length : Int) = some all := by unfold slI; rw [if_pos ⟨by omega, by omega, by omega⟩]; simp
      simp only [g4', Option.bind_some, hs, f13_self all (by omega) g3]
      rfl
    | some i =>
      rw [hf] at g4
      obtain ⟨hi, g4⟩ := g4
      have g4' : whileM (F21_L1 a1) ([], M, 0) = some (.ret (all.take (i + 1), false, 0)) := g4
      have hs : slI all 0 ((i + 1 : Nat) : Int) = some (all.take (i + 1)) := by unfold slI; rw [if_pos ⟨by omega, by omega, by omega⟩]; simp
      simp only [g4', Option.bind_some, hs, f13_self (all.take (i + 1)) (by rw [List.length_take]; omega) (fun t ht => g3 t (List.mem_of_mem_take ht))]
      rfl
end Go.Proofs.YtadfgohglcglcaaDoor
