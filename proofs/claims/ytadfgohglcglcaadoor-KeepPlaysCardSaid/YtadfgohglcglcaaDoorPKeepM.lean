/-
  Plain laws, laid into one text: PName, PBelow, PTree, PDeed, PTreePlays, PKeep, PKeepStep, PKeepPlays.
-/
import Derived.Test.YtadfgohglcglcaaDoorKM
import Derived.Test.YtadfgohglcglcaaDoorPl
import Derived.Test.YtadfgohglcglcaaDoorPw
import Derived.Laws.RangeAny
import Derived.Laws.RangeString
import Derived.Lib.IndexLaws
import Derived.Sort.Walk0
import Derived.Test.YtadfgohglcglcaaDoorBk6
import Derived.Test.YtadfgohglcglcaaDoorXM
namespace Go.Proofs.YtadfgohglcglcaaDoor
open Go Go.Bk
set_option linter.unusedVariables false
set_option linter.unusedSimpArgs false
theorem sEq_iff (x y : ByteArray) : sEq x y = decide (x = y) := by
  unfold sEq
  rw [ByteArray.toList_eq, ByteArray.toList_eq]
  by_cases h : x = y
  · subst h; simp
  · rw [decide_eq_false h, beq_eq_false_iff_ne]
    intro e
    apply h
    rw [← lb_bl x, ← lb_bl y]
    exact congrArg lb e
theorem bget (s : ByteArray) (i : Nat) : s[i]? = (bl s)[i]? := by
  unfold bl
  by_cases h : i < s.size
  · rw [getElem?_pos s i h, Array.getElem?_toList, Array.getElem?_eq_getElem h]; rfl
  · rw [getElem?_neg s i h, Array.getElem?_toList, Array.getElem?_eq_none (by simpa using h)]
theorem bl_len (s : ByteArray) : (bl s).length = s.size := by unfold bl; simp
theorem bl_extract (s : ByteArray) (a b : Nat) : bl (s.extract a b) = ((bl s).take b).drop a := by
  unfold bl
  rw [ByteArray.data_extract, Array.toList_extract, List.drop_take]
theorem bl_inj {x y : ByteArray} (h : bl x = bl y) : x = y := by rw [← lb_bl x, ← lb_bl y, h]
def inr (c : UInt8) : Bool := decide (97 ≤ c.toNat) && decide (c.toNat ≤ 122)
def fR (x : Nat) : Bool := decide ((x : Int) < 97) || decide ((x : Int) > 122)
theorem fR_lo (c : UInt8) : fR c.toNat = !inr c := by
  unfold fR inr
  by_cases a : 97 ≤ c.toNat <;> by_cases b : c.toNat ≤ 122 <;> simp [a, b] <;> omega
theorem idxF (s : ByteArray) : ∀ fuel pos, s.size ≤ pos + fuel → decide (0 ≤ Lib.idxFuncFrom fR true s fuel pos) = ((bl s).drop pos).any (fun c => !inr c)
  | 0, pos, h => by
    rw [List.drop_eq_nil_of_le (by rw [bl_len]; omega)]
    rfl
  | fuel + 1, pos, h => by
    unfold Lib.idxFuncFrom
    by_cases hp : pos < s.size
    · rw [if_pos hp]
      have hg : (bl s)[pos]? = some (s[pos]'hp) := by rw [← bget, getElem?_pos s pos hp]
      have hd : (bl s).drop pos = s[pos]'hp :: (bl s).drop (pos + 1) := by
        rw [← List.getElem_cons_drop (by rw [bl_len]; exact hp)]
        congr 1
      rw [hd, List.any_cons]
      by_cases ha : (s[pos]'hp).toNat < 128
      · rw [decode_ascii s pos hp ha]
        simp only [fR_lo]
        cases inr (s[pos]'hp) with
        | true =>
          simp only [Bool.not_true, Bool.false_or, Bool.false_eq_true, if_false]
          exact idxF s fuel (pos + 1) (by omega)
        | false => simp
      · obtain ⟨h1, _⟩ := decode_high s pos hp (by omega)
        have h2 : fR (Utf8.decode s pos).1 = true := by unfold fR; simp; omega
        have h3 : inr (s[pos]'hp) = false := by unfold inr; simp; omega
        rw [if_pos h2, h3]
        simp
    · rw [if_neg hp, List.drop_eq_nil_of_le (by rw [bl_len]; omega)]
      rfl
theorem goodP_val (s : ByteArray) : goodP s = (!(bl s).isEmpty && (bl s).all inr) := by
  unfold goodP Lib.idxFunc
  have h := idxF s s.size 0 (by omega)
  unfold fR at h
  rw [h, List.drop_zero, sEq_iff, Bool.not_or]
  congr 1
  · have : (s = ByteArray.mk #[]) ↔ bl s = [] := ⟨fun e => by rw [e]; rfl, fun e => bl_inj (by rw [e]; rfl)⟩
    rw [decide_eq_decide.2 this]
    by_cases e : bl s = []
    · have : (bl s).isEmpty = true := by simpa using e
      rw [this, decide_eq_true e]
    · have : (bl s).isEmpty = false := by simpa using e
      rw [this, decide_eq_false e]
  · rw [List.all_eq_not_any_not]
/-- All parts are there and good. -/
def okL : Bool → List UInt8 → Bool
  | st, [] => !st
  | st, c :: cs => if c = 47 then !st && okL true cs else inr c && okL false cs
theorem okL_nil (st : Bool) : okL st [] = !st := rfl
theorem okL_cons (st : Bool) (c : UInt8) (cs : List UInt8) : okL st (c :: cs) = if c = 47 then !st && okL true cs else inr c && okL false cs := rfl
theorem inr47 : inr 47 = false := by decide
theorem okL_end {bs : List UInt8} (h : Lib.indexByte bs 47 < 0) : ∀ st, okL st bs = (bs.all inr && (!st || !bs.isEmpty)) := by
  induction bs with
  | nil => intro st; simp [okL]
  | cons b bs ih =>
    intro st
    unfold Lib.indexByte at h
    by_cases c : b = 47
    · subst c; simp at h
    · have hc : (b == 47) = false := by simpa using c
      rw [hc] at h
      have h2 : Lib.indexByte bs 47 < 0 := by
        have := Lib.indexByte_ge bs 47
        by_cases q : Lib.indexByte bs 47 = -1
        · omega
        · have q2 : (Lib.indexByte bs 47 == -1) = false := by simpa using q
          simp [q2] at h
          omega
      rw [okL_cons, if_neg c, ih h2 false]
      cases st <;> simp
theorem okL_more {bs : List UInt8} {i : Nat} (h : Lib.indexByte bs 47 = (i : Int)) : ∀ st, okL st bs = (((bs.take i).all inr && (!st || !(bs.take i).isEmpty)) && okL true (bs.drop (i + 1))) := by
  induction bs generalizing i with
  | nil => unfold Lib.indexByte at h; omega
  | cons b bs ih =>
    intro st
    unfold Lib.indexByte at h
    by_cases c : b = 47
    · subst c
      have : i = 0 := by simp at h; omega
      subst this
      rw [okL_cons, if_pos rfl]
      simp
    · have hc : (b == 47) = false := by simpa using c
      rw [hc] at h
      by_cases q : Lib.indexByte bs 47 = -1
      · simp [q] at h
      · have q2 : (Lib.indexByte bs 47 == -1) = false := by simpa using q
        simp only [q2, Bool.false_eq_true, if_false] at h
        have := Lib.indexByte_ge bs 47
        obtain ⟨j, hj⟩ := Int.eq_ofNat_of_zero_le (show 0 ≤ Lib.indexByte bs 47 by omega)
        have : i = j + 1 := by omega
        subst this
        rw [okL_cons, if_neg c, ih hj false, List.drop_succ_cons, List.take_succ_cons]
        cases st <;> simp [Bool.and_assoc]
theorem allG_val : ∀ (n : Nat) (s : ByteArray), s.size ≤ n → allG n s = okL true (bl s)
  | 0, s, h => by
    have : bl s = [] := List.eq_nil_of_length_eq_zero (by rw [bl_len]; omega)
    show goodP s = _
    rw [goodP_val, this]; rfl
  | n + 1, s, h => by
    unfold allG
    by_cases c : cutAt s < 0
    · rw [decide_eq_true c, cond_true, goodP_val, okL_end (bs := bl s) c true]
      simp [Bool.and_comm]
    · obtain ⟨i, hi⟩ := Int.eq_ofNat_of_zero_le (show 0 ≤ cutAt s by omega)
      have hi' : Lib.indexByte (bl s) 47 = (i : Int) := hi
      rw [decide_eq_false c, cond_false, hi, okL_more hi' true, goodP_val, bl_extract]
      have hlt : i < s.size := by
        have h1 := (Lib.indexByte_some hi').1
        have h2 := (List.getElem?_eq_some_iff.1 h1).1
        rw [bl_len] at h2; exact h2
      rw [Int.toNat_natCast, allG_val n (s.extract (i + 1) s.size) (by rw [ByteArray.size_extract]; omega), bl_extract, List.drop_zero]
      have : (bl s).take s.size = bl s := List.take_of_length_le (by rw [bl_len]; exact Nat.le_refl _)
      rw [this]
      simp [Bool.and_comm]
/-- What a name is. -/
def nameB (p : ByteArray) : Bool := match bl p with
  | [] => false
  | c :: cs => if c = 47 then cs.isEmpty || okL true cs else false

theorem sidx_at {p : ByteArray} {j : Nat} {c : UInt8} (h : (bl p)[j]? = some c) : sidx p (j : Int) = some (c.toNat : Int) := by
  unfold sidx
  rw [if_pos (by omega), Int.toNat_natCast, bget, h]; rfl
theorem u47 (c : UInt8) : ((c.toNat : Int) == 47) = decide (c = 47) := by
  by_cases h : c = 47
  · subst h; rfl
  · rw [decide_eq_false h, beq_eq_false_iff_ne]
    intro e
    apply h
    have : c.toNat = (47 : UInt8).toNat := by
      have h2 : (47 : UInt8).toNat = 47 := rfl
      omega
    exact UInt8.toNat_inj.1 this
theorem uinr (c : UInt8) : (decide ((c.toNat : Int) < 97) || decide ((c.toNat : Int) > 122)) = !inr c := by
  have := fR_lo c
  unfold fR at this
  exact this
theorem sslc_at {s : ByteArray} {a b : Nat} (h1 : a ≤ b) (h2 : b ≤ s.size) : sslc s (a : Int) (b : Int) = some (s.extract a b) := by
  unfold sslc
  rw [if_pos ⟨by omega, by omega, by omega⟩]
  simp
/-- The program's look. -/
theorem f44_val (p : ByteArray) : F44 p (ByteArray.mk #[47]) = some (match bl p with
    | c :: _ => if c = 47 then (p.extract 1 p.size, true) else (p, false)
    | [] => (p, false)) := by
  have hs : (((ByteArray.mk #[47]).size : Nat) : Int) = ((1 : Nat) : Int) := rfl
  unfold F44 F50 F56
  rw [hs]
  cases hp : bl p with
  | nil =>
    have : p.size = 0 := by rw [← bl_len, hp]; rfl
    have hd : decide ((p.size : Int) ≥ ((1 : Nat) : Int)) = false := by rw [decide_eq_false_iff_not]; omega
    rw [hd]
    rfl
  | cons c cs =>
    have hl : p.size = cs.length + 1 := by rw [← bl_len, hp]; rfl
    have hd : decide ((p.size : Int) ≥ ((1 : Nat) : Int)) = true := by rw [decide_eq_true_eq]; omega
    have h1 : sslc p 0 ((1 : Nat) : Int) = some (p.extract 0 1) := sslc_at (a := 0) (by omega) (by omega)
    have h2 : sslc p ((1 : Nat) : Int) (p.size : Int) = some (p.extract 1 p.size) := sslc_at (by omega) (by omega)
    have he : sEq (p.extract 0 1) (ByteArray.mk #[47]) = decide (c = 47) := by
      rw [sEq_iff]
      apply decide_eq_decide.2
      constructor
      · intro h
        have := congrArg bl h
        rw [bl_extract, hp] at this
        simpa [bl] using this
      · intro h
        subst h
        apply bl_inj
        rw [bl_extract, hp]
        rfl
    rw [hd, h1, h2]
    simp only [cond_true, Option.bind_some, he]
    by_cases hc : c = 47 <;> simp [hc]
theorem f35_val {p : ByteArray} (hs : p.size ≤ 9223372036854775807) : F35 p = some (nameB p) := by
  unfold F35 nameB
  rw [f44_val, sEq_iff]
  cases hp : bl p with
  | nil =>
    have : p ≠ ByteArray.mk #[47] := fun e => by rw [e] at hp; cases hp
    simp [this]
  | cons c cs =>
    have hl : p.size = cs.length + 1 := by rw [← bl_len, hp]; rfl
    by_cases hc : c = 47
    · subst hc
      by_cases he : cs = []
      · subst he
        have : p = ByteArray.mk #[47] := bl_inj (by rw [hp]; rfl)
        simp [this]
      · have : p ≠ ByteArray.mk #[47] := fun e => by
          rw [e] at hp
          have h2 : bl (ByteArray.mk #[47]) = [47] := rfl
          rw [h2] at hp
          exact he (List.cons.inj hp).2.symm
        have h3 : cs.isEmpty = false := by simpa using he
        have h4 : (p.extract 1 p.size).size ≤ 9223372036854775807 := by rw [ByteArray.size_extract]; omega
        have h5 : bl (p.extract 1 p.size) = cs := by
          rw [bl_extract, hp, List.take_of_length_le (by simp; omega)]; rfl
        simp only [this, decide_false, cond_false, if_true, Option.bind_some, Bool.not_true, if_pos h4, h3, Bool.false_or]
        rw [allG_val _ _ (Nat.le_refl _), h5]
    · have : p ≠ ByteArray.mk #[47] := fun e => by
        rw [e] at hp
        have h2 : bl (ByteArray.mk #[47]) = [47] := rfl
        rw [h2] at hp
        exact hc (List.cons.inj hp).1.symm
      simp [this, hc]
/-! The reference's look. -/
/-- No fault behind a letter. -/
def nb : UInt8 → List UInt8 → Bool
  | _, [] => true
  | pv, c :: cs => (if c = 47 then !decide (pv = 47) else inr c) && nb c cs
theorem okL_nb : ∀ (cs : List UInt8) (pv : UInt8), okL (decide (pv = 47)) cs = (!decide ((pv :: cs).getLast (by simp) = 47) && nb pv cs)
  | [], pv => by
    rw [okL_nil]
    by_cases h : pv = 47 <;> simp [nb, h]
  | c :: cs, pv => by
    have ih := okL_nb cs c
    rw [okL_cons, List.getLast_cons (by simp)]
    unfold nb
    by_cases h : c = 47
    · rw [if_pos h, if_pos h]
      rw [decide_eq_true h] at ih
      rw [ih]
      cases decide (pv = 47) <;> simp
    · rw [if_neg h, if_neg h]
      rw [decide_eq_false h] at ih
      rw [ih]
      cases inr c <;> simp
theorem f39_loop {p : ByteArray} (hsz : p.size ≤ 9223372036854775807) : ∀ (cs : List UInt8) (j : Nat) (pv : UInt8), (bl p).drop j = cs → 0 < j → j ≤ p.size → (bl p)[j - 1]? = some pv → whileM (F39_L0 p) (j : Int) = some (if nb pv cs = true then .brk () else .ret false)
  | [], j, pv, hd, h0, hj, hp => by
    have hl : p.size ≤ j := by
      have := List.drop_eq_nil_iff.1 hd
      rwa [bl_len] at this
    have e : decide ((j : Int) < (p.size : Int)) = false := by rw [decide_eq_false_iff_not]; omega
    have hb : F39_L0 p (j : Int) = some (.brk ()) := by simp only [F39_L0, e, cond_false]
    rw [whileM_brk hb]
    rfl
  | c :: cs, j, pv, hd, h0, hj, hp => by
    have hg : (bl p)[j]? = some c := by
      have := congrArg (fun l => l[0]?) hd
      simpa [List.getElem?_drop] using this
    have hlt : j < p.size := by have := (List.getElem?_eq_some_iff.1 hg).1; rwa [bl_len] at this
    have hd2 : (bl p).drop (j + 1) = cs := by
      rw [← List.drop_drop, hd]; rfl
    have e : decide ((j : Int) < (p.size : Int)) = true := by rw [decide_eq_true_eq]; omega
    have e0 : decide ((j : Int) > 0) = true := by rw [decide_eq_true_eq]; omega
    have hj1 : w64 ((j : Int) - 1) = ((j - 1 : Nat) : Int) := by rw [w64_of (by omega) (by omega)]; omega
    have hj2 : w64 ((j : Int) + 1) = ((j + 1 : Nat) : Int) := w64_succ hlt hsz
    have ih := f39_loop hsz cs (j + 1) c hd2 (by omega) (by omega) (by simpa using hg)
    have hbody : F39_L0 p (j : Int) = (if (if c = 47 then !decide (pv = 47) else inr c) = true then some (.nxt ((j + 1 : Nat) : Int)) else some (.ret false)) := by
      have hu := uinr c
      simp only [F39_L0, e, e0, cond_true, sidx_at hg, sidx_at hp, hj1, hj2, Option.bind_some, u47]
      by_cases h : c = 47
      · rw [decide_eq_true h, if_pos h]
        by_cases q : pv = 47 <;> simp [q]
      · rw [decide_eq_false h, if_neg h, cond_false]
        cases hx : decide ((c.toNat : Int) < 97) <;> cases hy : decide ((c.toNat : Int) > 122) <;> rw [hx, hy] at hu <;> simp at hu <;> simp [hu]
    unfold nb
    by_cases h : (if c = 47 then !decide (pv = 47) else inr c) = true
    · rw [if_pos h] at hbody
      rw [whileM_nxt hbody, ih, h, Bool.true_and]
    · rw [if_neg h] at hbody
      rw [whileM_ret hbody]
      have : (if c = 47 then !decide (pv = 47) else inr c) = false := eq_false_of_ne_true h
      rw [this]; rfl
theorem f39_val {p : ByteArray} (hs : p.size ≤ 9223372036854775807) : F39 p = some (nameB p) := by
  unfold F39 nameB
  rw [sEq_iff, sEq_iff]
  cases hp : bl p with
  | nil =>
    have h1 : p ≠ ByteArray.mk #[47] := fun e => by rw [e] at hp; cases hp
    have h2 : p = ByteArray.mk #[] := bl_inj (by rw [hp]; rfl)
    rw [decide_eq_false h1, decide_eq_true h2]
    rfl
  | cons c cs =>
    have hl : p.size = cs.length + 1 := by rw [← bl_len, hp]; rfl
    have h2 : p ≠ ByteArray.mk #[] := fun e => by rw [e] at hp; cases hp
    have h0 : (bl p)[0]? = some c := by rw [hp]; rfl
    have hs0 : sidx p 0 = some (c.toNat : Int) := sidx_at h0
    have hlast : (bl p)[cs.length]? = some ((c :: cs).getLast (by simp)) := by
      rw [hp, List.getLast_eq_getElem]
      simp
    have hs1 : sidx p (w64 ((p.size : Int) - 1)) = some (((c :: cs).getLast (by simp)).toNat : Int) := by
      rw [show w64 ((p.size : Int) - 1) = ((cs.length : Nat) : Int) by rw [w64_of (by omega) (by omega)]; omega]
      exact sidx_at hlast
    show _ = some (if c = 47 then cs.isEmpty || okL true cs else false)
    by_cases hc : c = 47
    · subst hc
      by_cases he : cs = []
      · subst he
        have : p = ByteArray.mk #[47] := bl_inj (by rw [hp]; rfl)
        rw [decide_eq_true this]
        rfl
      · have h1 : p ≠ ByteArray.mk #[47] := fun e => by
          rw [e] at hp
          have h2 : bl (ByteArray.mk #[47]) = [47] := rfl
          rw [h2] at hp
          exact he (List.cons.inj hp).2.symm
        have h3 : cs.isEmpty = false := by simpa using he
        have hst : F39_L0 p 0 = some (.nxt 1) := by
          have e : decide ((0 : Int) < (p.size : Int)) = true := by rw [decide_eq_true_eq]; omega
          simp only [F39_L0, e, cond_true, hs0, Option.bind_some, u47]
          rfl
        have hlp := f39_loop (p := p) (by omega) cs 1 47 (by rw [hp]; rfl) (by omega) (by omega) (by rw [hp]; rfl)
        have hok := okL_nb cs 47
        rw [show decide ((47 : UInt8) = 47) = true from rfl] at hok
        rw [decide_eq_false h1, decide_eq_false h2, cond_false, cond_false, hs0, Option.bind_some, if_pos rfl, h3, Bool.false_or, hok]
        have e5 : (((47 : UInt8).toNat : Int) != 47) = false := rfl
        rw [e5, Option.bind_some, cond_false, hs1, Option.bind_some, u47, Option.bind_some]
        cases decide ((47 :: cs).getLast (by simp) = 47) with
        | true => rfl
        | false =>
          rw [cond_false, whileM_nxt hst]
          have hlp' : whileM (F39_L0 p) 1 = _ := hlp
          rw [hlp']
          cases nb 47 cs <;> rfl
    · have h1 : p ≠ ByteArray.mk #[47] := fun e => by
        rw [e] at hp
        have h2 : bl (ByteArray.mk #[47]) = [47] := rfl
        rw [h2] at hp
        exact hc (List.cons.inj hp).1.symm
      have e5 : ((c.toNat : Int) != 47) = true := by rw [bne, u47, decide_eq_false hc]; rfl
      rw [decide_eq_false h1, decide_eq_false h2, cond_false, cond_false, hs0, Option.bind_some, e5, Option.bind_some, cond_true, if_neg hc]
      rfl
end Go.Proofs.YtadfgohglcglcaaDoor

namespace Go.Proofs.YtadfgohglcglcaaDoor
open Go Go.Bk
set_option linter.unusedVariables false
set_option linter.unusedSimpArgs false
theorem last_ex {p : ByteArray} {cs : List UInt8} (hp : bl p = 47 :: cs) (hs : p.size ≤ 9223372036854775807) : ∀ k, k < p.size → ∃ i, i ≤ k ∧ (bl p)[i]? = some 47 ∧ whileM (F55_L0 p 47) (k : Int) = some (.ret (i : Int)) ∧ whileM (F32_L0 p) (k : Int) = some (.brk (i : Int)) := by
  intro k
  induction k with
  | zero =>
    intro hk
    have hg : (bl p)[0]? = some 47 := by rw [hp]; rfl
    have e : decide (((0 : Nat) : Int) ≥ 0) = true := rfl
    refine ⟨0, Nat.le_refl _, hg, whileM_ret ?_, whileM_brk ?_⟩
    · simp only [F55_L0, e, cond_true, sidx_at hg, Option.bind_some]; rfl
    · simp only [F32_L0, sidx_at hg, Option.bind_some]; rfl
  | succ k ih =>
    intro hk
    have hl : k + 1 < (bl p).length := by rw [bl_len]; exact hk
    have hg : (bl p)[k + 1]? = some (bl p)[k + 1] := List.getElem?_eq_getElem hl
    have e : decide (((k + 1 : Nat) : Int) ≥ 0) = true := by rw [decide_eq_true_eq]; omega
    have hw : w64 (((k + 1 : Nat) : Int) - 1) = ((k : Nat) : Int) := by rw [w64_of (by omega) (by omega)]; omega
    generalize (bl p)[k + 1] = c at hg
    by_cases hc : c = 47
    · subst hc
      refine ⟨k + 1, Nat.le_refl _, hg, whileM_ret ?_, whileM_brk ?_⟩
      · simp only [F55_L0, e, cond_true, sidx_at hg, Option.bind_some]; rfl
      · simp only [F32_L0, sidx_at hg, Option.bind_some]; rfl
    · obtain ⟨i, h1, h2, h3, h4⟩ := ih (by omega)
      have hu := u47 c
      rw [decide_eq_false hc] at hu
      refine ⟨i, by omega, h2, ?_, ?_⟩
      · rw [whileM_nxt (s' := (k : Int)) ?_, h3]
        simp only [F55_L0, e, cond_true, sidx_at hg, Option.bind_some, hu, cond_false, hw]
      · rw [whileM_nxt (s' := (k : Int)) ?_, h4]
        have hu2 : ((c.toNat : Int) != 47) = true := by rw [bne, hu]; rfl
        simp only [F32_L0, sidx_at hg, Option.bind_some, hu2, cond_true, hw]
theorem name_cons {p : ByteArray} (h : nameB p = true) : ∃ cs, bl p = 47 :: cs := by
  unfold nameB at h
  cases hp : bl p with
  | nil => rw [hp] at h; cases h
  | cons c cs =>
    rw [hp] at h
    by_cases hc : c = 47
    · exact ⟨cs, by rw [hc]⟩
    · simp [hc] at h
/-- The parent, and the last part. -/
noncomputable def prt (p : ByteArray) : ByteArray × ByteArray := (F42 p).getD (ByteArray.empty, ByteArray.empty)
/-- A name as it may be. -/
structure OkN (p : ByteArray) : Prop where
  nm : nameB p = true
  sz : p.size ≤ 9223372036854775807
theorem prt_val {p : ByteArray} (h : OkN p) : F42 p = some (prt p) ∧ F32 p = some (prt p) := by
  have hb := h.sz
  obtain ⟨cs, hp⟩ := name_cons h.nm
  have hl : p.size = cs.length + 1 := by rw [← bl_len, hp]; rfl
  have hz : (0 : Int) < (p.size : Int) := by omega
  obtain ⟨i, h1, h2, h3, h4⟩ := last_ex hp (by omega) (p.size - 1) (by omega)
  have hs : w64 ((p.size : Int) - 1) = ((p.size - 1 : Nat) : Int) := by rw [w64_of (by omega) (by omega)]; omega
  have hi : i < p.size := by omega
  have hi1 : w64 ((i : Int) + 1) = ((i + 1 : Nat) : Int) := w64_succ hi (by omega)
  have hx5 : sslc p ((i + 1 : Nat) : Int) (p.size : Int) = some (p.extract (i + 1) p.size) := sslc_at (by omega) (by omega)
  have key : ∃ r, F42 p = some r ∧ F32 p = some r := by
    unfold F42 F49 F55 F32
    rw [hs, h3, h4]
    simp only [Option.bind_some, Ctl.on, hi1, hx5]
    by_cases c : i = 0
    · subst c
      have e0 : (((0 : Nat) : Int) == 0) = true := rfl
      have e1 : mx ((0 : Nat) : Int) 1 = ((1 : Nat) : Int) := rfl
      have e2 : sslc p 0 ((1 : Nat) : Int) = some (p.extract 0 1) := sslc_at (a := 0) (by omega) (by omega)
      have e3 : sslc p 1 (p.size : Int) = some (p.extract 1 p.size) := sslc_at (a := 1) (by omega) (by omega)
      have e4 : p.extract 0 1 = ByteArray.mk #[47] := by apply bl_inj; rw [bl_extract, hp]; rfl
      rw [e0, e1, e2, e3, e4]
      exact ⟨_, rfl, rfl⟩
    · have e0 : ((i : Int) == 0) = false := by rw [beq_eq_false_iff_ne]; omega
      have e1 : mx (i : Int) 1 = (i : Int) := by unfold mx; split <;> omega
      have e2 : sslc p 0 (i : Int) = some (p.extract 0 i) := sslc_at (a := 0) (by omega) (by omega)
      rw [e0, e1, e2]
      exact ⟨_, rfl, rfl⟩
  obtain ⟨r, k1, k2⟩ := key
  have : prt p = r := by unfold prt; rw [k1]; rfl
  rw [this]
  exact ⟨k1, k2⟩

/-! Sorting. -/
theorem sLt_iff (x y : ByteArray) : sLt x y = decide (bl x < bl y) := by
  unfold sLt
  rw [ByteArray.toList_eq, ByteArray.toList_eq]
  exact Go.Proofs.bytesLess_eq _ _
def insD (x : ByteArray) : List ByteArray → List ByteArray
  | [] => [x]
  | z :: rs => if sLt x z = true then z :: insD x rs else x :: z :: rs
theorem insD_perm (x : ByteArray) : ∀ rs, (insD x rs).Perm (x :: rs)
  | [] => List.Perm.refl _
  | z :: rs => by
    unfold insD
    split
    · exact ((insD_perm x rs).cons z).trans (List.Perm.swap x z rs)
    · exact List.Perm.refl _
def Dsc (rs : List ByteArray) : Prop := rs.Pairwise fun a b => bl b ≤ bl a
theorem insD_dsc {x : ByteArray} : ∀ {rs : List ByteArray}, Dsc rs → Dsc (insD x rs)
  | [], _ => List.pairwise_singleton _ _
  | z :: rs, h => by
    obtain ⟨h1, h2⟩ := List.pairwise_cons.1 h
    unfold insD
    split
    · rename_i c
      rw [sLt_iff, decide_eq_true_eq] at c
      refine List.pairwise_cons.2 ⟨fun y hy => ?_, insD_dsc h2⟩
      rcases List.mem_cons.1 ((insD_perm x rs).mem_iff.1 hy) with rfl | hy
      · exact List.le_of_lt c
      · exact h1 y hy
    · rename_i c
      rw [sLt_iff, decide_eq_true_eq] at c
      have hz : bl z ≤ bl x := List.not_lt.1 c
      refine List.pairwise_cons.2 ⟨fun y hy => ?_, h⟩
      rcases List.mem_cons.1 hy with rfl | hy
      · exact hz
      · exact List.le_trans (h1 y hy) hz
theorem dsc_sorted {rs c : List ByteArray} (h : Dsc rs) (hp : rs.Perm c) : rs.reverse = sortedS c := by
  unfold sortedS
  have tr : ∀ a b c : List UInt8, decide (a ≤ b) = true → decide (b ≤ c) = true → decide (a ≤ c) = true := fun a b c h1 h2 => by simp only [decide_eq_true_eq] at *; exact List.le_trans h1 h2
  have to : ∀ a b : List UInt8, (decide (a ≤ b) || decide (b ≤ a)) = true := fun a b => by simp only [Bool.or_eq_true, decide_eq_true_eq]; exact List.le_total a b
  have e : (rs.reverse).map bl = (c.map bl).mergeSort fun x y => decide (x ≤ y) := by
    refine List.Perm.eq_of_pairwise (le := fun a b => decide (a ≤ b) = true) (fun a b _ _ h1 h2 => ?_) ?_ (List.pairwise_mergeSort tr to _) ((((List.reverse_perm rs).trans hp).map bl).trans (List.mergeSort_perm _ _).symm)
    · simp only [decide_eq_true_eq] at h1 h2
      exact List.le_antisymm h1 h2
    · rw [List.pairwise_map, List.pairwise_reverse]
      exact h.imp fun q => by rw [decide_eq_true_eq]; exact q
  rw [← e, List.map_map]
  have : (lb ∘ bl) = id := funext lb_bl
  rw [this, List.map_id]
theorem f41_l2 : ∀ (rp : List ByteArray) (x : ByteArray) (tl : List ByteArray), rp.length ≤ 1000 → whileM F41_L2 (rp.reverse ++ x :: tl, (rp.length : Int)) = some (.brk ((insD x rp).reverse ++ tl))
  | [], x, tl, h => by
    refine whileM_brk ?_
    have e : decide ((([] : List ByteArray).length : Int) > 0) = false := rfl
    simp only [F41_L2, e, cond_false, Option.bind_some]
    rfl
  | z :: rs, x, tl, h => by
    have hl : rs.length ≤ 1000 := by simp at h; omega
    have e : decide ((((z :: rs).length : Nat) : Int) > 0) = true := by rw [decide_eq_true_eq]; simp
    have hy : (z :: rs).reverse ++ x :: tl = rs.reverse ++ z :: x :: tl := by simp
    have hn : (z :: rs).length = rs.length + 1 := rfl
    have i1 : idx (rs.reverse ++ z :: x :: tl) ((rs.length + 1 : Nat) : Int) = some x := idx_some (by rw [List.getElem?_append_right (by simp)]; simp)
    have i2 : idx (rs.reverse ++ z :: x :: tl) ((rs.length : Nat) : Int) = some z := idx_some (by rw [List.getElem?_append_right (by simp)]; simp)
    have hw : w64 (((rs.length + 1 : Nat) : Int) - 1) = ((rs.length : Nat) : Int) := by rw [w64_of (by omega) (by omega)]; omega
    rw [hy, hn]
    unfold insD
    have hb : F41_L2 (rs.reverse ++ z :: x :: tl, ((rs.length + 1 : Nat) : Int)) = (if sLt x z = true then some (.nxt (rs.reverse ++ x :: z :: tl, (rs.length : Int))) else some (.brk (rs.reverse ++ z :: x :: tl))) := by
      rw [hn] at e
      simp only [F41_L2, e, cond_true, i1, i2, hw, Option.bind_some]
      cases c : sLt x z with
      | false => rfl
      | true =>
        have s1 : (rs.reverse ++ z :: x :: tl).set (rs.length + 1) z = rs.reverse ++ z :: z :: tl := by
          rw [List.set_append, if_neg (by simp)]; simp
        have s2 : (rs.reverse ++ z :: z :: tl).set rs.length x = rs.reverse ++ x :: z :: tl := by
          rw [List.set_append]; simp
        have i3 : idx (rs.reverse ++ z :: z :: tl) ((rs.length : Nat) : Int) = some z := idx_some (by rw [List.getElem?_append_right (by simp)]; simp)
        simp only [cond_true, Int.toNat_natCast, s1, i3, s2, Option.bind_some, if_true]
    by_cases c : sLt x z = true
    · rw [if_pos c] at hb
      rw [whileM_nxt hb, f41_l2 rs x (z :: tl) hl, if_pos c]
      simp
    · rw [if_neg c] at hb
      rw [whileM_brk hb, if_neg c]
      simp
def dsc (c : List ByteArray) : List ByteArray := c.foldl (fun rs x => insD x rs) []
theorem dsc_snoc (c : List ByteArray) (x : ByteArray) : dsc (c ++ [x]) = insD x (dsc c) := by unfold dsc; rw [List.foldl_append]; rfl
theorem dsc_fold : ∀ (c rs : List ByteArray), Dsc rs → Dsc (c.foldl (fun rs x => insD x rs) rs) ∧ (c.foldl (fun rs x => insD x rs) rs).Perm (c ++ rs)
  | [], rs, h => ⟨h, List.Perm.refl _⟩
  | x :: c, rs, h => by
    obtain ⟨h1, h2⟩ := dsc_fold c (insD x rs) (insD_dsc h)
    refine ⟨h1, h2.trans ?_⟩
    exact ((insD_perm x rs).append_left c).trans List.perm_middle
theorem dsc_ok (c : List ByteArray) : Dsc (dsc c) ∧ (dsc c).Perm c := by
  have := dsc_fold c [] List.Pairwise.nil
  rwa [List.append_nil] at this
theorem f41_sort {c : List ByteArray} (hl : c.length ≤ 1000) : whileM F41_L1 (c, 1) = some (.brk (sortedS c)) := by
  have hfin : (dsc c).reverse = sortedS c := dsc_sorted (dsc_ok c).1 (dsc_ok c).2
  by_cases h0 : c = []
  · subst h0
    refine whileM_brk ?_
    have e : decide ((1 : Int) < ((([] : List ByteArray).length : Nat) : Int)) = false := rfl
    simp only [F41_L1, e, cond_false]
    rw [← hfin]; rfl
  · have h1 : 0 < c.length := List.length_pos_iff.2 h0
    have hst : ((fun (k : Nat) => ((dsc (c.take (k + 1))).reverse ++ c.drop (k + 1), ((k + 1 : Nat) : Int))) 0) = (c, 1) := by
      match c, h0 with
      | x :: cs, _ => simp [dsc, insD]
    rw [← hst]
    refine while_upto (fun (k : Nat) => ((dsc (c.take (k + 1))).reverse ++ c.drop (k + 1), ((k + 1 : Nat) : Int))) (c.length - 1) (fun k hk => ?_) ?_ (fun s h => by cases h)
    · have hlen : ((dsc (c.take (k + 1))).reverse ++ c.drop (k + 1)).length = c.length := by
        rw [List.length_append, List.length_reverse, (dsc_ok _).2.length_eq, List.length_take, List.length_drop]; omega
      have e : decide (((k + 1 : Nat) : Int) < ((((dsc (c.take (k + 1))).reverse ++ c.drop (k + 1)).length : Nat) : Int)) = true := by rw [hlen, decide_eq_true_eq]; omega
      have hd : c.drop (k + 1) = c[k + 1] :: c.drop (k + 1 + 1) := (List.getElem_cons_drop (by omega)).symm
      have hn : ((dsc (c.take (k + 1))).length : Int) = ((k + 1 : Nat) : Int) := by rw [(dsc_ok _).2.length_eq, List.length_take]; omega
      have hin := f41_l2 (dsc (c.take (k + 1))) c[k + 1] (c.drop (k + 1 + 1)) (by rw [(dsc_ok _).2.length_eq, List.length_take]; omega)
      rw [hn, ← hd] at hin
      have ht : c.take (k + 1 + 1) = c.take (k + 1) ++ [c[k + 1]] := by rw [List.take_add_one, List.getElem?_eq_getElem (by omega)]; rfl
      have hw : w64 (((k + 1 : Nat) : Int) + 1) = ((k + 1 + 1 : Nat) : Int) := w64_succ (n := c.length) (by omega) (by omega)
      simp only [F41_L1, e, cond_true, hin, Option.bind_some, Ctl.on, hw, ht, dsc_snoc]
    · have hlen : ((dsc (c.take (c.length - 1 + 1))).reverse ++ c.drop (c.length - 1 + 1)) = (dsc c).reverse := by
        rw [Nat.sub_add_cancel h1, List.take_length, List.drop_length, List.append_nil]
      have e : decide (((c.length - 1 + 1 : Nat) : Int) < (((dsc c).reverse.length : Nat) : Int)) = false := by
        rw [List.length_reverse, (dsc_ok _).2.length_eq, decide_eq_false_iff_not]; omega
      rw [hfin] at e hlen
      simp only [hlen, F41_L1, e, cond_false]
end Go.Proofs.YtadfgohglcglcaaDoor

namespace Go.Proofs.YtadfgohglcglcaaDoor
open Go Go.Bk
set_option linter.unusedVariables false
set_option linter.unusedSimpArgs false
abbrev Nd := ByteArray × ByteArray × Int
abbrev Mp := ByteArray → Option (ByteArray × Int)
abbrev Tl := Int × ByteArray × Int × List ByteArray
abbrev Dd := Int × ByteArray × ByteArray × Int
/-- The program's tree and the reference's. -/
structure R (M : Mp) (l : List Nd) : Prop where
  en : Enum M l
  nm : ∀ x ∈ l, OkN x.1
  len : l.length ≤ 12
theorem R.mem {M : Mp} {l : List Nd} (h : R M l) {p : ByteArray} {v : ByteArray × Int} : M p = some v ↔ (p, v) ∈ l := (h.en.2 p v).symm
theorem R.absent {M : Mp} {l : List Nd} (h : R M l) {p : ByteArray} : M p = none ↔ ∀ x ∈ l, x.1 ≠ p := by
  constructor
  · intro hp x hx e
    have := h.mem.2 (show (x.1, x.2) ∈ l from hx)
    rw [e, hp] at this; cases this
  · intro hx
    cases hp : M p with
    | none => rfl
    | some v => exact (hx _ (h.mem.1 hp) rfl).elim
/-- Where a name stands. -/
theorem f40_val {l : List Nd} (hl : l.length ≤ 1000) (p : ByteArray) : F40 l p = some (match scan (fun k (x : Nd) => if x.1 = p then some (k : Int) else none) l 0 with
    | some i => i
    | none => -1) := by
  have h : whileM (F40_L0 l p) 0 = some (found () (scan (fun k (x : Nd) => if x.1 = p then some (k : Int) else none) l 0)) := by
    refine while_scan (by omega) _ (fun k e hk => ?_) (by simp [F40_L0])
    have hlt := lt_of_get hk
    have hd : decide ((k : Int) < (l.length : Int)) = true := by simpa using hlt
    simp only [F40_L0, hd, cond_true, idx_some hk, Option.bind_some, sEq_iff]
    by_cases c : e.1 = p
    · simp [c, going]
    · simp [c, going]
  unfold F40
  rw [h]
  cases scan (fun k (x : Nd) => if x.1 = p then some (k : Int) else none) l 0 <;> rfl
theorem where_some {M : Mp} {l : List Nd} (h : R M l) {p : ByteArray} {v : ByteArray × Int} (hp : M p = some v) : ∃ i : Nat, i < l.length ∧ l[i]? = some (p, v) ∧ F40 l p = some (i : Int) := by
  rw [f40_val (by have := h.len; omega)]
  cases hs : scan (fun k (x : Nd) => if x.1 = p then some (k : Int) else none) l 0 with
  | none =>
    exfalso
    have hm := h.mem.1 hp
    obtain ⟨i, hi⟩ := List.getElem?_of_mem hm
    have := scan_none.1 hs i _ hi
    simp at this
  | some r =>
    obtain ⟨i, e, hi, hv⟩ := scan_val hs
    by_cases c : e.1 = p
    · simp [c] at hv
      subst hv
      have h2 := h.mem.2 (show (e.1, e.2) ∈ l from List.mem_of_getElem? hi)
      rw [c, hp] at h2
      have h3 : v = e.2 := Option.some.inj h2
      refine ⟨i, lt_of_get hi, ?_, rfl⟩
      rw [hi, h3, ← c]
    · simp [c] at hv
theorem where_none {M : Mp} {l : List Nd} (h : R M l) {p : ByteArray} (hp : M p = none) : F40 l p = some (-1) := by
  rw [f40_val (by have := h.len; omega)]
  have : scan (fun k (x : Nd) => if x.1 = p then some (k : Int) else none) l 0 = none := scan_none.2 fun i e hi => by
    have := h.absent.1 hp e (List.mem_of_getElem? hi)
    simp [this]
  rw [this]
/-- What stands below. -/
noncomputable def pick (path : ByteArray) (x : Nd) : Option ByteArray := if (prt x.1).1 = path ∧ x.1 ≠ ByteArray.mk #[47] then some (prt x.1).2 else none
theorem app16 (l : List ByteArray) (z : ByteArray) (h : l.length ≤ 1000) : appl 16 l [z] = some (l ++ [z]) := by
  unfold appl; rw [if_pos]; simp; omega
theorem pick_len (path : ByteArray) (l : List Nd) : (l.filterMap (pick path)).length ≤ l.length := List.length_filterMap_le _ _
theorem f37_fold (path : ByteArray) : ∀ (q : List Nd) (y : List ByteArray), (∀ x ∈ q, OkN x.1) → y.length + q.length ≤ 1000 → foldR (F37_L0 path) q y = some (.nxt (y ++ q.filterMap (pick path)))
  | [], y, _, _ => by simp [foldR]
  | x :: q, y, hn, hl => by
    have hx := prt_val (hn x (List.mem_cons_self ..))
    have hl' : y.length + (q.length + 1) ≤ 1000 := hl
    rw [foldR_cons]
    have hb : F37_L0 path x.1 x.2 y = some (.nxt (match pick path x with
        | some z => y ++ [z]
        | none => y)) := by
      unfold F37_L0 pick
      rw [hx.1]
      simp only [Option.bind_some, sEq_iff]
      by_cases c1 : (prt x.1).1 = path <;> by_cases c2 : x.1 = ByteArray.mk #[47] <;> simp [c1, c2, app16 y _ (by omega)]
    rw [hb]
    simp only []
    rw [f37_fold path q _ (fun z hz => hn z (List.mem_cons_of_mem _ hz)) (by cases pick path x <;> simp <;> omega)]
    rw [List.filterMap_cons]
    cases pick path x <;> simp
theorem f37_val {M : Mp} {l : List Nd} (h : R M l) (path : ByteArray) : F37 M path = some (sortedS (l.filterMap (pick path)), M) := by
  have hl := h.len
  have hall : ∀ q, Enum M q → ∃ t, foldR (F37_L0 path) q [] = some (.nxt t) ∧ t.Perm (l.filterMap (pick path)) := fun q hq => by
    have hp := Enum.perm hq h.en
    refine ⟨q.filterMap (pick path), ?_, hp.filterMap _⟩
    have := f37_fold path q [] (fun x hx => h.nm x (hp.mem_iff.1 hx)) (by rw [hp.length_eq]; simp; omega)
    simpa using this
  obtain ⟨c, hc⟩ := rangeQ_of (R := List.Perm) (ρ := Unit) (β := Unit) ⟨l, h.en⟩ hall
  obtain ⟨_, hc2⟩ := rangeQ_spec hc
  obtain ⟨t, ht, htc⟩ := hc2 l h.en
  obtain ⟨t', ht', htl⟩ := hall l h.en
  rw [ht] at ht'
  obtain rfl : t = t' := by simpa using ht'
  have hcl : c.Perm (l.filterMap (pick path)) := htc.symm.trans htl
  unfold F37
  rw [hc, Option.bind_some]
  refine permK_of fun z hz => ?_
  have hzl : z.Perm (l.filterMap (pick path)) := hz.trans hcl
  have hlen : z.length < 4611686018427387904 := by rw [hzl.length_eq]; have := pick_len path l; omega
  unfold srtS
  rw [if_pos hlen, Option.bind_some, sortedS_perm hzl]
theorem f41_val {M : Mp} {l : List Nd} (h : R M l) (path : ByteArray) : F41 l path = some (sortedS (l.filterMap (pick path))) := by
  have hl := h.len
  have hw : whileM (F41_L0 l path) ([], 0) = some (.brk (l.filterMap (pick path))) := by
    have hst : ((fun (k : Nat) => ((l.take k).filterMap (pick path), (k : Int))) 0) = ([], 0) := rfl
    rw [← hst]
    refine while_upto (fun (k : Nat) => ((l.take k).filterMap (pick path), (k : Int))) l.length (fun k hk => ?_) ?_ (fun s h => by cases h)
    · have hg : l[k]? = some l[k] := List.getElem?_eq_getElem hk
      have ht : l.take (k + 1) = l.take k ++ [l[k]] := by rw [List.take_add_one, hg]; rfl
      have hx := prt_val (h.nm _ (List.getElem_mem hk))
      have hd : decide ((k : Int) < (l.length : Int)) = true := by simpa using hk
      have hpl : ((l.take k).filterMap (pick path)).length ≤ 1000 := by have := pick_len path (l.take k); rw [List.length_take] at this; omega
      rw [ht, List.filterMap_append]
      generalize l[k] = x at hg hx
      generalize (l.take k).filterMap (pick path) = Y at hpl
      simp only [F41_L0, hd, cond_true, idx_some hg, Option.bind_some, sEq_iff, w64_succ hk (show l.length ≤ 9223372036854775807 by omega), hx.2]
      unfold pick
      by_cases c2 : x.1 = ByteArray.mk #[47]
      · simp [c2]
      · by_cases c1 : (prt x.1).1 = path
        · simp [c1, c2]
          rw [app16 _ _ hpl]
          rfl
        · simp [c1, c2]
    · have hd : decide ((l.length : Int) < (l.length : Int)) = false := by simp
      simp only [F41_L0, hd, cond_false, List.take_length]
  unfold F41
  rw [hw]
  simp only [Option.bind_some, Ctl.on]
  rw [f41_sort (by have := pick_len path l; omega)]
  rfl
end Go.Proofs.YtadfgohglcglcaaDoor

namespace Go.Proofs.YtadfgohglcglcaaDoor
open Go Go.Bk
set_option linter.unusedVariables false
set_option linter.unusedSimpArgs false
theorem R.idx {M : Mp} {l : List Nd} (h : R M l) {i j : Nat} {a b : Nd} (ha : l[i]? = some a) (hb : l[j]? = some b) (e : a.1 = b.1) : i = j := by
  have hn := h.en.1
  have h1 : (l.map (·.1))[i]? = some a.1 := by rw [List.getElem?_map, ha]; rfl
  have h2 : (l.map (·.1))[j]? = some a.1 := by rw [List.getElem?_map, hb, e]; rfl
  obtain ⟨l1, e1⟩ := List.getElem?_eq_some_iff.1 h1
  obtain ⟨l2, e2⟩ := List.getElem?_eq_some_iff.1 h2
  rcases Nat.lt_trichotomy i j with q | q | q
  · exact (List.pairwise_iff_getElem.1 hn i j l1 l2 q (e1.trans e2.symm)).elim
  · exact q
  · exact (List.pairwise_iff_getElem.1 hn j i l2 l1 q (e2.trans e1.symm)).elim
theorem R.add {M : Mp} {l : List Nd} (h : R M l) {p : ByteArray} {v : ByteArray × Int} (hp : M p = none) (hn : OkN p) (hl : l.length < 12) : R (mupd M p v) (l ++ [(p, v)]) := by
  have hx := h.absent.1 hp
  refine ⟨⟨?_, fun k w => ?_⟩, fun x hx' => ?_, by simp; omega⟩
  · rw [List.map_append, List.nodup_append]
    refine ⟨h.en.1, by simp, fun a ha b hb e => ?_⟩
    obtain ⟨x, hx1, rfl⟩ := List.mem_map.1 ha
    simp at hb
    exact hx x hx1 (by rw [e, hb])
  · rw [List.mem_append, List.mem_singleton, h.en.2]
    unfold mupd
    by_cases c : k = p
    · subst c
      rw [hp]; simp [eq_comm]
    · simp [c]
  · rcases List.mem_append.1 hx' with q | q
    · exact h.nm x q
    · rw [List.mem_singleton] at q; rw [q]; exact hn
theorem R.del {M : Mp} {l : List Nd} (h : R M l) {i : Nat} {p : ByteArray} {v : ByteArray × Int} (hi : l[i]? = some (p, v)) : R (mdel M p) (l.take i ++ l.drop (i + 1)) := by
  rw [← List.eraseIdx_eq_take_drop_succ]
  have hs := List.eraseIdx_sublist l i
  refine ⟨⟨(hs.map _).nodup h.en.1, fun k w => ?_⟩, fun x hx => h.nm x (hs.subset hx), Nat.le_trans hs.length_le h.len⟩
  rw [List.mem_eraseIdx_iff_getElem?]
  unfold mdel
  constructor
  · rintro ⟨j, hj, hg⟩
    have hm := h.mem.2 (List.mem_of_getElem? hg)
    have : k ≠ p := fun e => hj (h.idx hg hi e)
    rw [if_neg this]; exact hm
  · intro hk
    by_cases c : k = p
    · rw [if_pos c] at hk; cases hk
    · rw [if_neg c] at hk
      obtain ⟨j, hj⟩ := List.getElem?_of_mem (h.mem.1 hk)
      refine ⟨j, fun e => ?_, hj⟩
      subst e
      rw [hi] at hj
      exact c (Prod.mk.inj (Option.some.inj hj)).1.symm
theorem R.set {M : Mp} {l : List Nd} (h : R M l) {i : Nat} {p : ByteArray} {v w : ByteArray × Int} (hi : l[i]? = some (p, v)) : R (mupd M p w) (l.set i (p, w)) := by
  have hil := lt_of_get hi
  have hk : (l.set i (p, w)).map (·.1) = l.map (·.1) := by
    apply List.ext_getElem?
    intro j
    rw [List.getElem?_map, List.getElem?_map, List.getElem?_set]
    by_cases c : i = j
    · subst c; rw [hi]; simp [hil]
    · simp [c]
  have hm : ∀ k u, (k, u) ∈ l.set i (p, w) ↔ mupd M p w k = some u := fun k u => by
    unfold mupd
    constructor
    · intro hx
      obtain ⟨j, hj⟩ := List.getElem?_of_mem hx
      rw [List.getElem?_set] at hj
      by_cases c : i = j
      · subst c
        simp [hil] at hj
        simp [hj.1, hj.2]
      · simp [c] at hj
        have : k ≠ p := fun e => c (h.idx hi hj (by simp [e]))
        rw [if_neg this]; exact h.mem.2 (List.mem_of_getElem? hj)
    · intro hk
      by_cases c : k = p
      · rw [if_pos c] at hk
        obtain rfl := Option.some.inj hk
        refine List.mem_of_getElem? (i := i) ?_
        rw [List.getElem?_set_self hil, c]
      · rw [if_neg c] at hk
        obtain ⟨j, hj⟩ := List.getElem?_of_mem (h.mem.1 hk)
        refine List.mem_of_getElem? (i := j) ?_
        have : i ≠ j := fun e => by
          subst e
          rw [hi] at hj
          exact c (Prod.mk.inj (Option.some.inj hj)).1.symm
        rw [List.getElem?_set_ne this, hj]
  refine ⟨⟨by rw [hk]; exact h.en.1, hm⟩, fun x hx => ?_, by rw [List.length_set]; exact h.len⟩
  obtain ⟨j, hj⟩ := List.getElem?_of_mem hx
  rw [List.getElem?_set] at hj
  by_cases c : i = j
  · subst c
    simp [hil] at hj
    rw [← hj]
    show OkN p
    exact h.nm (p, v) (List.mem_of_getElem? hi)
  · simp [c] at hj
    exact h.nm _ (List.mem_of_getElem? hj)
theorem f38_val (c : Int) (l : List Nd) : F38 c l = some (c, ByteArray.empty, 0, []) := rfl
theorem app40 (l m : List Nd) (h : l.length + m.length ≤ 1000) : appl 40 l m = some (l ++ m) := by
  unfold appl; rw [if_pos]; omega
/-- The same answer, and trees that go together. -/
def Same (x : Option (Tl × Mp)) (y : Option (List Nd × Tl)) : Prop := ∃ t M l, x = some (t, M) ∧ y = some (l, t) ∧ R M l ∧ t.2.2.2.length ≤ 12
theorem deed {M : Mp} {l : List Nd} (h : R M l) (d : Dd) (hd : d.2.1.size ≤ 9223372036854775807) : Same (F29 M d) (F30 l d) := by
  obtain ⟨k, path, data, ver⟩ := d
  have hlen := h.len
  have hml : mlen M = l.length := mlen_of h.en
  have hd' : path.size ≤ 9223372036854775807 := hd
  have n1 := f35_val (p := path) (by omega)
  have n2 := f39_val (p := path) (by omega)
  unfold F29 F30
  simp only [f38_val, Option.bind_some, n1, n2]
  by_cases ck : k < 1 ∨ k > 5
  · have : (decide (k < 1) || decide (k > 5)) = true := by simpa using ck
    simp only [this, cond_true]
    exact ⟨_, _, _, rfl, rfl, h, Nat.zero_le _⟩
  have ck' : (decide (k < 1) || decide (k > 5)) = false := by simp; omega
  simp only [ck', cond_false]
  cases cn : nameB path with
  | false => exact ⟨_, _, _, rfl, rfl, h, Nat.zero_le _⟩
  | true =>
  have hn : OkN path := ⟨cn, hd'⟩
  have hp := prt_val hn
  simp only [Bool.not_true, cond_false]
  cases cl : (((k == 1) || (k == 2)) && (decide ((data.size : Int) > 20))) with
  | true => exact ⟨_, _, _, rfl, rfl, h, Nat.zero_le _⟩
  | false =>
  simp only [cond_false]
  have f37 := f37_val h path
  have f41 := f41_val h path
  have hbl : (sortedS (l.filterMap (pick path))).length ≤ 12 := by rw [sortedS_len]; have := pick_len path l; omega
  generalize hbelow : sortedS (l.filterMap (pick path)) = bel at f37 f41 hbl
  have hc : k = 1 ∨ k = 2 ∨ k = 3 ∨ k = 4 ∨ k = 5 := by omega
  cases hM : M path with
  | none =>
    have hw := where_none h hM
    have e0 : decide ((-1 : Int) ≥ 0) = false := rfl
    have e1 : decide ((-1 : Int) < 0) = true := rfl
    simp only [hw, Option.bind_some, e0, e1, cond_false, cond_true, hM, Option.isSome_none, Bool.not_false]
    rcases hc with rfl | rfl | rfl | rfl | rfl
    · -- make
      unfold F36
      simp only [hM, Option.isSome_none, cond_false, hp.1, hp.2, Option.bind_some]
      cases hu : M (prt path).1 with
      | none =>
        have hw2 := where_none h hu
        simp only [hw2, Option.bind_some, e1, cond_true, Option.isSome_none, Bool.not_false]
        exact ⟨_, _, _, rfl, rfl, h, Nat.zero_le _⟩
      | some v =>
        obtain ⟨i, hi, hg, hw2⟩ := where_some h hu
        have e2 : decide ((i : Int) < 0) = false := by simp
        simp only [hw2, Option.bind_some, e2, cond_false, Option.isSome_some, Bool.not_true, hml]
        by_cases cf : l.length ≥ 12
        · have e3 : decide ((l.length : Int) ≥ 12) = true := by rw [decide_eq_true_eq]; omega
          simp only [e3, cond_true]
          exact ⟨_, _, _, rfl, rfl, h, Nat.zero_le _⟩
        · have e3 : decide ((l.length : Int) ≥ 12) = false := by rw [decide_eq_false_iff_not]; omega
          simp only [e3, cond_false, app40 [] l (by simp; omega), List.nil_append, Option.bind_some, app40 l [(path, data, 0)] (by simp; omega)]
          exact ⟨_, _, _, rfl, rfl, h.add hM hn (by omega), Nat.zero_le _⟩
    · exact ⟨_, _, _, rfl, rfl, h, Nat.zero_le _⟩
    · simp only [sEq_iff]
      cases decide (path = ByteArray.mk #[47]) <;> exact ⟨_, _, _, rfl, rfl, h, Nat.zero_le _⟩
    · exact ⟨_, _, _, rfl, rfl, h, Nat.zero_le _⟩
    · exact ⟨_, _, _, rfl, rfl, h, Nat.zero_le _⟩
  | some v =>
    obtain ⟨i, hi, hg, hw⟩ := where_some h hM
    obtain ⟨dat, vs⟩ := v
    have e0 : decide ((i : Int) ≥ 0) = true := by simp
    have e1 : decide ((i : Int) < 0) = false := by simp
    have hix : idx l (i : Int) = some (path, dat, vs) := idx_some hg
    simp only [hw, Option.bind_some, e0, e1, cond_false, cond_true, hM, Option.isSome_some, Bool.not_true, Option.getD_some, hix, f37, f41]
    rcases hc with rfl | rfl | rfl | rfl | rfl
    · unfold F36
      simp only [hM, Option.isSome_some, cond_true]
      exact ⟨_, _, _, rfl, rfl, h, Nat.zero_le _⟩
    · -- set
      have hb : (Option.bind (cond (decide (ver ≥ 0)) (some (ver != vs)) (some false)) fun b82 => some b82) = some (decide (ver ≥ 0) && (ver != vs)) := by cases decide (ver ≥ 0) <;> rfl
      have hb2 : cond (decide (ver ≥ 0)) (some (ver != vs)) (some false) = some (decide (ver ≥ 0) && (ver != vs)) := by cases decide (ver ≥ 0) <;> rfl
      simp only [hb2, Option.bind_some]
      cases cv : (decide (ver ≥ 0) && (ver != vs)) with
      | true => exact ⟨_, _, _, rfl, rfl, h, Nat.zero_le _⟩
      | false =>
        have i2 : idx (l.set i (path, data, vs)) (i : Int) = some (path, data, vs) := idx_some (List.getElem?_set_self hi)
        have i3 : idx ((l.set i (path, data, vs)).set i (path, data, w64 (vs + 1))) (i : Int) = some (path, data, w64 (vs + 1)) := idx_some (List.getElem?_set_self (by rw [List.length_set]; exact hi))
        simp only [cond_false, app40 [] l (by simp; omega), List.nil_append, Option.bind_some, hix, Int.toNat_natCast, i2, i3]
        refine ⟨_, _, _, rfl, rfl, ?_, Nat.zero_le _⟩
        rw [List.set_set]
        exact h.set hg
    · -- drop
      have hb2 : cond (decide (ver ≥ 0)) (some (ver != vs)) (some false) = some (decide (ver ≥ 0) && (ver != vs)) := by cases decide (ver ≥ 0) <;> rfl
      simp only [hb2, Option.bind_some, sEq_iff]
      cases decide (path = ByteArray.mk #[47]) with
      | true => exact ⟨_, _, _, rfl, rfl, h, Nat.zero_le _⟩
      | false =>
        cases cv : (decide (ver ≥ 0) && (ver != vs)) with
        | true => exact ⟨_, _, _, rfl, rfl, h, Nat.zero_le _⟩
        | false =>
          cases cb : decide ((bel.length : Int) > 0) with
          | true => exact ⟨_, _, _, rfl, rfl, h, Nat.zero_le _⟩
          | false =>
            have s1 : slI l 0 (i : Int) = some (l.take i) := slI_take hi
            have hw1 : w64 ((i : Int) + 1) = ((i + 1 : Nat) : Int) := w64_succ hi (by omega)
            have s2 : slI l ((i + 1 : Nat) : Int) (l.length : Int) = some (l.drop (i + 1)) := by
              unfold slI
              rw [if_pos ⟨by omega, by omega, by omega⟩]
              simp
            simp only [s1, hw1, s2, Option.bind_some, app40 [] (l.take i) (by simp; omega), List.nil_append, app40 (l.take i) (l.drop (i + 1)) (by simp; omega)]
            exact ⟨_, _, _, rfl, rfl, h.del hg, Nat.zero_le _⟩
    · exact ⟨_, _, _, rfl, rfl, h, Nat.zero_le _⟩
    · exact ⟨_, _, _, rfl, rfl, h, hbl⟩
end Go.Proofs.YtadfgohglcglcaaDoor

namespace Go.Proofs.YtadfgohglcglcaaDoor
open Go Go.Bk
set_option linter.unusedVariables false
set_option linter.unusedSimpArgs false
theorem sEq_self (x : ByteArray) : sEq x x = true := by rw [sEq_iff]; simp
theorem f16_self (t : Tl) (h : t.2.2.2.length ≤ 12) : F16 t t = some true := by
  have hw : whileM (F16_L0 t t) 0 = some (.brk ()) := by
    refine while_upto (fun (k : Nat) => (k : Int)) t.2.2.2.length (fun k hk => ?_) ?_ (fun s h => by cases h)
    · have hd : decide ((k : Int) < (t.2.2.2.length : Int)) = true := by simpa using hk
      simp only [F16_L0, hd, cond_true, idx_some (List.getElem?_eq_getElem hk), Option.bind_some, sEq_self, Bool.not_true, cond_false, w64_succ hk (show t.2.2.2.length ≤ 9223372036854775807 by omega)]
    · have hd : decide ((t.2.2.2.length : Int) < (t.2.2.2.length : Int)) = false := by simp
      simp only [F16_L0, hd, cond_false]
  have e : (((((t.1 != t.1) || (!sEq t.2.1 t.2.1)) || (t.2.2.1 != t.2.2.1)) || ((t.2.2.2.length : Int) != (t.2.2.2.length : Int)))) = false := by simp [sEq_self]
  unfold F16
  rw [e, cond_false, hw]
  rfl
theorem f13_self (ts : List Tl) (hl : ts.length ≤ 1000) (h : ∀ t ∈ ts, t.2.2.2.length ≤ 12) : F13 ts ts = some true := by
  have hw : whileM (F13_L0 ts ts) 0 = some (.brk ()) := by
    refine while_upto (fun (k : Nat) => (k : Int)) ts.length (fun k hk => ?_) ?_ (fun s h => by cases h)
    · have hd : decide ((k : Int) < (ts.length : Int)) = true := by simpa using hk
      have hs := f16_self ts[k] (h _ (List.getElem_mem hk))
      have hs' : F16 (ts[k].1, ts[k].2.1, ts[k].2.2.1, ts[k].2.2.2) (ts[k].1, ts[k].2.1, ts[k].2.2.1, ts[k].2.2.2) = some true := hs
      simp only [F13_L0, hd, cond_true, idx_some (List.getElem?_eq_getElem hk), Option.bind_some, hs', Bool.not_true, cond_false, w64_succ hk (show ts.length ≤ 9223372036854775807 by omega)]
    · have hd : decide ((ts.length : Int) < (ts.length : Int)) = false := by simp
      simp only [F13_L0, hd, cond_false]
  unfold F13
  rw [show ((ts.length : Int) != (ts.length : Int)) = false by simp, cond_false, hw]
  rfl
theorem app56 (ts : List Tl) (t : Tl) (h : ts.length ≤ 1000) : appl 56 ts [t] = some (ts ++ [t]) := by
  unfold appl; rw [if_pos]; simp; omega
theorem R.start : R (mupd mzero (ByteArray.mk #[47]) (ByteArray.empty, 0)) [(ByteArray.mk #[47], ByteArray.empty, 0)] := by
  have h0 : R (mzero : Mp) [] := ⟨Enum.zero, fun x hx => (by cases hx), by simp⟩
  exact h0.add rfl ⟨rfl, by decide⟩ (by simp)
/-- A script, by both. -/
theorem plays (ds : List Dd) (hl : ds.length ≤ 60) (hp : ∀ d ∈ ds, d.2.1.size ≤ 9223372036854775807) : ∀ (m k : Nat) (ts : List Tl) (M : Mp) (l : List Nd), k + m = ds.length → ts.length = k → (∀ t ∈ ts, t.2.2.2.length ≤ 12) → R M l →
    ∃ ts' M' l', whileM (F15_L0 ds) (ts, M, (k : Int)) = some (.brk (ts', M')) ∧ whileM (F19_L0 ds) (l, ts, (k : Int)) = some (.brk (l', ts')) ∧ R M' l' ∧ ts'.length = ds.length ∧ ∀ t ∈ ts', t.2.2.2.length ≤ 12
  | 0, k, ts, M, l, hk, ht, hb, hR => by
    have hd : decide ((k : Int) < (ds.length : Int)) = false := by rw [decide_eq_false_iff_not]; omega
    refine ⟨ts, M, l, whileM_brk ?_, whileM_brk ?_, hR, by omega, hb⟩
    · simp only [F15_L0, hd, cond_false]
    · simp only [F19_L0, hd, cond_false]
  | m + 1, k, ts, M, l, hk, ht, hb, hR => by
    have hlt : k < ds.length := by omega
    have hd : decide ((k : Int) < (ds.length : Int)) = true := by simpa using hlt
    have hg := List.getElem?_eq_getElem hlt
    obtain ⟨t, M', l', h1, h2, h3, h4⟩ := deed hR ds[k] (hp _ (List.getElem_mem hlt))
    have h1' : F29 M (ds[k].1, ds[k].2.1, ds[k].2.2.1, ds[k].2.2.2) = some (t, M') := h1
    have h2' : F30 l (ds[k].1, ds[k].2.1, ds[k].2.2.1, ds[k].2.2.2) = some (l', t) := h2
    have ha := app56 ts t (by omega)
    have ha' : appl 56 ts [(t.1, t.2.1, t.2.2.1, t.2.2.2)] = some (ts ++ [t]) := ha
    have hw := w64_succ hlt (show ds.length ≤ 9223372036854775807 by omega)
    obtain ⟨ts', M'', l'', r1, r2, r3, r4, r5⟩ := plays ds hl hp m (k + 1) (ts ++ [t]) M' l' (by omega) (by simp [ht]) (fun x hx => by
      rcases List.mem_append.1 hx with q | q
      · exact hb x q
      · rw [List.mem_singleton] at q; rw [q]; exact h4) h3
    refine ⟨ts', M'', l'', ?_, ?_, r3, r4, r5⟩
    · rw [whileM_nxt ?_, r1]
      simp only [F15_L0, hd, cond_true, idx_some hg, Option.bind_some, h1', ha', hw]
    · rw [whileM_nxt ?_, r2]
      simp only [F19_L0, hd, cond_true, idx_some hg, Option.bind_some, h2', ha', hw]
theorem law_TreePlays (a0 : List Dd) (h : a0.length ≤ 140737488351232) (wf : ∀ x ∈ a0, (i64 x.1) ∧ (x.2.1.size ≤ maxLen) ∧ (x.2.2.1.size ≤ maxLen) ∧ (i64 x.2.2.2)) : F6 a0 = some true := by
  unfold F6 F15
  by_cases c : a0.length > 60
  · have e : decide ((a0.length : Int) > 60) = true := by rw [decide_eq_true_eq]; omega
    simp only [e, cond_true, Option.bind_some]
    rfl
  · have e : decide ((a0.length : Int) > 60) = false := by rw [decide_eq_false_iff_not]; omega
    obtain ⟨ts, M, l, h1, h2, h3, h4, h5⟩ := plays a0 (by omega) (fun d hd => (wf d hd).2.1) a0.length 0 [] _ _ (by omega) rfl (fun t ht => by cases ht) R.start
    have h1' : whileM (F15_L0 a0) ([], mupd mzero (ByteArray.mk #[47]) (ByteArray.empty, 0), 0) = some (.brk (ts, M)) := h1
    have h2' : whileM (F19_L0 a0) ([(ByteArray.mk #[47], ByteArray.empty, 0)], [], 0) = some (.brk (l, ts)) := h2
    unfold F26 F20 F19
    simp only [e, cond_false, Option.bind_some, h1', h2', Ctl.on]
    rw [f13_self ts (by omega) h5]
    rfl
end Go.Proofs.YtadfgohglcglcaaDoor

namespace Go.Proofs.YtadfgohglcglcaaDoor
open Go Go.Bk
set_option linter.unusedVariables false
set_option linter.unusedSimpArgs false
/-! Trees behind a list of deeds. -/
def M0 : Mp := mupd mzero (ByteArray.mk #[47]) (ByteArray.empty, 0)
def l0 : List Nd := [(ByteArray.mk #[47], ByteArray.empty, 0)]
def t0 : Tl := (0, ByteArray.empty, 0, [])
noncomputable def nextM (M : Mp) (d : Dd) : Mp := ((F29 M d).getD (t0, M0)).2
noncomputable def nextL (l : List Nd) (d : Dd) : List Nd := ((F30 l d).getD (l0, t0)).1
noncomputable def mTree (ds : List Dd) : Mp := ds.foldl nextM M0
noncomputable def lTree (ds : List Dd) : List Nd := ds.foldl nextL l0
noncomputable def told (ds : List Dd) (d : Dd) : Tl := ((F29 (mTree ds) d).getD (t0, M0)).1
def okD (d : Dd) : Prop := d.2.1.size ≤ 9223372036854775807
theorem mTree_snoc (ds : List Dd) (d : Dd) : mTree (ds ++ [d]) = nextM (mTree ds) d := by unfold mTree; rw [List.foldl_append]; rfl
theorem lTree_snoc (ds : List Dd) (d : Dd) : lTree (ds ++ [d]) = nextL (lTree ds) d := by unfold lTree; rw [List.foldl_append]; rfl
theorem tree_step {ds : List Dd} {d : Dd} (hR : R (mTree ds) (lTree ds)) (hd : okD d) : F29 (mTree ds) d = some (told ds d, mTree (ds ++ [d])) ∧ F30 (lTree ds) d = some (lTree (ds ++ [d]), told ds d) ∧ R (mTree (ds ++ [d])) (lTree (ds ++ [d])) ∧ (told ds d).2.2.2.length ≤ 12 := by
  obtain ⟨t, M, l, h1, h2, h3, h4⟩ := deed hR d hd
  have e1 : told ds d = t := by unfold told; rw [h1]; rfl
  have e2 : mTree (ds ++ [d]) = M := by rw [mTree_snoc]; unfold nextM; rw [h1]; rfl
  have e3 : lTree (ds ++ [d]) = l := by rw [lTree_snoc]; unfold nextL; rw [h2]; rfl
  rw [e1, e2, e3]
  exact ⟨h1, h2, h3, h4⟩
theorem tree_R : ∀ (n : Nat) (ds : List Dd), ds.length = n → (∀ d ∈ ds, okD d) → R (mTree ds) (lTree ds)
  | 0, ds, hn, _ => by
    have : ds = [] := List.eq_nil_of_length_eq_zero hn
    subst this
    exact R.start
  | n + 1, ds, hn, h => by
    have hne : ds ≠ [] := fun e => by rw [e] at hn; cases hn
    have e := List.dropLast_concat_getLast hne
    rw [← e]
    have hd : ∀ d ∈ ds.dropLast, okD d := fun d q => h d (List.dropLast_subset ds q)
    exact (tree_step (tree_R n ds.dropLast (by simp [hn]) hd) (h _ (List.getLast_mem hne))).2.2.1
/-- The reference plays all anew. -/
theorem f19_val (ds : List Dd) (hl : ds.length ≤ 60) (h : ∀ d ∈ ds, okD d) : ∃ ts, F19 l0 ds = some (lTree ds, ts) := by
  have key : ∀ (m k : Nat) (ts : List Tl), k + m = ds.length → ts.length = k → ∃ ts', whileM (F19_L0 ds) (lTree (ds.take k), ts, (k : Int)) = some (.brk (lTree ds, ts')) := by
    intro m
    induction m with
    | zero =>
      intro k ts hk ht
      have hd : decide ((k : Int) < (ds.length : Int)) = false := by rw [decide_eq_false_iff_not]; omega
      refine ⟨ts, whileM_brk ?_⟩
      rw [List.take_of_length_le (by omega)]
      simp only [F19_L0, hd, cond_false]
    | succ m ih =>
      intro k ts hk ht
      have hlt : k < ds.length := by omega
      have hd : decide ((k : Int) < (ds.length : Int)) = true := by simpa using hlt
      have hg := List.getElem?_eq_getElem hlt
      have htk : ds.take (k + 1) = ds.take k ++ [ds[k]] := by rw [List.take_add_one, hg]; rfl
      have hR := tree_R _ (ds.take k) rfl (fun d q => h d (List.mem_of_mem_take q))
      obtain ⟨_, h2, _, _⟩ := tree_step hR (h _ (List.getElem_mem hlt))
      have h2' : F30 (lTree (ds.take k)) (ds[k].1, ds[k].2.1, ds[k].2.2.1, ds[k].2.2.2) = some (lTree (ds.take k ++ [ds[k]]), told (ds.take k) ds[k]) := h2
      generalize told (ds.take k) ds[k] = t at h2'
      have ha' : appl 56 ts [(t.1, t.2.1, t.2.2.1, t.2.2.2)] = some (ts ++ [t]) := app56 ts t (by omega)
      have hw := w64_succ hlt (show ds.length ≤ 9223372036854775807 by omega)
      obtain ⟨ts', r⟩ := ih (k + 1) (ts ++ [t]) (by omega) (by simp [ht])
      refine ⟨ts', ?_⟩
      rw [whileM_nxt ?_, r]
      simp only [F19_L0, hd, cond_true, idx_some hg, Option.bind_some, h2', ha', hw, htk]
  obtain ⟨ts', r⟩ := key ds.length 0 [] (by omega) rfl
  refine ⟨ts', ?_⟩
  unfold F19
  have r' : whileM (F19_L0 ds) (l0, [], 0) = some (.brk (lTree ds, ts')) := r
  rw [r']
  rfl
/-- A look leaves the tree as it was. -/
theorem read_same {ds : List Dd} {d : Dd} (hR : R (mTree ds) (lTree ds)) (hd : okD d) (hk : d.1 = 4 ∨ d.1 = 5) : mTree (ds ++ [d]) = mTree ds := by
  obtain ⟨h1, _, _, _⟩ := tree_step hR hd
  have f37 := f37_val hR d.2.1
  have n1 := f35_val (p := d.2.1) hd
  revert h1
  generalize mTree (ds ++ [d]) = M'
  generalize told ds d = t
  generalize mTree ds = M at f37 ⊢
  obtain ⟨k, path, data, ver⟩ := d
  simp only at hk n1 f37
  intro h1
  unfold F29 at h1
  have e1 : (decide (k < 1) || decide (k > 5)) = false := by simp; omega
  have e2 : (k == 2) = false := by rw [beq_eq_false_iff_ne]; omega
  have e3 : (k == 1) = false := by rw [beq_eq_false_iff_ne]; omega
  have e4 : (k == 3) = false := by rw [beq_eq_false_iff_ne]; omega
  simp only [e1, e2, e3, e4, n1, f37, Option.bind_some, cond_false, Bool.or_self, Bool.false_and] at h1
  cases hn : nameB path with
  | false => rw [hn] at h1; exact (Prod.mk.inj (Option.some.inj h1)).2.symm
  | true =>
    rw [hn] at h1
    simp only [Bool.not_true, cond_false] at h1
    cases hM : M path with
    | none => simp only [hM, Option.isSome_none, Bool.not_false, cond_true] at h1; exact (Prod.mk.inj (Option.some.inj h1)).2.symm
    | some v =>
      simp only [hM, Option.isSome_some, Bool.not_true, cond_false] at h1
      rcases hk with rfl | rfl
      · exact (Prod.mk.inj (Option.some.inj h1)).2.symm
      · exact (Prod.mk.inj (Option.some.inj h1)).2.symm

/-! A server is brought up to the order. -/
abbrev Sv := Mp × Int
noncomputable def lastT (ord : List Dd) (j many : Nat) (t : Tl) : Tl := if j = many then t else told (ord.take (many - 1)) (ord.getD (many - 1) (0, ByteArray.empty, ByteArray.empty, 0))
theorem apply_loop {ord : List Dd} (hl : ord.length ≤ 1000) (hok : ∀ d ∈ ord, okD d) (z : List Sv) {s many : Nat} (hm : many ≤ ord.length) : ∀ (m j : Nat) (srv : List Sv) (t : Tl), j + m = many → srv[s]? = some (mTree (ord.take j), (j : Int)) → t.2.2.2.length ≤ 12 →
    ∃ T, T = lastT ord j many t ∧ T.2.2.2.length ≤ 12 ∧ whileM (F34_L0 (z, ord) (s : Int) (many : Int)) (t.2.2.2, srv, t.1, t.2.1, t.2.2.1) = some (.brk (T.2.2.2, srv.set s (mTree (ord.take many), (many : Int)), T.1, T.2.1, T.2.2.1))
  | 0, j, srv, t, hj, hs, ht => by
    obtain rfl : j = many := by omega
    have hi : idx srv (s : Int) = some (mTree (ord.take j), (j : Int)) := idx_some hs
    have hd : decide ((j : Int) < (j : Int)) = false := by simp
    have hset : srv.set s (mTree (ord.take j), (j : Int)) = srv := by
      apply List.ext_getElem?
      intro i
      rw [List.getElem?_set]
      by_cases c : s = i
      · subst c; rw [hs]; simp [lt_of_get hs]
      · simp [c]
    refine ⟨t, by unfold lastT; simp, ht, ?_⟩
    rw [hset]
    refine whileM_brk ?_
    simp only [F34_L0, hi, Option.bind_some, hd, cond_false]
  | m + 1, j, srv, t, hj, hs, ht => by
    have hlt : j < ord.length := by omega
    have hsl := lt_of_get hs
    have hi : idx srv (s : Int) = some (mTree (ord.take j), (j : Int)) := idx_some hs
    have hd : decide ((j : Int) < (many : Int)) = true := by rw [decide_eq_true_eq]; omega
    have hg : ord[j]? = some ord[j] := List.getElem?_eq_getElem hlt
    have htk : ord.take (j + 1) = ord.take j ++ [ord[j]] := by rw [List.take_add_one, hg]; rfl
    have hR := tree_R _ (ord.take j) rfl (fun d q => hok d (List.mem_of_mem_take q))
    obtain ⟨h1, _, _, h4⟩ := tree_step hR (hok _ (List.getElem_mem hlt))
    have hw : w64 ((j : Int) + 1) = ((j + 1 : Nat) : Int) := w64_succ (n := 2000) (by omega) (by omega)
    rw [← htk] at h1
    generalize hT : told (ord.take j) ord[j] = u at h1 h4
    have i2 : idx (srv.set s (mTree (ord.take (j + 1)), (j : Int))) (s : Int) = some (mTree (ord.take (j + 1)), (j : Int)) := idx_some (List.getElem?_set_self hsl)
    have hsrv : ((srv.set s (mTree (ord.take (j + 1)), (j : Int))).set s (mTree (ord.take (j + 1)), ((j + 1 : Nat) : Int))) = srv.set s (mTree (ord.take (j + 1)), ((j + 1 : Nat) : Int)) := List.set_set ..
    obtain ⟨T, hT1, hT2, hw2⟩ := apply_loop hl hok z hm m (j + 1) (srv.set s (mTree (ord.take (j + 1)), ((j + 1 : Nat) : Int))) u (by omega) (List.getElem?_set_self hsl) h4
    refine ⟨T, ?_, hT2, ?_⟩
    · rw [hT1]
      unfold lastT
      have n1 : ¬ j = many := by omega
      rw [if_neg n1]
      by_cases c : j + 1 = many
      · rw [if_pos c, ← c, Nat.add_sub_cancel, ← hT]
        rw [List.getD_eq_getElem?_getD, hg]; rfl
      · rw [if_neg c]
    · rw [List.set_set] at hw2
      rw [whileM_nxt ?_, hw2]
      simp only [F34_L0, hi, Option.bind_some, hd, cond_true, idx_some hg, h1, Int.toNat_natCast, i2, hw, hsrv]
theorem apply_val {ord : List Dd} (hl : ord.length ≤ 1000) (hok : ∀ d ∈ ord, okD d) {srv : List Sv} {s j many : Nat} (hm : many ≤ ord.length) (hj : j ≤ many) (hs : srv[s]? = some (mTree (ord.take j), (j : Int))) :
    F34 (srv, ord) (s : Int) (many : Int) = some (lastT ord j many t0, (srv.set s (mTree (ord.take many), (many : Int)), ord)) ∧ (lastT ord j many t0).2.2.2.length ≤ 12 := by
  obtain ⟨T, h1, h2, h3⟩ := apply_loop hl hok srv hm (many - j) j srv t0 (by omega) hs (by simp [t0])
  have h3' : whileM (F34_L0 (srv, ord) (s : Int) (many : Int)) ([], srv, 0, ByteArray.empty, 0) = _ := h3
  unfold F34
  rw [← h1]
  rw [h3']
  exact ⟨rfl, h2⟩
/-- What the two sides keep. -/
structure KR (n : Nat) (srv : List Sv) (ord : List Dd) (at6 seen6 : T6 Int) (ratt rapp rseen : List Int) : Prop where
  ok : ∀ d ∈ ord, okD d
  len : srv.length = n
  rlen : rapp.length = n
  sv : ∀ s, s < n → ∃ j : Nat, j ≤ ord.length ∧ srv[s]? = some (mTree (ord.take j), (j : Int)) ∧ rapp[s]? = some (j : Int)
  att : tl6 at6 = ratt
  atok : ∀ c, c < 6 → ∃ s : Nat, s < n ∧ ratt[c]? = some (s : Int)
  seen : tl6 seen6 = rseen
end Go.Proofs.YtadfgohglcglcaaDoor

namespace Go.Proofs.YtadfgohglcglcaaDoor
open Go Go.Bk
set_option linter.unusedVariables false
set_option linter.unusedSimpArgs false
abbrev Sp := Int × Int × Int × Int × ByteArray × ByteArray × Int
theorem as6_val {x : T6 Int} {c : Nat} (hc : c < 6) (y : Int) : as6 x (c : Int) y = some (ts6 x c y) := by
  unfold as6
  rw [if_pos ⟨by omega, by omega⟩, Int.toNat_natCast]
theorem take_app {ord : List Dd} {d : Dd} {j : Nat} (h : j ≤ ord.length) : (ord ++ [d]).take j = ord.take j := List.take_append_of_le_length h
theorem KR.longer {n : Nat} {srv : List Sv} {ord : List Dd} {at6 seen6 : T6 Int} {ratt rapp rseen : List Int} (h : KR n srv ord at6 seen6 ratt rapp rseen) {d : Dd} (hd : okD d) : KR n srv (ord ++ [d]) at6 seen6 ratt rapp rseen :=
  ⟨fun x hx => by
    rcases List.mem_append.1 hx with q | q
    · exact h.ok x q
    · rw [List.mem_singleton] at q; rw [q]; exact hd, h.len, h.rlen, fun s hs => by
    obtain ⟨j, h1, h2, h3⟩ := h.sv s hs
    exact ⟨j, by simp; omega, by rw [take_app h1]; exact h2, h3⟩, h.att, h.atok, h.seen⟩
theorem KR.brought {n : Nat} {srv : List Sv} {ord : List Dd} {at6 seen6 : T6 Int} {ratt rapp rseen : List Int} (h : KR n srv ord at6 seen6 ratt rapp rseen) {s m : Nat} (hs : s < n) (hm : m ≤ ord.length) :
    KR n (srv.set s (mTree (ord.take m), (m : Int))) ord at6 seen6 ratt (rapp.set s (m : Int)) rseen :=
  ⟨h.ok, by rw [List.length_set]; exact h.len, by rw [List.length_set]; exact h.rlen, fun i hi => by
    by_cases c : s = i
    · subst c
      exact ⟨m, hm, List.getElem?_set_self (by rw [h.len]; exact hs), List.getElem?_set_self (by rw [h.rlen]; exact hs)⟩
    · obtain ⟨j, h1, h2, h3⟩ := h.sv i hi
      exact ⟨j, h1, by rw [List.getElem?_set_ne c]; exact h2, by rw [List.getElem?_set_ne c]; exact h3⟩, h.att, h.atok, h.seen⟩
theorem KR.saw {n : Nat} {srv : List Sv} {ord : List Dd} {at6 seen6 : T6 Int} {ratt rapp rseen : List Int} (h : KR n srv ord at6 seen6 ratt rapp rseen) (c : Nat) (v : Int) : KR n srv ord at6 (ts6 seen6 c v) ratt rapp (rseen.set c v) :=
  ⟨h.ok, h.len, h.rlen, h.sv, h.att, h.atok, by rw [tl6_set, h.seen]⟩
theorem KR.goto {n : Nat} {srv : List Sv} {ord : List Dd} {at6 seen6 : T6 Int} {ratt rapp rseen : List Int} (h : KR n srv ord at6 seen6 ratt rapp rseen) {c s : Nat} (hs : s < n) : KR n srv ord (ts6 at6 c (s : Int)) seen6 (ratt.set c (s : Int)) rapp rseen :=
  ⟨h.ok, h.len, h.rlen, h.sv, by rw [tl6_set, h.att], fun i hi => by
    have hl : ratt.length = 6 := by rw [← h.att]; rfl
    by_cases e : c = i
    · subst e; exact ⟨s, hs, List.getElem?_set_self (by omega)⟩
    · obtain ⟨z, h1, h2⟩ := h.atok i hi
      exact ⟨z, h1, by rw [List.getElem?_set_ne e]; exact h2⟩, h.seen⟩
/-- What a step does, in one word: the answer and all that is kept, on both sides. -/
def KStep (n : Nat) (srv : List Sv) (ord : List Dd) (at6 seen6 : T6 Int) (ratt rapp rseen : List Int) (x : Sp) : Prop :=
  ∃ (T : Tl) (srv' : List Sv) (ord' : List Dd) (at' seen' : T6 Int) (ratt' rapp' rseen' : List Int), F27 (srv, ord, at6, seen6) x = some (T, (srv', ord', at', seen')) ∧ KR n srv' ord' at' seen' ratt' rapp' rseen' ∧ ord'.length ≤ ord.length + 1 ∧ T.2.2.2.length ≤ 12 ∧
    ∀ (a1 : List Sp) (ts : List Tl) (kk : Nat), a1[kk]? = some x → a1.length ≤ 60 → ts.length = kk → F25_L0 (n : Int) a1 (ord, ts, ratt, rapp, rseen, (kk : Int)) = some (.nxt (ord', ts ++ [T], ratt', rapp', rseen', ((kk + 1 : Nat) : Int)))
theorem keep_step {n : Nat} {srv : List Sv} {ord : List Dd} {at6 seen6 : T6 Int} {ratt rapp rseen : List Int} (h : KR n srv ord at6 seen6 ratt rapp rseen) (hl : ord.length < 60) (x : Sp) (hx : okD x.2.2.2) : KStep n srv ord at6 seen6 ratt rapp rseen x := by
  obtain ⟨k, c, s, dk, path, data, ver⟩ := x
  have hx' : okD (dk, path, data, ver) := hx
  have hrl : ratt.length = 6 := by rw [← h.att]; rfl
  have hsl : rseen.length = 6 := by rw [← h.seen]; rfl
  have fin : ∀ (a1 : List Sp) (ts : List Tl) (kk : Nat), a1[kk]? = some (k, c, s, dk, path, data, ver) → a1.length ≤ 60 → ts.length = kk → decide ((kk : Int) < (a1.length : Int)) = true ∧ w64 ((kk : Int) + 1) = ((kk + 1 : Nat) : Int) ∧ ∀ T : Tl, appl 56 ts [(T.1, T.2.1, T.2.2.1, T.2.2.2)] = some (ts ++ [T]) := fun a1 ts kk h1 h2 h3 => by
    have := lt_of_get h1
    exact ⟨by rw [decide_eq_true_eq]; omega, w64_succ (n := 100) (by omega) (by omega), fun T => app56 ts T (by omega)⟩
  have hn : (srv.length : Int) = (n : Int) := by rw [h.len]
  unfold KStep
  simp only [F27, hn]
  cases hA : (((decide (k < 1)) || (decide (k > 4))) || ((k == 1) && ((decide (dk < 1)) || (decide (dk > 5))))) with
  | true =>
    refine ⟨_, _, _, _, _, _, _, _, rfl, h, by omega, Nat.zero_le _, fun a1 ts kk h1 h2 h3 => ?_⟩
    obtain ⟨f1, f2, f3⟩ := fin a1 ts kk h1 h2 h3
    simp only [F25_L0, f1, cond_true, idx_some h1, Option.bind_some, hA, f2, f3 (6, ByteArray.empty, 0, [])]
  | false =>
  simp only [cond_false]
  cases hB : (((k != 2) && (!((decide (c ≥ 0)) && (decide (c < 6))))) || (((k == 2) || (k == 3)) && (!((decide (s ≥ 0)) && (decide (s < (n : Int))))))) with
  | true =>
    refine ⟨_, _, _, _, _, _, _, _, rfl, h, by omega, Nat.zero_le _, fun a1 ts kk h1 h2 h3 => ?_⟩
    obtain ⟨f1, f2, f3⟩ := fin a1 ts kk h1 h2 h3
    simp only [F25_L0, f1, cond_true, cond_false, idx_some h1, Option.bind_some, hA, hB, f2, f3 (2, ByteArray.empty, 0, [])]
  | false =>
  simp only [cond_false]
  have hk : k = 1 ∨ k = 2 ∨ k = 3 ∨ k = 4 := by
    simp only [Bool.or_eq_false_iff, decide_eq_false_iff_not] at hA
    omega
  have hc : k ≠ 2 → ∃ cn : Nat, cn < 6 ∧ c = (cn : Int) := fun q => by
    have q2 : (k != 2) = true := by simpa using q
    rw [q2, Bool.true_and] at hB
    have := (Bool.or_eq_false_iff.1 hB).1
    simp at this
    exact ⟨c.toNat, by omega, by omega⟩
  have hsn : k = 2 ∨ k = 3 → ∃ sn : Nat, sn < n ∧ s = (sn : Int) := fun q => by
    have q2 : ((k == 2) || (k == 3)) = true := by rcases q with rfl | rfl <;> rfl
    rw [q2, Bool.true_and] at hB
    have := (Bool.or_eq_false_iff.1 hB).2
    simp at this
    exact ⟨s.toNat, by omega, by omega⟩
  rcases hk with rfl | rfl | rfl | rfl
  · -- a deed
    obtain ⟨cn, hcn, rfl⟩ := hc (by decide)
    obtain ⟨z, hz, gz⟩ := h.atok cn hcn
    obtain ⟨j, hj, g1, g2⟩ := h.sv z hz
    have e1 : ((1 : Int) == 1) = true := rfl
    have e2 : ((1 : Int) == 2) = false := rfl
    have e3 : ((1 : Int) == 3) = false := rfl
    have e4 : ((1 : Int) == 4) = false := rfl
    have hdk : 1 ≤ dk ∧ dk ≤ 5 := by
      rw [e1, Bool.true_and] at hA
      simp only [Bool.or_eq_false_iff, decide_eq_false_iff_not] at hA
      omega
    have gs : rseen[cn]? = some rseen[cn] := List.getElem?_eq_getElem (by omega)
    generalize rseen[cn] = v at gs
    have is : idx (tl6 seen6) (cn : Int) = some v := by rw [h.seen]; exact idx_some gs
    have ia : idx (tl6 at6) (cn : Int) = some (z : Int) := by rw [h.att]; exact idx_some gz
    simp only [e1, cond_true, F33, ia, Option.bind_some]
    by_cases hr : dk ≥ 4
    · -- a look
      have e5 : ((dk == 4) || (dk == 5)) = true := by
        rw [Bool.or_eq_true, beq_iff_eq, beq_iff_eq]; omega
      have e6 : decide (dk ≥ 4) = true := by simpa using hr
      have hok2 : ∀ d ∈ ord.take j, okD d := fun d q => h.ok d (List.mem_of_mem_take q)
      have hR := tree_R _ (ord.take j) rfl hok2
      obtain ⟨s1, s2, s3, s4⟩ := tree_step hR hx'
      rw [read_same hR hx' (by show dk = 4 ∨ dk = 5; omega)] at s1
      obtain ⟨ts19, s5⟩ := f19_val (ord.take j) (by rw [List.length_take]; omega) hok2
      have s6 : slI ord 0 (j : Int) = some (ord.take j) := by unfold slI; rw [if_pos ⟨by omega, by omega, by omega⟩]; simp
      have s7 : F20 = some l0 := rfl
      have hset : srv.set z (mTree (ord.take j), (j : Int)) = srv := by
        apply List.ext_getElem?
        intro i
        rw [List.getElem?_set]
        by_cases c : z = i
        · subst c; rw [g1]; simp [lt_of_get g1]
        · simp [c]
      generalize told (ord.take j) (dk, path, data, ver) = T at s1 s2 s4
      simp only [e5, cond_true, idx_some g1, Option.bind_some, s1, Int.toNat_natCast, hset, is, as6_val hcn]
      refine ⟨T, _, _, _, _, _, _, _, rfl, h.saw cn (j : Int), by omega, s4, fun a1 ts kk h1 h2 h3 => ?_⟩
      obtain ⟨f1, f2, f3⟩ := fin a1 ts kk h1 h2 h3
      simp only [F25_L0, f1, cond_true, cond_false, idx_some h1, Option.bind_some, hA, hB]
      simp only [cond_true, cond_false, Option.bind_some, e2, e3, e4, e6, idx_some g2, idx_some gs, idx_some gz, s6, s7, s5, s2, Int.toNat_natCast, f2, f3 T]
    · have e5 : ((dk == 4) || (dk == 5)) = false := by
        rw [Bool.or_eq_false_iff, beq_eq_false_iff_ne, beq_eq_false_iff_ne]; omega
      have e6 : decide (dk ≥ 4) = false := by simpa using hr
      have hR := tree_R _ ord rfl h.ok
      obtain ⟨s1, s2, s3, s4⟩ := tree_step hR hx'
      obtain ⟨ts19, s5⟩ := f19_val ord (by omega) h.ok
      have s7 : F20 = some l0 := rfl
      have s8 : appl 48 ord [(dk, path, data, ver)] = some (ord ++ [(dk, path, data, ver)]) := by unfold appl; rw [if_pos]; simp; omega
      have hL : (ord ++ [(dk, path, data, ver)]).length = ord.length + 1 := by simp
      have g1' : srv[z]? = some (mTree ((ord ++ [(dk, path, data, ver)]).take j), (j : Int)) := by rw [take_app hj]; exact g1
      have h' := h.longer hx'
      obtain ⟨a1, a2⟩ := apply_val (ord := ord ++ [(dk, path, data, ver)]) (srv := srv) (s := z) (j := j) (many := (ord ++ [(dk, path, data, ver)]).length) (by omega) h'.ok (Nat.le_refl _) (by omega) g1'
      have hT : lastT (ord ++ [(dk, path, data, ver)]) j (ord ++ [(dk, path, data, ver)]).length t0 = told ord (dk, path, data, ver) := by
        unfold lastT
        rw [hL, if_neg (by omega), Nat.add_sub_cancel, take_app (Nat.le_refl _), List.take_length]
        rw [List.getD_eq_getElem?_getD, List.getElem?_append_right (Nat.le_refl _)]
        simp
      rw [hT] at a1
      generalize told ord (dk, path, data, ver) = T at a1 s2 s4
      have gset : idx (rapp.set z ((ord ++ [(dk, path, data, ver)]).length : Int)) (z : Int) = some ((ord ++ [(dk, path, data, ver)]).length : Int) := idx_some (List.getElem?_set_self (by rw [h.rlen]; exact hz))
      have gset2 : idx (srv.set z (mTree ((ord ++ [(dk, path, data, ver)]).take (ord ++ [(dk, path, data, ver)]).length), ((ord ++ [(dk, path, data, ver)]).length : Int))) (z : Int) = some (mTree ((ord ++ [(dk, path, data, ver)]).take (ord ++ [(dk, path, data, ver)]).length), ((ord ++ [(dk, path, data, ver)]).length : Int)) := idx_some (List.getElem?_set_self (by rw [h.len]; exact hz))
      simp only [e5, cond_false, s8, a1, gset2, Option.bind_some, is, as6_val hcn]
      refine ⟨T, _, _, _, _, _, _, _, rfl, (h'.brought hz (m := (ord ++ [(dk, path, data, ver)]).length) (Nat.le_refl _)).saw cn ((ord ++ [(dk, path, data, ver)]).length : Int), by omega, s4, fun a1 ts kk h1 h2 h3 => ?_⟩
      obtain ⟨f1, f2, f3⟩ := fin a1 ts kk h1 h2 h3
      simp only [F25_L0, f1, cond_true, cond_false, idx_some h1, Option.bind_some, hA, hB]
      simp only [cond_true, cond_false, Option.bind_some, e2, e3, e4, e6, idx_some g2, idx_some gs, idx_some gz, gset, s7, s5, s2, s8, Int.toNat_natCast, f2, f3 T]
  · -- apply
    obtain ⟨sn, hsn1, rfl⟩ := hsn (.inl rfl)
    obtain ⟨j, hj, g1, g2⟩ := h.sv sn hsn1
    have e1 : ((2 : Int) == 1) = false := rfl
    have e2 : ((2 : Int) == 2) = true := rfl
    simp only [e1, e2, cond_false, cond_true, idx_some g1, Option.bind_some]
    by_cases cj : j = ord.length
    · have e3 : ((j : Int) == (ord.length : Int)) = true := by rw [beq_iff_eq]; omega
      simp only [e3, cond_true]
      refine ⟨_, _, _, _, _, _, _, _, rfl, h, by omega, Nat.zero_le _, fun a1 ts kk h1 h2 h3 => ?_⟩
      obtain ⟨f1, f2, f3⟩ := fin a1 ts kk h1 h2 h3
      simp only [F25_L0, f1, cond_true, cond_false, idx_some h1, Option.bind_some, hA, hB]
      simp only [cond_true, cond_false, Option.bind_some, e2, idx_some g2, e3, f2, f3 (5, ByteArray.empty, 0, [])]
    · have e3 : ((j : Int) == (ord.length : Int)) = false := by rw [beq_eq_false_iff_ne]; omega
      have hw : w64 ((j : Int) + 1) = ((j + 1 : Nat) : Int) := w64_succ (n := 100) (by omega) (by omega)
      obtain ⟨a1, a2⟩ := apply_val (ord := ord) (srv := srv) (s := sn) (j := j) (many := j + 1) (by omega) h.ok (by omega) (by omega) g1
      simp only [e3, cond_false, hw, a1, Option.bind_some]
      refine ⟨_, _, _, _, _, _, _, _, rfl, h.brought hsn1 (m := j + 1) (by omega), by omega, Nat.zero_le _, fun a1 ts kk h1 h2 h3 => ?_⟩
      obtain ⟨f1, f2, f3⟩ := fin a1 ts kk h1 h2 h3
      simp only [F25_L0, f1, cond_true, cond_false, idx_some h1, Option.bind_some, hA, hB]
      simp only [cond_true, cond_false, Option.bind_some, e2, idx_some g2, e3, hw, Int.toNat_natCast, f2, f3 (0, ByteArray.empty, 0, [])]
  · -- move
    obtain ⟨sn, hsn1, rfl⟩ := hsn (.inr rfl)
    obtain ⟨cn, hcn, rfl⟩ := hc (by decide)
    obtain ⟨j, hj, g1, g2⟩ := h.sv sn hsn1
    obtain ⟨z, hz, gz⟩ := h.atok cn hcn
    have e1 : ((3 : Int) == 1) = false := rfl
    have e2 : ((3 : Int) == 2) = false := rfl
    have e3 : ((3 : Int) == 3) = true := rfl
    have gs : rseen[cn]? = some rseen[cn] := List.getElem?_eq_getElem (by omega)
    generalize rseen[cn] = v at gs
    have is : idx (tl6 seen6) (cn : Int) = some v := by rw [h.seen]; exact idx_some gs
    have ia : idx (tl6 at6) (cn : Int) = some (z : Int) := by rw [h.att]; exact idx_some gz
    simp only [e1, e2, e3, cond_false, cond_true, idx_some g1, Option.bind_some, is, ia, as6_val hcn]
    cases cv : decide ((j : Int) < v) with
    | true =>
      refine ⟨_, _, _, _, _, _, _, _, rfl, h, by omega, Nat.zero_le _, fun a1 ts kk h1 h2 h3 => ?_⟩
      obtain ⟨f1, f2, f3⟩ := fin a1 ts kk h1 h2 h3
      simp only [F25_L0, f1, cond_true, cond_false, idx_some h1, Option.bind_some, hA, hB]
      simp only [cond_true, cond_false, Option.bind_some, e2, e3, idx_some g2, idx_some gs, cv, f2, f3 (8, ByteArray.empty, 0, [])]
    | false =>
      refine ⟨_, _, _, _, _, _, _, _, rfl, h.goto (c := cn) hsn1, by omega, Nat.zero_le _, fun a1 ts kk h1 h2 h3 => ?_⟩
      obtain ⟨f1, f2, f3⟩ := fin a1 ts kk h1 h2 h3
      simp only [F25_L0, f1, cond_true, cond_false, idx_some h1, Option.bind_some, hA, hB]
      simp only [cond_true, cond_false, Option.bind_some, e2, e3, idx_some g2, idx_some gs, idx_some gz, cv, Int.toNat_natCast, f2, f3 (0, ByteArray.empty, 0, [])]
  · -- sync
    obtain ⟨cn, hcn, rfl⟩ := hc (by decide)
    obtain ⟨z, hz, gz⟩ := h.atok cn hcn
    obtain ⟨j, hj, g1, g2⟩ := h.sv z hz
    have e1 : ((4 : Int) == 1) = false := rfl
    have e2 : ((4 : Int) == 2) = false := rfl
    have e3 : ((4 : Int) == 3) = false := rfl
    have e4 : ((4 : Int) == 4) = true := rfl
    have gs : rseen[cn]? = some rseen[cn] := List.getElem?_eq_getElem (by omega)
    generalize rseen[cn] = v at gs
    have is : idx (tl6 seen6) (cn : Int) = some v := by rw [h.seen]; exact idx_some gs
    have ia : idx (tl6 at6) (cn : Int) = some (z : Int) := by rw [h.att]; exact idx_some gz
    obtain ⟨a1, a2⟩ := apply_val (ord := ord) (srv := srv) (s := z) (j := j) (many := ord.length) (by omega) h.ok (Nat.le_refl _) hj g1
    have gset : idx (rapp.set z (ord.length : Int)) (z : Int) = some (ord.length : Int) := idx_some (List.getElem?_set_self (by rw [h.rlen]; exact hz))
    simp only [e1, e2, e3, cond_false, Option.bind_some, is, ia, a1, as6_val hcn]
    refine ⟨_, _, _, _, _, _, _, _, rfl, (h.brought hz (m := ord.length) (Nat.le_refl _)).saw cn (ord.length : Int), by omega, Nat.zero_le _, fun a1 ts kk h1 h2 h3 => ?_⟩
    obtain ⟨f1, f2, f3⟩ := fin a1 ts kk h1 h2 h3
    simp only [F25_L0, f1, cond_true, cond_false, idx_some h1, Option.bind_some, hA, hB]
    simp only [cond_true, cond_false, Option.bind_some, e2, e3, e4, idx_some g2, idx_some gs, idx_some gz, gset, Int.toNat_natCast, f2, f3 (0, ByteArray.empty, 0, [])]
end Go.Proofs.YtadfgohglcglcaaDoor

namespace Go.Proofs.YtadfgohglcglcaaDoor
open Go Go.Bk
set_option linter.unusedVariables false
set_option linter.unusedSimpArgs false
theorem f18_self (l : List Int) (hl : l.length ≤ 1000) : F18 l l = some true := by
  have hw : whileM (F18_L0 l l) 0 = some (.brk ()) := by
    refine while_upto (fun (k : Nat) => (k : Int)) l.length (fun k hk => ?_) ?_ (fun s h => by cases h)
    · have hd : decide ((k : Int) < (l.length : Int)) = true := by simpa using hk
      have e : (l[k] != l[k]) = false := by simp
      simp only [F18_L0, hd, cond_true, idx_some (List.getElem?_eq_getElem hk), Option.bind_some, e, cond_false, w64_succ hk (show l.length ≤ 9223372036854775807 by omega)]
    · have hd : decide ((l.length : Int) < (l.length : Int)) = false := by simp
      simp only [F18_L0, hd, cond_false]
  unfold F18
  rw [show ((l.length : Int) != (l.length : Int)) = false by simp, cond_false, hw]
  rfl
theorem keeps {n : Nat} (a1 : List Sp) (hl : a1.length ≤ 60) (hx : ∀ x ∈ a1, okD x.2.2.2) : ∀ (m k : Nat) (ts : List Tl) (srv : List Sv) (ord : List Dd) (at6 seen6 : T6 Int) (ratt rapp rseen : List Int), k + m = a1.length → ts.length = k → ord.length ≤ k → (∀ t ∈ ts, t.2.2.2.length ≤ 12) → KR n srv ord at6 seen6 ratt rapp rseen →
    ∃ (ts' : List Tl) (srv' : List Sv) (ord' : List Dd) (at' seen' : T6 Int) (ratt' rapp' rseen' : List Int), whileM (F10_L1 a1) (ts, ord, srv, at6, seen6, (k : Int)) = some (.brk (ts', ord', srv', at', seen')) ∧ whileM (F25_L0 (n : Int) a1) (ord, ts, ratt, rapp, rseen, (k : Int)) = some (.brk (ts', ratt', rapp', rseen')) ∧
      KR n srv' ord' at' seen' ratt' rapp' rseen' ∧ ts'.length = a1.length ∧ ∀ t ∈ ts', t.2.2.2.length ≤ 12
  | 0, k, ts, srv, ord, at6, seen6, ratt, rapp, rseen, hk, ht, ho, hb, hR => by
    have hd : decide ((k : Int) < (a1.length : Int)) = false := by rw [decide_eq_false_iff_not]; omega
    refine ⟨ts, srv, ord, at6, seen6, ratt, rapp, rseen, whileM_brk ?_, whileM_brk ?_, hR, by omega, hb⟩
    · simp only [F10_L1, hd, cond_false]
    · simp only [F25_L0, hd, cond_false]
  | m + 1, k, ts, srv, ord, at6, seen6, ratt, rapp, rseen, hk, ht, ho, hb, hR => by
    have hlt : k < a1.length := by omega
    have hd : decide ((k : Int) < (a1.length : Int)) = true := by simpa using hlt
    have hg := List.getElem?_eq_getElem hlt
    obtain ⟨T, srv', ord', at', seen', ratt', rapp', rseen', s1, s2, s3, s4, s5⟩ := keep_step hR (by omega) a1[k] (hx _ (List.getElem_mem hlt))
    have s1' : F27 (srv, ord, at6, seen6) (a1[k].1, a1[k].2.1, a1[k].2.2.1, (a1[k].2.2.2.1, a1[k].2.2.2.2.1, a1[k].2.2.2.2.2.1, a1[k].2.2.2.2.2.2)) = some (T, (srv', ord', at', seen')) := s1
    have ha' : appl 56 ts [(T.1, T.2.1, T.2.2.1, T.2.2.2)] = some (ts ++ [T]) := app56 ts T (by omega)
    have hw := w64_succ hlt (show a1.length ≤ 9223372036854775807 by omega)
    obtain ⟨ts'', srv'', ord'', at'', seen'', ratt'', rapp'', rseen'', r1, r2, r3, r4, r5⟩ := keeps a1 hl hx m (k + 1) (ts ++ [T]) srv' ord' at' seen' ratt' rapp' rseen' (by omega) (by simp [ht]) (by omega) (fun x q => by
      rcases List.mem_append.1 q with q | q
      · exact hb x q
      · rw [List.mem_singleton] at q; rw [q]; exact s4) s2
    refine ⟨ts'', srv'', ord'', at'', seen'', ratt'', rapp'', rseen'', ?_, ?_, r3, r4, r5⟩
    · rw [whileM_nxt ?_, r1]
      simp only [F10_L1, hd, cond_true, idx_some hg, Option.bind_some, s1', ha', hw]
    · rw [whileM_nxt (s5 a1 ts k hg hl ht), r2]
theorem app16s (l : List Sv) (z : Sv) (h : l.length ≤ 1000) : appl 16 l [z] = some (l ++ [z]) := by
  unfold appl; rw [if_pos]; simp; omega
theorem f10_l0 (n : Nat) (hn : n ≤ 6) : whileM (F10_L0 (n : Int)) ([], 0) = some (.brk (List.replicate n ((M0, 0) : Sv))) := by
  have hst : ((fun (k : Nat) => (List.replicate k ((M0, 0) : Sv), (k : Int))) 0) = ([], 0) := rfl
  rw [← hst]
  refine while_upto (fun (k : Nat) => (List.replicate k ((M0, 0) : Sv), (k : Int))) n (fun k hk => ?_) ?_ (fun s h => by cases h)
  · have hd : decide ((k : Int) < (n : Int)) = true := by rw [decide_eq_true_eq]; omega
    have h26 : F26 = some M0 := rfl
    simp only [F10_L0, hd, cond_true, h26, Option.bind_some, app16s (List.replicate k ((M0, 0) : Sv)) (M0, 0) (by simp; omega), w64_succ hk (show n ≤ 9223372036854775807 by omega)]
    rw [← List.replicate_succ']
  · have hd : decide ((n : Int) < (n : Int)) = false := by simp
    simp only [F10_L0, hd, cond_false]
theorem f10_l2 (srv : List Sv) (hl : srv.length ≤ 6) : whileM (F10_L2 srv) ([], 0) = some (.brk (srv.map (·.2))) := by
  have hst : ((fun (k : Nat) => ((srv.take k).map (·.2), (k : Int))) 0) = (([] : List Int), 0) := rfl
  rw [← hst]
  refine while_upto (fun (k : Nat) => ((srv.take k).map (·.2), (k : Int))) srv.length (fun k hk => ?_) ?_ (fun s h => by cases h)
  · have hd : decide ((k : Int) < (srv.length : Int)) = true := by rw [decide_eq_true_eq]; omega
    have hg := List.getElem?_eq_getElem hk
    have ht : srv.take (k + 1) = srv.take k ++ [srv[k]] := by rw [List.take_add_one, hg]; rfl
    have ha : appl 8 ((srv.take k).map (·.2)) [srv[k].2] = some ((srv.take k).map (·.2) ++ [srv[k].2]) := by unfold appl; rw [if_pos]; simp; omega
    simp only [F10_L2, hd, cond_true, idx_some hg, Option.bind_some, ha, w64_succ hk (show srv.length ≤ 9223372036854775807 by omega), ht, List.map_append, List.map_cons, List.map_nil]
  · have hd : decide ((srv.length : Int) < (srv.length : Int)) = false := by simp
    simp only [F10_L2, hd, cond_false, List.take_length]
theorem KR.start (n : Nat) (hn : 0 < n) : KR n (List.replicate n ((M0, 0) : Sv)) [] (0, 0, 0, 0, 0, 0) (0, 0, 0, 0, 0, 0) (List.replicate 6 0) (List.replicate n 0) (List.replicate 6 0) :=
  ⟨fun d hd => (by cases hd), by simp, by simp, fun s hs => ⟨0, by simp, by rw [List.getElem?_replicate, if_pos hs]; rfl, by rw [List.getElem?_replicate, if_pos hs]; rfl⟩, rfl, fun c hc => ⟨0, hn, by rw [List.getElem?_replicate, if_pos hc]; rfl⟩, rfl⟩
theorem KR.apps {n : Nat} {srv : List Sv} {ord : List Dd} {at6 seen6 : T6 Int} {ratt rapp rseen : List Int} (h : KR n srv ord at6 seen6 ratt rapp rseen) : srv.map (·.2) = rapp := by
  apply List.ext_getElem?
  intro i
  rw [List.getElem?_map]
  by_cases c : i < n
  · obtain ⟨j, _, h2, h3⟩ := h.sv i c
    rw [h2, h3]; rfl
  · rw [List.getElem?_eq_none (by rw [h.len]; omega), List.getElem?_eq_none (by rw [h.rlen]; omega)]; rfl
theorem law_KeepPlays (a0 : Int) (_ : i64 a0) (a1 : List Sp) (h : a1.length ≤ 140737488351232) (wf : ∀ x ∈ a1, (i64 x.1) ∧ (i64 x.2.1) ∧ (i64 x.2.2.1) ∧ ((i64 x.2.2.2.1) ∧ (x.2.2.2.2.1.size ≤ maxLen) ∧ (x.2.2.2.2.2.1.size ≤ maxLen) ∧ (i64 x.2.2.2.2.2.2))) : F9 a0 a1 = some true := by
  unfold F9 F10 F11
  cases c : (((decide (a0 < 1)) || (decide (a0 > 6))) || (decide ((a1.length : Int) > 60))) with
  | true =>
    have h1 := f13_self [] (by simp) (fun t ht => by cases ht)
    have h2 := f18_self [] (by simp)
    have e : ((1 : Int) == 0) = false := rfl
    have e2 : ((1 : Int) == 1) = true := rfl
    simp only [cond_true, Option.bind_some, e, e2, cond_false, h1, h2]
  | false =>
    simp only [Bool.or_eq_false_iff, decide_eq_false_iff_not] at c
    obtain ⟨n, rfl⟩ := Int.eq_ofNat_of_zero_le (show 0 ≤ a0 by omega)
    have hn : 1 ≤ n ∧ n ≤ 6 := by omega
    obtain ⟨ts, srv, ord, at6, seen6, ratt, rapp, rseen, r1, r2, r3, r4, r5⟩ := keeps (n := n) a1 (by omega) (fun x q => (wf x q).2.2.2.2.1) a1.length 0 [] _ [] _ _ _ _ _ (by omega) rfl (Nat.le_refl _) (fun t ht => by cases ht) (KR.start n (by omega))
    have r1' : whileM (F10_L1 a1) ([], [], List.replicate n ((M0, 0) : Sv), (0, 0, 0, 0, 0, 0), (0, 0, 0, 0, 0, 0), 0) = some (.brk (ts, ord, srv, at6, seen6)) := r1
    have r2' : whileM (F25_L0 (n : Int) a1) ([], [], List.replicate 6 0, List.replicate n 0, List.replicate 6 0, 0) = some (.brk (ts, ratt, rapp, rseen)) := r2
    have hL0 := f10_l0 n hn.2
    have hL2 := f10_l2 srv (by rw [r3.len]; exact hn.2)
    rw [r3.apps] at hL2
    have ha : appl 8 ([] : List Int) (tl6 seen6) = some rseen := by rw [r3.seen]; unfold appl; rw [if_pos]; · rfl
                                                                    · rw [← r3.seen]; exact ⟨by rw [tl6_len]; decide, by rw [tl6_len]; decide⟩
    have m1 : mkl (n : Int) 8 (0 : Int) = some (List.replicate n 0) := by unfold mkl; rw [if_pos ⟨by omega, by omega, by omega⟩]; simp
    have m2 : mkl 6 8 (0 : Int) = some (List.replicate 6 0) := rfl
    have h13 := f13_self ts (by omega) r5
    have h18a := f18_self rapp (by rw [r3.rlen]; omega)
    have h18b := f18_self rseen (by rw [← r3.seen, tl6_len]; decide)
    have e : ((0 : Int) == 0) = true := rfl
    unfold F25
    simp only [cond_false, cond_true, Option.bind_some, hL0, Ctl.on, r1', hL2, ha, e, m1, m2, r2', h13, h18a, h18b]
end Go.Proofs.YtadfgohglcglcaaDoor
