/-
  Names: the program's look at a name and the reference's are one.
-/
import Derived.Test.YtadfgohglcglcaaDoorKM
import Derived.Test.YtadfgohglcglcaaDoorPl
import Derived.Test.YtadfgohglcglcaaDoorPw
import Derived.Laws.RangeAny
import Derived.Laws.RangeString
import Derived.Lib.IndexLaws
namespace Go.Proofs.YtadfgohglcglcaaDoor
open Go Go.Bk
set_option linter.unusedVariables false
set_option linter.unusedSimpArgs false
theorem sEq_iff (x y : ByteArray) : sEq x y = decide (x = y) := by
  unfold sEq
  rw [ByteArray.toList_eq, ByteArray.toList_eq]
  by_cases h : x = y
  · subst h; simp
  · rw [decide_eq_false h, beq_eq_false_iff_ne]
    intro e
    apply h
    rw [← lb_bl x, ← lb_bl y]
    exact congrArg lb e
theorem bget (s : ByteArray) (i : Nat) : s[i]? = (bl s)[i]? := by
  unfold bl
  by_cases h : i < s.size
  · rw [getElem?_pos s i h, Array.getElem?_toList, Array.getElem?_eq_getElem h]; rfl
  · rw [getElem?_neg s i h, Array.getElem?_toList, Array.getElem?_eq_none (by simpa using h)]
theorem bl_len (s : ByteArray) : (bl s).length = s.size := by unfold bl; simp
theorem bl_extract (s : ByteArray) (a b : Nat) : bl (s.extract a b) = ((bl s).take b).drop a := by
  unfold bl
  rw [ByteArray.data_extract, Array.toList_extract, List.drop_take]
theorem bl_inj {x y : ByteArray} (h : bl x = bl y) : x = y := by rw [← lb_bl x, ← lb_bl y, h]
def inr (c : UInt8) : Bool := decide (97 ≤ c.toNat) && decide (c.toNat ≤ 122)
def fR (x : Nat) : Bool := decide ((x : Int) < 97) || decide ((x : Int) > 122)
theorem fR_lo (c : UInt8) : fR c.toNat = !inr c := by
  unfold fR inr
  by_cases a : 97 ≤ c.toNat <;> by_cases b : c.toNat ≤ 122 <;> simp [a, b] <;> omega
theorem idxF (s : ByteArray) : ∀ fuel pos, s.size ≤ pos + fuel → decide (0 ≤ Lib.idxFuncFrom fR true s fuel pos) = ((bl s).drop pos).any (fun c => !inr c)
  | 0, pos, h => by
    rw [List.drop_eq_nil_of_le (by rw [bl_len]; omega)]
    rfl
  | fuel + 1, pos, h => by
    unfold Lib.idxFuncFrom
    by_cases hp : pos < s.size
    · rw [if_pos hp]
      have hg : (bl s)[pos]? = some (s[pos]'hp) := by rw [← bget, getElem?_pos s pos hp]
      have hd : (bl s).drop pos = s[pos]'hp :: (bl s).drop (pos + 1) := by
        rw [← List.getElem_cons_drop (by rw [bl_len]; exact hp)]
        congr 1
      rw [hd, List.any_cons]
      by_cases ha : (s[pos]'hp).toNat < 128
      · rw [decode_ascii s pos hp ha]
        simp only [fR_lo]
        cases inr (s[pos]'hp) with
        | true =>
          simp only [Bool.not_true, Bool.false_or, Bool.false_eq_true, if_false]
          exact idxF s fuel (pos + 1) (by omega)
        | false => simp
      · obtain ⟨h1, _⟩ := decode_high s pos hp (by omega)
        have h2 : fR (Utf8.decode s pos).1 = true := by unfold fR; simp; omega
        have h3 : inr (s[pos]'hp) = false := by unfold inr; simp; omega
        rw [if_pos h2, h3]
        simp
    · rw [if_neg hp, List.drop_eq_nil_of_le (by rw [bl_len]; omega)]
      rfl
theorem goodP_val (s : ByteArray) : goodP s = (!(bl s).isEmpty && (bl s).all inr) := by
  unfold goodP Lib.idxFunc
  have h := idxF s s.size 0 (by omega)
  unfold fR at h
  rw [h, List.drop_zero, sEq_iff, Bool.not_or]
  congr 1
  · have : (s = ByteArray.mk #[]) ↔ bl s = [] := ⟨fun e => by rw [e]; rfl, fun e => bl_inj (by rw [e]; rfl)⟩
    rw [decide_eq_decide.2 this]
    by_cases e : bl s = []
    · have : (bl s).isEmpty = true := by simpa using e
      rw [this, decide_eq_true e]
    · have : (bl s).isEmpty = false := by simpa using e
      rw [this, decide_eq_false e]
  · rw [List.all_eq_not_any_not]
/-- All parts are there and good. -/
def okL : Bool → List UInt8 → Bool
  | st, [] => !st
  | st, c :: cs => if c = 47 then !st && okL true cs else inr c && okL false cs
theorem okL_nil (st : Bool) : okL st [] = !st := rfl
theorem okL_cons (st : Bool) (c : UInt8) (cs : List UInt8) : okL st (c :: cs) = if c = 47 then !st && okL true cs else inr c && okL false cs := rfl
theorem inr47 : inr 47 = false := by decide
theorem okL_end {bs : List UInt8} (h : Lib.indexByte bs 47 < 0) : ∀ st, okL st bs = (bs.all inr && (!st || !bs.isEmpty)) := by
  induction bs with
  | nil => intro st; simp [okL]
  | cons b bs ih =>
    intro st
    unfold Lib.indexByte at h
    by_cases c : b = 47
    · subst c; simp at h
    · have hc : (b == 47) = false := by simpa using c
      rw [hc] at h
      have h2 : Lib.indexByte bs 47 < 0 := by
        have := Lib.indexByte_ge bs 47
        by_cases q : Lib.indexByte bs 47 = -1
        · omega
        · have q2 : (Lib.indexByte bs 47 == -1) = false := by simpa using q
          simp [q2] at h
          omega
      rw [okL_cons, if_neg c, ih h2 false]
      cases st <;> simp
theorem okL_more {bs : List UInt8} {i : Nat} (h : Lib.indexByte bs 47 = (i : Int)) : ∀ st, okL st bs = (((bs.take i).all inr && (!st || !(bs.take i).isEmpty)) && okL true (bs.drop (i + 1))) := by
  induction bs generalizing i with
  | nil => unfold Lib.indexByte at h; omega
  | cons b bs ih =>
    intro st
    unfold Lib.indexByte at h
    by_cases c : b = 47
    · subst c
      have : i = 0 := by simp at h; omega
      subst this
      rw [okL_cons, if_pos rfl]
      simp
    · have hc : (b == 47) = false := by simpa using c
      rw [hc] at h
      by_cases q : Lib.indexByte bs 47 = -1
      · simp [q] at h
      · have q2 : (Lib.indexByte bs 47 == -1) = false := by simpa using q
        simp only [q2, Bool.false_eq_true, if_false] at h
        have := Lib.indexByte_ge bs 47
        obtain ⟨j, hj⟩ := Int.eq_ofNat_of_zero_le (show 0 ≤ Lib.indexByte bs 47 by omega)
        have : i = j + 1 := by omega
        subst this
        rw [okL_cons, if_neg c, ih hj false, List.drop_succ_cons, List.take_succ_cons]
        cases st <;> simp [Bool.and_assoc]
theorem allG_val : ∀ (n : Nat) (s : ByteArray), s.size ≤ n → allG n s = okL true (bl s)
  | 0, s, h => by
    have : bl s = [] := List.eq_nil_of_length_eq_zero (by rw [bl_len]; omega)
    show goodP s = _
    rw [goodP_val, this]; rfl
  | n + 1, s, h => by
    unfold allG
    by_cases c : cutAt s < 0
    · rw [decide_eq_true c, cond_true, goodP_val, okL_end (bs := bl s) c true]
      simp [Bool.and_comm]
    · obtain ⟨i, hi⟩ := Int.eq_ofNat_of_zero_le (show 0 ≤ cutAt s by omega)
      have hi' : Lib.indexByte (bl s) 47 = (i : Int) := hi
      rw [decide_eq_false c, cond_false, hi, okL_more hi' true, goodP_val, bl_extract]
      have hlt : i < s.size := by
        have h1 := (Lib.indexByte_some hi').1
        have h2 := (List.getElem?_eq_some_iff.1 h1).1
        rw [bl_len] at h2; exact h2
      rw [Int.toNat_natCast, allG_val n (s.extract (i + 1) s.size) (by rw [ByteArray.size_extract]; omega), bl_extract, List.drop_zero]
      have : (bl s).take s.size = bl s := List.take_of_length_le (by rw [bl_len]; exact Nat.le_refl _)
      rw [this]
      simp [Bool.and_comm]
/-- What a name is. -/
def nameB (p : ByteArray) : Bool := match bl p with
  | [] => false
  | c :: cs => if c = 47 then cs.isEmpty || okL true cs else false

theorem sidx_at {p : ByteArray} {j : Nat} {c : UInt8} (h : (bl p)[j]? = some c) : sidx p (j : Int) = some (c.toNat : Int) := by
  unfold sidx
  rw [if_pos (by omega), Int.toNat_natCast, bget, h]; rfl
theorem u47 (c : UInt8) : ((c.toNat : Int) == 47) = decide (c = 47) := by
  by_cases h : c = 47
  · subst h; rfl
  · rw [decide_eq_false h, beq_eq_false_iff_ne]
    intro e
    apply h
    have : c.toNat = (47 : UInt8).toNat := by
      have h2 : (47 : UInt8).toNat = 47 := rfl
      omega
    exact UInt8.toNat_inj.1 this
theorem uinr (c : UInt8) : (decide ((c.toNat : Int) < 97) || decide ((c.toNat : Int) > 122)) = !inr c := by
  have := fR_lo c
  unfold fR at this
  exact this
theorem sslc_at {s : ByteArray} {a b : Nat} (h1 : a ≤ b) (h2 : b ≤ s.size) : sslc s (a : Int) (b : Int) = some (s.extract a b) := by
  unfold sslc
  rw [if_pos ⟨by omega, by omega, by omega⟩]
  simp
/-- The program's look. -/
theorem f44_val (p : ByteArray) : F44 p (ByteArray.mk #[47]) = some (match bl p with
    | c :: _ => if c = 47 then (p.extract 1 p.size, true) else (p, false)
    | [] => (p, false)) := by
  have hs : (((ByteArray.mk #[47]).size : Nat) : Int) = ((1 : Nat) : Int) := rfl
  unfold F44 F50 F56
  rw [hs]
  cases hp : bl p with
  | nil =>
    have : p.size = 0 := by rw [← bl_len, hp]; rfl
    have hd : decide ((p.size : Int) ≥ ((1 : Nat) : Int)) = false := by rw [decide_eq_false_iff_not]; omega
    rw [hd]
    rfl
  | cons c cs =>
    have hl : p.size = cs.length + 1 := by rw [← bl_len, hp]; rfl
    have hd : decide ((p.size : Int) ≥ ((1 : Nat) : Int)) = true := by rw [decide_eq_true_eq]; omega
    have h1 : sslc p 0 ((1 : Nat) : Int) = some (p.extract 0 1) := sslc_at (a := 0) (by omega) (by omega)
    have h2 : sslc p ((1 : Nat) : Int) (p.size : Int) = some (p.extract 1 p.size) := sslc_at (by omega) (by omega)
    have he : sEq (p.extract 0 1) (ByteArray.mk #[47]) = decide (c = 47) := by
      rw [sEq_iff]
      apply decide_eq_decide.2
      constructor
      · intro h
        have := congrArg bl h
        rw [bl_extract, hp] at this
        simpa [bl] using this
      · intro h
        subst h
        apply bl_inj
        rw [bl_extract, hp]
        rfl
    rw [hd, h1, h2]
    simp only [cond_true, Option.bind_some, he]
    by_cases hc : c = 47 <;> simp [hc]
theorem f35_val {p : ByteArray} (hs : p.size ≤ 9223372036854775807) : F35 p = some (nameB p) := by
  unfold F35 nameB
  rw [f44_val, sEq_iff]
  cases hp : bl p with
  | nil =>
    have : p ≠ ByteArray.mk #[47] := fun e => by rw [e] at hp; cases hp
    simp [this]
  | cons c cs =>
    have hl : p.size = cs.length + 1 := by rw [← bl_len, hp]; rfl
    by_cases hc : c = 47
    · subst hc
      by_cases he : cs = []
      · subst he
        have : p = ByteArray.mk #[47] := bl_inj (by rw [hp]; rfl)
        simp [this]
      · have : p ≠ ByteArray.mk #[47] := fun e => by
          rw [e] at hp
          have h2 : bl (ByteArray.mk #[47]) = [47] := rfl
          rw [h2] at hp
          exact he (List.cons.inj hp).2.symm
        have h3 : cs.isEmpty = false := by simpa using he
        have h4 : (p.extract 1 p.size).size ≤ 9223372036854775807 := by rw [ByteArray.size_extract]; omega
        have h5 : bl (p.extract 1 p.size) = cs := by
          rw [bl_extract, hp, List.take_of_length_le (by simp; omega)]; rfl
        simp only [this, decide_false, cond_false, if_true, Option.bind_some, Bool.not_true, if_pos h4, h3, Bool.false_or]
        rw [allG_val _ _ (Nat.le_refl _), h5]
    · have : p ≠ ByteArray.mk #[47] := fun e => by
        rw [e] at hp
        have h2 : bl (ByteArray.mk #[47]) = [47] := rfl
        rw [h2] at hp
        exact hc (List.cons.inj hp).1.symm
      simp [this, hc]
/-! The reference's look. -/
/-- No fault behind a letter. -/
def nb : UInt8 → List UInt8 → Bool
  | _, [] => true
  | pv, c :: cs => (if c = 47 then !decide (pv = 47) else inr c) && nb c cs
theorem okL_nb : ∀ (cs : List UInt8) (pv : UInt8), okL (decide (pv = 47)) cs = (!decide ((pv :: cs).getLast (by simp) = 47) && nb pv cs)
  | [], pv => by
    rw [okL_nil]
    by_cases h : pv = 47 <;> simp [nb, h]
  | c :: cs, pv => by
    have ih := okL_nb cs c
    rw [okL_cons, List.getLast_cons (by simp)]
    unfold nb
    by_cases h : c = 47
    · rw [if_pos h, if_pos h]
      rw [decide_eq_true h] at ih
      rw [ih]
      cases decide (pv = 47) <;> simp
    · rw [if_neg h, if_neg h]
      rw [decide_eq_false h] at ih
      rw [ih]
      cases inr c <;> simp
theorem f39_loop {p : ByteArray} (hsz : p.size ≤ 9223372036854775807) : ∀ (cs : List UInt8) (j : Nat) (pv : UInt8), (bl p).drop j = cs → 0 < j → j ≤ p.size → (bl p)[j - 1]? = some pv → whileM (F39_L0 p) (j : Int) = some (if nb pv cs = true then .brk () else .ret false)
  | [], j, pv, hd, h0, hj, hp => by
    have hl : p.size ≤ j := by
      have := List.drop_eq_nil_iff.1 hd
      rwa [bl_len] at this
    have e : decide ((j : Int) < (p.size : Int)) = false := by rw [decide_eq_false_iff_not]; omega
    have hb : F39_L0 p (j : Int) = some (.brk ()) := by simp only [F39_L0, e, cond_false]
    rw [whileM_brk hb]
    rfl
  | c :: cs, j, pv, hd, h0, hj, hp => by
    have hg : (bl p)[j]? = some c := by
      have := congrArg (fun l => l[0]?) hd
      simpa [List.getElem?_drop] using this
    have hlt : j < p.size := by have := (List.getElem?_eq_some_iff.1 hg).1; rwa [bl_len] at this
    have hd2 : (bl p).drop (j + 1) = cs := by
      rw [← List.drop_drop, hd]; rfl
    have e : decide ((j : Int) < (p.size : Int)) = true := by rw [decide_eq_true_eq]; omega
    have e0 : decide ((j : Int) > 0) = true := by rw [decide_eq_true_eq]; omega
    have hj1 : w64 ((j : Int) - 1) = ((j - 1 : Nat) : Int) := by rw [w64_of (by omega) (by omega)]; omega
    have hj2 : w64 ((j : Int) + 1) = ((j + 1 : Nat) : Int) := w64_succ hlt hsz
    have ih := f39_loop hsz cs (j + 1) c hd2 (by omega) (by omega) (by simpa using hg)
    have hbody : F39_L0 p (j : Int) = (if (if c = 47 then !decide (pv = 47) else inr c) = true then some (.nxt ((j + 1 : Nat) : Int)) else some (.ret false)) := by
      have hu := uinr c
      simp only [F39_L0, e, e0, cond_true, sidx_at hg, sidx_at hp, hj1, hj2, Option.bind_some, u47]
      by_cases h : c = 47
      · rw [decide_eq_true h, if_pos h]
        by_cases q : pv = 47 <;> simp [q]
      · rw [decide_eq_false h, if_neg h, cond_false]
        cases hx : decide ((c.toNat : Int) < 97) <;> cases hy : decide ((c.toNat : Int) > 122) <;> rw [hx, hy] at hu <;> simp at hu <;> simp [hu]
    unfold nb
    by_cases h : (if c = 47 then !decide (pv = 47) else inr c) = true
    · rw [if_pos h] at hbody
      rw [whileM_nxt hbody, ih, h, Bool.true_and]
    · rw [if_neg h] at hbody
      rw [whileM_ret hbody]
      have : (if c = 47 then !decide (pv = 47) else inr c) = false := eq_false_of_ne_true h
      rw [this]; rfl
theorem f39_val {p : ByteArray} (hs : p.size ≤ 9223372036854775807) : F39 p = some (nameB p) := by
  unfold F39 nameB
  rw [sEq_iff, sEq_iff]
  cases hp : bl p with
  | nil =>
    have h1 : p ≠ ByteArray.mk #[47] := fun e => by rw [e] at hp; cases hp
    have h2 : p = ByteArray.mk #[] := bl_inj (by rw [hp]; rfl)
    rw [decide_eq_false h1, decide_eq_true h2]
    rfl
  | cons c cs =>
    have hl : p.size = cs.length + 1 := by rw [← bl_len, hp]; rfl
    have h2 : p ≠ ByteArray.mk #[] := fun e => by rw [e] at hp; cases hp
    have h0 : (bl p)[0]? = some c := by rw [hp]; rfl
    have hs0 : sidx p 0 = some (c.toNat : Int) := sidx_at h0
    have hlast : (bl p)[cs.length]? = some ((c :: cs).getLast (by simp)) := by
      rw [hp, List.getLast_eq_getElem]
      simp
    have hs1 : sidx p (w64 ((p.size : Int) - 1)) = some (((c :: cs).getLast (by simp)).toNat : Int) := by
      rw [show w64 ((p.size : Int) - 1) = ((cs.length : Nat) : Int) by rw [w64_of (by omega) (by omega)]; omega]
      exact sidx_at hlast
    show _ = some (if c = 47 then cs.isEmpty || okL true cs else false)
    by_cases hc : c = 47
    · subst hc
      by_cases he : cs = []
      · subst he
        have : p = ByteArray.mk #[47] := bl_inj (by rw [hp]; rfl)
        rw [decide_eq_true this]
        rfl
      · have h1 : p ≠ ByteArray.mk #[47] := fun e => by
          rw [e] at hp
          have h2 : bl (ByteArray.mk #[47]) = [47] := rfl
          rw [h2] at hp
          exact he (List.cons.inj hp).2.symm
        have h3 : cs.isEmpty = false := by simpa using he
        have hst : F39_L0 p 0 = some (.nxt 1) := by
          have e : decide ((0 : Int) < (p.size : Int)) = true := by rw [decide_eq_true_eq]; omega
          simp only [F39_L0, e, cond_true, hs0, Option.bind_some, u47]
          rfl
        have hlp := f39_loop (p := p) (by omega) cs 1 47 (by rw [hp]; rfl) (by omega) (by omega) (by rw [hp]; rfl)
        have hok := okL_nb cs 47
        rw [show decide ((47 : UInt8) = 47) = true from rfl] at hok
        rw [decide_eq_false h1, decide_eq_false h2, cond_false, cond_false, hs0, Option.bind_some, if_pos rfl, h3, Bool.false_or, hok]
        have e5 : (((47 : UInt8).toNat : Int) != 47) = false := rfl
        rw [e5, Option.bind_some, cond_false, hs1, Option.bind_some, u47, Option.bind_some]
        cases decide ((47 :: cs).getLast (by simp) = 47) with
        | true => rfl
        | false =>
          rw [cond_false, whileM_nxt hst]
          have hlp' : whileM (F39_L0 p) 1 = _ := hlp
          rw [hlp']
          cases nb 47 cs <;> rfl
    · have h1 : p ≠ ByteArray.mk #[47] := fun e => by
        rw [e] at hp
        have h2 : bl (ByteArray.mk #[47]) = [47] := rfl
        rw [h2] at hp
        exact hc (List.cons.inj hp).1.symm
      have e5 : ((c.toNat : Int) != 47) = true := by rw [bne, u47, decide_eq_false hc]; rfl
      rw [decide_eq_false h1, decide_eq_false h2, cond_false, cond_false, hs0, Option.bind_some, e5, Option.bind_some, cond_true, if_neg hc]
      rfl
end Go.Proofs.YtadfgohglcglcaaDoor
