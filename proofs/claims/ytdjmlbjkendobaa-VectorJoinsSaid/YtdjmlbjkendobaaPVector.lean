/-
  The plain laws of VectorLess and VectorJoins.
-/
import Derived.Test.YtdjmlbjkendobaaVM
import Derived.Test.YtdjmlbjkendobaaPw
import Derived.Test.YtdjmlbjkendobaaBk6
namespace Go.Proofs.Ytdjmlbjkendobaa
open Go Go.Bk
set_option linter.unusedVariables false
set_option linter.unusedSimpArgs false

def el (l : List Int) (k : Nat) : Int := l.getD k 0
theorem get_el {l : List Int} {k : Nat} (h : k < l.length) : l[k]? = some (el l k) := by simp [el, List.getD_eq_getElem?_getD, h]
def neg (x : Int) : Bool := decide (x < 0)
theorem mn_neg (t x : Int) : decide (mn t x < 0) = (decide (t < 0) || neg x) := by
  unfold mn neg
  rw [Bool.eq_iff_iff]
  simp only [Bool.or_eq_true, decide_eq_true_eq]
  split <;> omega
theorem f75_val (l : List Int) (h1 : 1 ≤ l.length) (hl : l.length ≤ 6) : ∃ r, F75 l = some r ∧ decide (r < 0) = l.any neg := by
  have hw := while_foldI (body := F75_L0 l) (fun k t => (t, ((k + 1 : Nat) : Int))) (l.length - 1) (fun k t => mn t (el l (k + 1))) id (fun k t => decide (t < 0) = (l.take (k + 1)).any neg) (el l 0)
    (by
      rw [List.take_add_one, get_el (show 0 < l.length by omega)]
      simp [neg])
    (fun k t hk hI => by
      have hg := get_el (show k + 1 < l.length by omega)
      refine ⟨?_, ?_⟩
      · have hd : decide (((k + 1 : Nat) : Int) < (l.length : Int)) = true := by simp; omega
        simp only [F75_L0, idx_some hg, hd, Option.bind_some, w64_succ (show k + 1 < l.length by omega) (by omega), cond_true]
      · rw [mn_neg, hI, List.take_add_one (i := k + 1), hg]
        simp)
    (fun t _ => by
      have : ((l.length - 1 + 1 : Nat) : Int) = (l.length : Int) := by omega
      simp only [F75_L0, this]; simp)
  have h0 : whileM (F75_L0 l) (el l 0, 1) = _ := hw.1
  have hd : decide ((l.length : Int) < 1) = false := by simp; omega
  have hi : idx l 0 = some (el l 0) := idx_some (k := 0) (get_el (by omega))
  refine ⟨(List.range (l.length - 1)).foldl (fun t k => mn t (el l (k + 1))) (el l 0), ?_, ?_⟩
  · unfold F75
    rw [hd, hi]
    simp only [cond_false, Option.bind_some, h0]
    rfl
  · have := hw.2
    rw [show l.length - 1 + 1 = l.length by omega, List.take_length] at this
    exact this
theorem f16_l1 (l : List Int) (hl : l.length ≤ 6) : whileM (F16_L1 l) 0 = some (found () (cond (l.any neg) (some 4) none)) := by
  rw [← scan_any (k := 0)]
  refine while_scan (by omega) _ (fun k e h => ?_) (by simp [F16_L1])
  have hk := lt_of_get h
  have en : decide (e < 0) = neg e := rfl
  cases c : neg e <;> simp only [F16_L1, idx_some h, en, c, going, Option.bind_some] <;> simp [hk]
theorem check_same (a b : List Int) : ∃ r, F46 a b = some r ∧ F16 a b = some r ∧ (r = 0 → 1 ≤ a.length ∧ a.length ≤ 6 ∧ b.length = a.length) := by
  unfold F46 F16
  cases c : ((decide ((a.length : Int) < 1)) || (decide ((a.length : Int) > 6))) with
  | true => exact ⟨1, rfl, rfl, by simp⟩
  | false =>
    simp only [Bool.or_eq_false_iff, decide_eq_false_iff_not] at c
    cases d : ((b.length : Int) != (a.length : Int)) with
    | true => exact ⟨3, rfl, rfl, by simp⟩
    | false =>
      have hlen : b.length = a.length := by simp at d; omega
      obtain ⟨r0, m0, n0⟩ := f75_val a (by omega) (by omega)
      obtain ⟨r1, m1, n1⟩ := f75_val b (by omega) (by omega)
      have l0 := f16_l1 a (by omega)
      have l1 := f16_l1 b (by omega)
      have i0 : idx ([a, b] : List (List Int)) 0 = some a := rfl
      have i1 : idx ([a, b] : List (List Int)) 1 = some b := rfl
      have w0 : w64 (0 + 1) = 1 := w64_of (by decide) (by decide)
      have w1 : w64 (1 + 1) = 2 := w64_of (by decide) (by decide)
      have d0 : decide ((0 : Int) < 2) = true := rfl
      have d1 : decide ((1 : Int) < 2) = true := rfl
      have hw : whileM (F16_L0 a b) 0 = some (found () (cond (a.any neg || b.any neg) (some 4) none)) := by
        cases ca : a.any neg with
        | true =>
          rw [ca] at l0
          rw [whileM_ret (r := 4) (by simp only [F16_L0, d0, i0, l0, Option.bind_some, cond_true, found, Ctl.on])]
          rfl
        | false =>
          rw [ca] at l0
          rw [whileM_nxt (s' := 1) (by simp only [F16_L0, d0, i0, l0, Option.bind_some, cond_true, cond_false, found, Ctl.on, w0])]
          cases cb : b.any neg with
          | true =>
            rw [cb] at l1
            rw [whileM_ret (r := 4) (by simp only [F16_L0, d1, i1, l1, Option.bind_some, cond_true, found, Ctl.on])]
            rfl
          | false =>
            rw [cb] at l1
            rw [whileM_nxt (s' := 2) (by simp only [F16_L0, d1, i1, l1, Option.bind_some, cond_true, cond_false, found, Ctl.on, w1])]
            rw [whileM_brk (s' := ()) (by simp [F16_L0])]
            rfl
      rw [hw, m0, m1]
      simp only [Option.bind_some, n0, n1, cond_false]
      cases a.any neg <;> cases b.any neg
      · exact ⟨0, rfl, rfl, fun _ => ⟨by omega, by omega, hlen⟩⟩
      all_goals exact ⟨4, rfl, rfl, by simp⟩

def gtr (a b : List Int) (k : Nat) : Bool := decide (el a k > el b k)
theorem under_val (a b : List Int) (hl : a.length ≤ 6) (hb : b.length = a.length) : F47 a b = some (!(List.range' 0 a.length).any (gtr a b)) := by
  have hw := while_scanN (body := F47_L0 a b) (fun k => (k : Int)) a.length (b := ()) (fun k => if gtr a b k = true then some false else none)
    (fun k hk => by
      have e : decide (el a k > el b k) = gtr a b k := rfl
      simp only [F47_L0, idx_some (get_el hk), idx_some (get_el (show k < b.length by omega)), Option.bind_some, e, w64_succ hk (by omega)]
      cases gtr a b k <;> simp [hk, going])
    (by simp [F47_L0])
  have hw' : whileM (F47_L0 a b) 0 = _ := hw
  unfold F47
  rw [hw']
  cases x : scan (fun k (_ : Unit) => if gtr a b k = true then some false else none) (List.replicate a.length ()) 0 with
  | none =>
    have : (List.range' 0 a.length).any (gtr a b) = false := by
      rw [List.any_eq_false]
      intro k hk
      have hk' : k < a.length := by simpa using hk
      have := scanN_none.1 x k hk'
      cases c : gtr a b k <;> simp_all
    rw [this]; rfl
  | some r =>
    obtain ⟨k, hk, he⟩ := scanN_val x
    have hc : gtr a b k = true := by cases c : gtr a b k <;> simp_all
    rw [hc] at he
    simp at he
    subst he
    have : (List.range' 0 a.length).any (gtr a b) = true := List.any_eq_true.2 ⟨k, by simpa using hk, hc⟩
    rw [this]; rfl
theorem less_val (a b : List Int) (hl : a.length ≤ 6) (hb : b.length = a.length) : F17 a b = some (!(List.range' 0 a.length).any (gtr a b) && (List.range' 0 a.length).any (gtr b a)) := by
  have key : ∀ m k t, k + m = a.length → whileM (F17_L0 a b) (t, (k : Int)) = some (cond ((List.range' k m).any (gtr a b)) (.ret false) (.brk (t || (List.range' k m).any (gtr b a)))) := by
    intro m
    induction m with
    | zero =>
      intro k t hk
      have : k = a.length := by omega
      subst this
      rw [whileM_brk (s' := t) (by simp [F17_L0])]
      simp
    | succ m ih =>
      intro k t hk
      have hlt : k < a.length := by omega
      have hd : decide ((k : Int) < (a.length : Int)) = true := by simp; omega
      have e : decide (el a k > el b k) = gtr a b k := rfl
      have e2 : decide (el a k < el b k) = gtr b a k := rfl
      rw [List.range'_succ, List.any_cons, List.any_cons]
      cases c : gtr a b k with
      | true =>
        rw [whileM_ret (r := false) (by simp only [F17_L0, hd, idx_some (get_el hlt), idx_some (get_el (show k < b.length by omega)), Option.bind_some, e, c, cond_true])]
        simp
      | false =>
        rw [whileM_nxt (s' := (t || gtr b a k, ((k + 1 : Nat) : Int))) (by
          simp only [F17_L0, hd, idx_some (get_el hlt), idx_some (get_el (show k < b.length by omega)), Option.bind_some, e, e2, c, cond_true, cond_false, w64_succ hlt (show a.length ≤ 9223372036854775807 by omega)]
          cases t <;> simp)]
        rw [ih (k + 1) _ (by omega), Bool.false_or, Bool.or_assoc]
  have h0 : whileM (F17_L0 a b) (false, 0) = _ := key a.length 0 false (by omega)
  unfold F17
  rw [h0]
  cases (List.range' 0 a.length).any (gtr a b) <;> simp
theorem law_VectorLess (a0 : List Int) (h0 : a0.length ≤ 9223372036854775807) (_ : ∀ x ∈ a0, i64 x) (a1 : List Int) (h1 : a1.length ≤ 9223372036854775807) (_ : ∀ x ∈ a1, i64 x) : F3 a0 a1 = some true := by
  obtain ⟨r, e1, e2, e3⟩ := check_same a0 a1
  unfold F3 F15
  rw [e1, e2]
  by_cases c : r = 0
  · subst c
    obtain ⟨q1, q2, q3⟩ := e3 rfl
    have u1 := under_val a0 a1 q2 q3
    have u2 := under_val a1 a0 (by omega) q3.symm
    rw [u1, u2, less_val a0 a1 q2 q3, q3]
    cases (List.range' 0 a0.length).any (gtr a0 a1) <;> cases (List.range' 0 a0.length).any (gtr a1 a0) <;> simp
  · have : (r != 0) = true := by simpa using c
    simp [this]

def jn (a b : List Int) (k : Nat) : Int := mx (el a k) (el b k)
def jl (a b : List Int) : List Int := (List.range a.length).map (jn a b)
theorem join_val (a b : List Int) (hl : a.length ≤ 6) (hb : b.length = a.length) : F48 a b = some (jl a b) := by
  have h76 : F76 a = some a := by unfold F76 appl; rw [if_pos]; simp; simp; omega
  unfold F48
  rw [h76]
  simp only [Option.bind_some]
  have hw := while_upto (body := F48_L0 b) (fun k => ((List.range k).map (jn a b) ++ a.drop k, (k : Int))) b.length (c := .brk (jl a b))
    (fun k hk => by
      have hka : k < a.length := by omega
      have hlen : ((List.range k).map (jn a b)).length = k := by simp
      have hd : a.drop k = a[k] :: a.drop (k + 1) := List.drop_eq_getElem_cons hka
      have hel : a[k] = el a k := by simp [el, List.getD_eq_getElem?_getD, hka]
      have hgy : ((List.range k).map (jn a b) ++ a.drop k)[k]? = some (el a k) := by
        rw [List.getElem?_append_right (by omega), hlen, hd, hel]; simp
      have hnext : (List.range (k + 1)).map (jn a b) ++ a.drop (k + 1) = (List.range k).map (jn a b) ++ jn a b k :: a.drop (k + 1) := by
        rw [List.range_succ, List.map_append]; simp only [List.map_cons, List.map_nil, List.append_assoc, List.singleton_append]
      have hset : ((List.range k).map (jn a b) ++ a.drop k).set k (jn a b k) = (List.range k).map (jn a b) ++ jn a b k :: a.drop (k + 1) := by
        rw [List.set_append_right _ _ (by omega), hlen, hd, Nat.sub_self]; rfl
      have hdk : decide ((k : Int) < (b.length : Int)) = true := by simp; omega
      have hj : mx (el a k) (el b k) = jn a b k := rfl
      have hkn : ((k : Int)).toNat = k := by simp
      simp only [F48_L0, hdk, idx_some (get_el hk), idx_some hgy, Option.bind_some, w64_succ hk (by omega), cond_true, hj, hkn, hset, hnext])
    (by
      have : (a.drop b.length) = [] := by rw [hb]; simp
      simp [F48_L0, jl, hb])
    (by intro s h; cases h)
  have hw' : whileM (F48_L0 b) (a, 0) = some (.brk (jl a b)) := by
    have := hw
    simp only [List.range_zero, List.map_nil, List.drop_zero, List.nil_append] at this
    exact this
  rw [hw']
  rfl
theorem law_VectorJoins (a0 : List Int) (h0 : a0.length ≤ 9223372036854775807) (_ : ∀ x ∈ a0, i64 x) (a1 : List Int) (h1 : a1.length ≤ 9223372036854775807) (_ : ∀ x ∈ a1, i64 x) : F4 a0 a1 = some true := by
  obtain ⟨r, e1, e2, e3⟩ := check_same a0 a1
  unfold F4 F18
  rw [e1, e2]
  by_cases c : r = 0
  · subst c
    obtain ⟨q1, q2, q3⟩ := e3 rfl
    rw [join_val a0 a1 q2 q3]
    have hlen : (jl a0 a1).length = a0.length := by simp [jl]
    have hw := while_upto (body := F4_L0 a0 a1 (jl a0 a1)) (fun k => (k : Int)) a0.length (c := .brk ())
      (fun k hk => by
        have hg : (jl a0 a1)[k]? = some (jn a0 a1 k) := by simp [jl, hk]
        have hdk : decide ((k : Int) < ((jl a0 a1).length : Int)) = true := by rw [hlen]; simp; omega
        have j1 : decide (jn a0 a1 k < el a0 k) = false := by unfold jn mx; simp; split <;> omega
        have j2 : decide (jn a0 a1 k < el a1 k) = false := by unfold jn mx; simp; split <;> omega
        have j3 : (jn a0 a1 k != el a0 k) = true → (jn a0 a1 k != el a1 k) = false := by unfold jn mx; split <;> simp
        simp only [F4_L0, hdk, idx_some hg, idx_some (get_el hk), idx_some (get_el (show k < a1.length by omega)), Option.bind_some, cond_true, cond_false, j1, j2, w64_succ hk (by omega)]
        cases d : (jn a0 a1 k != el a0 k) with
        | true => rw [j3 d]; simp
        | false => simp)
      (by simp [F4_L0, hlen]) (by intro s h; cases h)
    have hw' : whileM (F4_L0 a0 a1 (jl a0 a1)) 0 = some (.brk ()) := hw
    simp [hw', hlen]
  · have : (r != 0) = true := by simpa using c
    simp [this]
end Go.Proofs.Ytdjmlbjkendobaa
