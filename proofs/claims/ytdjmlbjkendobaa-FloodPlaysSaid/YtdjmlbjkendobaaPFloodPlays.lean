/-
  The plain law of FloodPlays.
-/
import Derived.Test.YtdjmlbjkendobaaFM
import Derived.Test.YtdjmlbjkendobaaPw
import Derived.Test.YtdjmlbjkendobaaBk6
namespace Go.Proofs.Ytdjmlbjkendobaa
open Go Go.Bk
set_option linter.unusedVariables false
set_option linter.unusedSimpArgs false

abbrev Cr := Int × Int × BitVec 32
def ge {α : Type} (d : α) (l : List α) (j : Nat) : α := l.getD j d
abbrev gi (l : List Int) (j : Nat) : Int := ge 0 l j
abbrev gw (l : List (BitVec 32)) (j : Nat) : BitVec 32 := ge 0#32 l j
abbrev gr (l : List (List Int)) (j : Nat) : List Int := ge [] l j
theorem get_ge {α : Type} (d : α) {l : List α} {j : Nat} (h : j < l.length) : l[j]? = some (ge d l j) := by simp [ge, List.getD_eq_getElem?_getD, List.getElem?_eq_getElem h]
theorem idx_ge {α : Type} (d : α) {l : List α} {j : Nat} (h : j < l.length) : idx l (j : Int) = some (ge d l j) := idx_some (get_ge d h)
theorem ge_set {α : Type} {d : α} {l : List α} {i b : Nat} {v : α} (hi : i < l.length) : ge d (l.set i v) b = if b = i then v else ge d l b := by
  unfold ge
  rw [List.getD_eq_getElem?_getD, List.getD_eq_getElem?_getD, List.getElem?_set]
  by_cases c : i = b
  · subst c; simp [hi]
  · have : ¬ b = i := fun e => c e.symm
    simp [c, this]
theorem ge_rep {α : Type} (d v : α) {n i : Nat} (h : i < n) : ge d (List.replicate n v) i = v := by
  unfold ge; rw [List.getD_eq_getElem?_getD, List.getElem?_replicate]; simp [h]
theorem w64i {x : Int} (h0 : -9000000000 ≤ x) (h1 : x ≤ 9000000000) : w64 x = x := w64_of (by omega) (by omega)
theorem appS {α : Type} (b : Nat) (hb : b ≤ 32) (l m : List α) (h : l.length + m.length ≤ 1000) : appl b l m = some (l ++ m) := by
  unfold appl; rw [if_pos]
  have : (l.length + m.length) * b ≤ 1000 * 32 := Nat.mul_le_mul h hb
  omega
theorem while_ex {σ τ β ρ : Type} {body : σ → Option (Ctl σ β ρ)} (S : Nat → τ → σ) (n : Nat) (out : τ → β) (I : Nat → τ → Prop)
    (hstep : ∀ k t, k < n → I k t → ∃ t', body (S k t) = some (.nxt (S (k + 1) t')) ∧ I (k + 1) t') (hend : ∀ t, I n t → body (S n t) = some (.brk (out t))) (t : τ) (h0 : I 0 t) :
    ∃ t', whileM body (S 0 t) = some (.brk (out t')) ∧ I n t' := by
  have key : ∀ m k t, k + m = n → I k t → ∃ t', whileM body (S k t) = some (.brk (out t')) ∧ I n t' := by
    intro m
    induction m with
    | zero =>
      intro k t hk hI
      obtain rfl : k = n := by omega
      exact ⟨t, whileM_brk (hend t hI), hI⟩
    | succ m ih =>
      intro k t hk hI
      obtain ⟨t', h1, h2⟩ := hstep k t (by omega) hI
      rw [whileM_nxt h1]
      exact ih (k + 1) t' (by omega) h2
  exact key n 0 t (by omega) h0
theorem nodup_le : ∀ {l m : List Int}, l.Nodup → (∀ x ∈ l, x ∈ m) → l.length ≤ m.length
  | [], m, _, _ => by simp
  | x :: l, m, h, s => by
    rw [List.nodup_cons] at h
    have hx : x ∈ m := s x (by simp)
    have := nodup_le (l := l) (m := m.erase x) h.2 fun y hy => (List.mem_erase_of_ne (fun e => h.1 (by rw [← e]; exact hy))).2 (s y (by simp [hy]))
    rw [List.length_erase_of_mem hx] at this
    have : 0 < m.length := List.length_pos_of_mem hx
    simp; omega

/-! What is wrong. -/
section
variable {vals : List Int} {cs : List Cr} {n : Nat} {R : Int}
def offC (n : Int) (c : Cr) : Bool := decide (c.1 < 0) || decide (c.1 ≥ n)
def offR (n : Nat) (R : Int) (c : Cr) : Bool := (decide (c.2.1 < 1) || decide (c.2.1 > R)) || ((c.2.2 >>> n) != 0#32)
def twice (cs : List Cr) : Option Int := scan (fun k e => cond ((cs.take k).any (fun o => e.1 == o.1)) (some 3) none) cs 0
theorem f63_l0 (hl : cs.length ≤ 9223372036854775807) : whileM (F63_L0 vals cs) 0 = some (found () (cond (cs.any (offC vals.length)) (some 2) none)) := by
  rw [← scan_any (k := 0)]
  refine while_scan hl _ (fun k e h => ?_) (by simp [F63_L0])
  have hk := lt_of_get h
  have hd : decide ((k : Int) < (cs.length : Int)) = true := by rw [decide_eq_true_eq]; omega
  cases c : offC vals.length e <;> (unfold offC at c; simp only [F63_L0, idx_some h, hd, c, going, Option.bind_some, cond_true, cond_false]; simp)
theorem f39_l0 (hl : cs.length ≤ 9223372036854775807) : whileM (F39_L0 vals cs) 0 = some (found () (cond (cs.any (offC vals.length)) (some 2) none)) := f63_l0 hl
theorem f63_l1 (hl : cs.length ≤ 9223372036854775807) : whileM (F63_L1 vals cs R) 0 = some (found () (cond (cs.any (offR vals.length R)) (some 4) none)) := by
  rw [← scan_any (k := 0)]
  refine while_scan hl _ (fun k e h => ?_) (by simp [F63_L1])
  have hk := lt_of_get h
  have hd : decide ((k : Int) < (cs.length : Int)) = true := by rw [decide_eq_true_eq]; omega
  unfold offR
  cases c : (decide (e.2.1 < 1) || decide (e.2.1 > R)) <;> cases c2 : ((e.2.2 >>> vals.length) != 0#32) <;> (simp only [F63_L1, idx_some h, hd, c, c2, going, Option.bind_some, cond_true, cond_false, shc_nat]; simp)
theorem f39_l1 (hl : cs.length ≤ 9223372036854775807) (hn : vals.length ≤ 6) : whileM (F39_L1 vals cs R) 0 = some (found () (cond (cs.any (offR vals.length R)) (some 4) none)) := by
  rw [← scan_any (k := 0)]
  refine while_scan hl _ (fun k e h => ?_) (by simp [F39_L1])
  have hk := lt_of_get h
  have hd : decide ((k : Int) < (cs.length : Int)) = true := by rw [decide_eq_true_eq]; omega
  unfold offR
  rw [shr_ne (by omega)]
  cases c : ((decide (e.2.1 < 1) || decide (e.2.1 > R)) || decide ((1#32 <<< vals.length) ≤ e.2.2)) <;> (simp only [F39_L1, idx_some h, hd, u64_nat (show vals.length ≤ 18446744073709551615 by omega), c, going, Option.bind_some, cond_true, cond_false]; simp)
theorem f84_val (l : List Cr) (x : Cr) (hl : l.length ≤ 9223372036854775807) : F84 l (fun z => F85 z (x.1, x.2.1, x.2.2)) = some (l.any (fun o => x.1 == o.1)) := by
  have hw : whileM (F92_L0 l (fun z => F85 z (x.1, x.2.1, x.2.2))) 0 = some (found () (scan (fun k (e : Cr) => if (x.1 == e.1) = true then some (k : Int) else none) l 0)) := by
    refine while_scan hl _ (fun k e h => ?_) (by simp [F92_L0])
    have hk := lt_of_get h
    have hd : decide ((k : Int) < (l.length : Int)) = true := by rw [decide_eq_true_eq]; omega
    have hf : F85 e (x.1, x.2.1, x.2.2) = some (x.1 == e.1) := by unfold F85; rw [BEq.comm]
    cases c : (x.1 == e.1) <;> (rw [c] at hf; simp only [F92_L0, idx_some h, hd, hf, going, Option.bind_some, cond_true, cond_false]; simp)
  unfold F84 F92
  rw [hw]
  cases y : scan (fun k (e : Cr) => if (x.1 == e.1) = true then some (k : Int) else none) l 0 with
  | none =>
    have : l.any (fun o => x.1 == o.1) = false := by
      rw [List.any_eq_false]
      intro e he
      obtain ⟨i, hi⟩ := List.getElem?_of_mem he
      have := scan_none.1 y i e hi
      intro hc; rw [if_pos hc] at this; cases this
    rw [this]; simp [found, Ctl.on]
  | some r =>
    obtain ⟨i, e, hi, he⟩ := scan_val y
    have hc : (x.1 == e.1) = true := by
      cases c : (x.1 == e.1) with
      | true => rfl
      | false => rw [c] at he; simp at he
    rw [if_pos hc] at he
    simp at he
    subst he
    have : l.any (fun o => x.1 == o.1) = true := List.any_eq_true.2 ⟨e, List.mem_of_getElem? hi, hc⟩
    rw [this]; simp [found, Ctl.on]
theorem f63_l2 (hl : cs.length ≤ 9223372036854775807) : whileM (F63_L2 cs) 0 = some (found () (twice cs)) := by
  refine while_scan hl _ (fun k e h => ?_) (by simp [F63_L2])
  have hk := lt_of_get h
  have hd : decide ((k : Int) < (cs.length : Int)) = true := by rw [decide_eq_true_eq]; omega
  have hf := f84_val (cs.take k) e (by simp; omega)
  cases c : (cs.take k).any (fun o => e.1 == o.1) <;> (rw [c] at hf; simp only [F63_L2, idx_some h, hd, slI_take hk, hf, going, Option.bind_some, cond_true, cond_false])
theorem f39_l2 (hl : cs.length ≤ 9223372036854775807) : whileM (F39_L2 cs) 0 = some (found () (twice cs)) := by
  refine while_scan hl _ (fun k e h => ?_) (by simp [F39_L2])
  have hk := lt_of_get h
  have hd : decide ((k : Int) < (cs.length : Int)) = true := by rw [decide_eq_true_eq]; omega
  have hlen : (cs.take k).length = k := by simp; omega
  have hw : whileM (F39_L3 cs (k : Int)) 0 = some (found () (cond ((cs.take k).any (fun o => e.1 == o.1)) (some 3) none)) := by
    rw [← scan_any (k := 0)]
    refine while_scan (xs := cs.take k) (by omega) _ (fun j o ho => ?_) (by rw [hlen]; simp [F39_L3])
    have hj := lt_of_get ho
    rw [hlen] at hj
    rw [List.getElem?_take, if_pos hj] at ho
    have hd2 : decide ((j : Int) < (k : Int)) = true := by rw [decide_eq_true_eq]; omega
    cases c : (e.1 == o.1) <;> (simp only [F39_L3, idx_some h, idx_some ho, hd2, c, going, Option.bind_some, cond_true, cond_false]; simp)
  cases c : (cs.take k).any (fun o => e.1 == o.1) <;> (rw [c] at hw; simp only [F39_L2, hd, hw, found, going, Option.bind_some, cond_true, cond_false, Ctl.on])
/-- What holds of a script that is not refused. -/
structure Fine (vals : List Int) (cs : List Cr) (R : Int) : Prop where
  n1 : 1 ≤ vals.length
  n6 : vals.length ≤ 6
  r0 : 0 ≤ R
  r8 : R ≤ 8
  pr : ∀ c ∈ cs, 0 ≤ c.1 ∧ c.1 < (vals.length : Int)
  ro : ∀ c ∈ cs, 1 ≤ c.2.1 ∧ c.2.1 ≤ R
  one : ∀ (k j : Nat) (c d : Cr), j < k → cs[k]? = some c → cs[j]? = some d → c.1 ≠ d.1
theorem check (hl : cs.length ≤ 9223372036854775807) : ∃ r, F63 vals cs R = some r ∧ F39 vals cs R = some r ∧ (r = 0 → Fine vals cs R) := by
  unfold F63 F39
  cases c : (((decide ((vals.length : Int) < 1)) || (decide ((vals.length : Int) > 6))) || (decide (R < 0))) || (decide (R > 8)) with
  | true => exact ⟨1, rfl, rfl, fun h => by cases h⟩
  | false =>
    simp only [Bool.or_eq_false_iff, decide_eq_false_iff_not] at c
    simp only [cond_false, f63_l0 hl, f39_l0 hl, f63_l1 hl, f39_l1 hl (show vals.length ≤ 6 by omega), f63_l2 hl, f39_l2 hl, Option.bind_some]
    cases c0 : cs.any (offC vals.length) with
    | true => exact ⟨2, rfl, rfl, fun h => by cases h⟩
    | false =>
      cases c1 : cs.any (offR vals.length R) with
      | true => exact ⟨4, rfl, rfl, fun h => by cases h⟩
      | false =>
        cases c2 : twice cs with
        | some q =>
          obtain ⟨i, e, hi, he⟩ := scan_val c2
          have : q = 3 := by
            cases c3 : (cs.take (0 + i)).any (fun o => e.1 == o.1) <;> rw [c3] at he <;> simp at he
            exact he.symm
          exact ⟨q, rfl, rfl, fun h => by omega⟩
        | none =>
          refine ⟨0, rfl, rfl, fun _ => ⟨by omega, by omega, by omega, by omega, ?_, ?_, ?_⟩⟩
          · intro x hx
            have := List.any_eq_false.1 c0 x hx
            simp [offC] at this; omega
          · intro x hx
            have := List.any_eq_false.1 c1 x hx
            simp [offR] at this; omega
          · intro k j x d hjk hk hj e
            have := scan_none.1 c2 k x hk
            rw [Nat.zero_add] at this
            have ha : (cs.take k).any (fun o => x.1 == o.1) = true := List.any_eq_true.2 ⟨d, List.mem_of_getElem? (by rw [List.getElem?_take, if_pos hjk]; exact hj), by rw [e]; simp⟩
            rw [ha] at this; cases this
end

/-! Who crashes. -/
section
variable {vals : List Int} {cs : List Cr} {R : Int}
/-- G: in which round each is gone; U: whom it still reaches. -/
structure CF (vals : List Int) (cs : List Cr) (G : List Int) (U : List (BitVec 32)) : Prop where
  lg : G.length = vals.length
  lu : U.length = vals.length
  got : ∀ c ∈ cs, gi G c.1.toNat = c.2.1 ∧ gw U c.1.toNat = c.2.2
  non : ∀ i, i < vals.length → gi G i = 0 ∨ ∃ c ∈ cs, c.1 = (i : Int)
theorem l1_val (f : Fine vals cs R) (hl : cs.length ≤ 9223372036854775807) : ∃ GU : List (BitVec 32) × List Int, whileM (F40_L1 cs) (List.replicate vals.length 0#32, List.replicate vals.length 0, 0) = some (.brk GU) ∧ CF vals cs GU.2 GU.1 := by
  have h := while_ex (body := F40_L1 cs) (fun k (t : List (BitVec 32) × List Int) => (t.1, t.2, (k : Int))) cs.length (fun t => t) (fun k t => CF vals (cs.take k) t.2 t.1)
    (fun k t hk I => by
      have hd : decide ((k : Int) < (cs.length : Int)) = true := by rw [decide_eq_true_eq]; omega
      have hg := List.getElem?_eq_getElem hk
      obtain ⟨p0, p1⟩ := f.pr _ (List.getElem_mem hk)
      obtain ⟨p, hp⟩ : ∃ p : Nat, cs[k].1 = (p : Int) := ⟨cs[k].1.toNat, by omega⟩
      have hpn : p < vals.length := by omega
      have hg1 : p < t.2.length := by rw [I.lg]; exact hpn
      have hu1 : p < t.1.length := by rw [I.lu]; exact hpn
      refine ⟨(t.1.set p cs[k].2.2, t.2.set p cs[k].2.1), ?_, ?_⟩
      · simp only [F40_L1, hd, cond_true, idx_some hg, Option.bind_some, hp, idx_ge 0 hg1, idx_ge 0#32 hu1, Int.toNat_natCast, w64_succ hk hl]
      · refine ⟨by simp [I.lg], by simp [I.lu], ?_, ?_⟩
        · intro c hc
          rw [List.take_add_one, hg, List.mem_append] at hc
          rcases hc with hc | hc
          · have hne : c.1.toNat ≠ p := by
              obtain ⟨j, hj⟩ := List.getElem?_of_mem hc
              have hjk := lt_of_get hj
              rw [List.length_take] at hjk
              have hjk1 : j < k := by omega
              rw [List.getElem?_take, if_pos hjk1] at hj
              have := f.one k j _ _ hjk1 hg hj
              have := (f.pr c (List.mem_of_mem_take hc)).1
              omega
            simp only [gi, gw, ge_set hg1, ge_set hu1, if_neg hne]
            exact I.got c hc
          · simp at hc
            subst hc
            have : cs[k].1.toNat = p := by omega
            simp [gi, gw, ge_set hg1, ge_set hu1, this]
        · intro i hi
          simp only [gi, ge_set hg1]
          by_cases e : i = p
          · right
            exact ⟨cs[k], List.mem_of_getElem? (i := k) (by rw [List.getElem?_take, if_pos (by omega)]; exact hg), by rw [hp, e]⟩
          · rw [if_neg e]
            rcases I.non i hi with q | ⟨c, hc, e2⟩
            · exact .inl q
            · exact .inr ⟨c, by rw [List.take_add_one]; exact List.mem_append_left _ hc, e2⟩)
    (fun t I => by simp [F40_L1]) (List.replicate vals.length 0#32, List.replicate vals.length 0)
    ⟨by simp, by simp, by simp, fun i hi => .inl (ge_rep 0 0 hi)⟩
  obtain ⟨t, h1, h2⟩ := h
  rw [List.take_length] at h2
  exact ⟨t, h1, h2⟩
variable {G : List Int} {U : List (BitVec 32)}
def hit (cs : List Cr) (r i : Nat) : Bool := cs.any fun c => c.1 == (i : Int) && c.2.1 == (r : Int)
theorem hit_iff (f : Fine vals cs R) (g : CF vals cs G U) {r i : Nat} (hr : 1 ≤ r) (hi : i < vals.length) : hit cs r i = decide (gi G i = (r : Int)) := by
  rw [Bool.eq_iff_iff, decide_eq_true_eq]
  unfold hit
  rw [List.any_eq_true]
  constructor
  · rintro ⟨c, hc, h⟩
    rw [Bool.and_eq_true, beq_iff_eq, beq_iff_eq] at h
    have := (g.got c hc).1
    rw [h.1, Int.toNat_natCast] at this
    rw [this, h.2]
  · intro h
    rcases g.non i hi with q | ⟨c, hc, e⟩
    · omega
    · have := (g.got c hc).1
      rw [e, Int.toNat_natCast] at this
      exact ⟨c, hc, by rw [Bool.and_eq_true, beq_iff_eq, beq_iff_eq]; exact ⟨e, by omega⟩⟩
theorem hit_hi (f : Fine vals cs R) {r i : Nat} (hi : vals.length ≤ i) : hit cs r i = false := by
  unfold hit; rw [List.any_eq_false]; intro c hc h
  rw [Bool.and_eq_true, beq_iff_eq, beq_iff_eq] at h
  have := f.pr c hc; omega
def ALL (n : Nat) : BitVec 32 := (1#32 <<< n) - 1#32
theorem l2_val (f : Fine vals cs R) (hl : cs.length ≤ 9223372036854775807) (g : CF vals cs G U) {r : Nat} (hr : 1 ≤ r) (th : BitVec 32) :
    ∃ t : List (BitVec 32) × BitVec 32, whileM (F38_L2 cs (r : Int)) (List.replicate vals.length (ALL vals.length), th, 0) = some (.brk t) ∧ t.1.length = vals.length ∧
      (∀ i, i < vals.length → gw t.1 i = if gi G i = (r : Int) then gw U i else ALL vals.length) ∧ ∀ b, t.2.getLsbD b = (th.getLsbD b && !hit cs r b) := by
  have h := while_ex (body := F38_L2 cs (r : Int)) (fun k (t : List (BitVec 32) × BitVec 32) => (t.1, t.2, (k : Int))) cs.length (fun t => t)
    (fun k t => t.1.length = vals.length ∧ (∀ i, i < vals.length → gw t.1 i = cond (hit (cs.take k) r i) (gw U i) (ALL vals.length)) ∧ ∀ b, t.2.getLsbD b = (th.getLsbD b && !hit (cs.take k) r b))
    (fun k t hk I => by
      obtain ⟨I1, I2, I3⟩ := I
      have hd : decide ((k : Int) < (cs.length : Int)) = true := by rw [decide_eq_true_eq]; omega
      have hg := List.getElem?_eq_getElem hk
      obtain ⟨p0, p1⟩ := f.pr _ (List.getElem_mem hk)
      obtain ⟨p, hp⟩ : ∃ p : Nat, cs[k].1 = (p : Int) := ⟨cs[k].1.toNat, by omega⟩
      have hpn : p < vals.length := by omega
      have h1 : p < t.1.length := by rw [I1]; exact hpn
      have hn6 := f.n6
      have hh : ∀ b, hit (cs.take (k + 1)) r b = (hit (cs.take k) r b || (decide (p = b) && decide (cs[k].2.1 = (r : Int)))) := fun b => by
        unfold hit
        rw [List.take_add_one, hg, List.any_append]
        simp only [Option.toList_some, List.any_cons, List.any_nil, Bool.or_false, hp]
        congr 1
        rw [Bool.eq_iff_iff]
        simp only [Bool.and_eq_true, beq_iff_eq, decide_eq_true_eq]
        constructor
        · rintro ⟨q1, q2⟩; exact ⟨by omega, q2⟩
        · rintro ⟨q1, q2⟩; exact ⟨by omega, q2⟩
      by_cases c : cs[k].2.1 = (r : Int)
      · have b : (cs[k].2.1 == (r : Int)) = true := by rw [beq_iff_eq]; exact c
        refine ⟨(t.1.set p cs[k].2.2, t.2 &&& ~~~(1#32 <<< p)), ?_, by simp [I1], ?_, ?_⟩
        · simp only [F38_L2, hd, cond_true, idx_some hg, Option.bind_some, b, hp, idx_ge 0#32 h1, shc_nat, Int.toNat_natCast, w64_succ hk hl]
        · intro i hi
          rw [hh i, decide_eq_true c]
          simp only [gw, ge_set h1]
          by_cases e : i = p
          · subst e
            have := (g.got _ (List.getElem_mem hk)).2
            rw [hp, Int.toNat_natCast] at this
            simp [this.symm]
          · have : ¬ p = i := fun q => e q.symm
            have h2 := I2 i hi
            simp [e, this]; exact h2
        · intro b
          rw [hh b, decide_eq_true c, BitVec.getLsbD_and, BitVec.getLsbD_not, bit_one (by omega), I3 b]
          by_cases e : b = p
          · subst e; simp
          · have : ¬ p = b := fun q => e q.symm
            by_cases hb : b < 32
            · simp [e, this, hb]
            · have : th.getLsbD b = false := BitVec.getLsbD_of_ge _ _ (by omega)
              simp [this]
      · have b : (cs[k].2.1 == (r : Int)) = false := by rw [beq_eq_false_iff_ne]; exact c
        refine ⟨t, ?_, I1, ?_, ?_⟩
        · simp only [F38_L2, hd, cond_true, cond_false, idx_some hg, Option.bind_some, b, w64_succ hk hl]
        · intro i hi; rw [hh i, decide_eq_false c]; simp; exact I2 i hi
        · intro b; rw [hh b, decide_eq_false c]; simp; exact I3 b)
    (fun t I => by simp [F38_L2]) (List.replicate vals.length (ALL vals.length), th)
    ⟨by simp, fun i hi => by rw [gw, ge_rep _ _ hi]; simp [hit], fun b => by simp [hit]⟩
  obtain ⟨t, h1, h2, h3, h4⟩ := h
  rw [List.take_length] at h3 h4
  refine ⟨t, h1, h2, fun i hi => ?_, h4⟩
  rw [h3 i hi, hit_iff f g hr hi]
  by_cases c : gi G i = (r : Int) <;> simp [c]
/-- Whose word reaches whom in round r. -/
def SS (G : List Int) (U : List (BitVec 32)) (r i j : Nat) : Bool := (gi G i == 0) || (decide (gi G i > (r : Int)) || (gi G i == (r : Int) && (gw U i).getLsbD j))
def mkAnd (th : BitVec 32) (Y : List (BitVec 32)) (i j : Nat) : Bool := th.getLsbD i && (gw Y i).getLsbD j
theorem bit_is (w : BitVec 32) (k : Nat) : (((w >>> k) &&& 1#32) == 1#32) = w.getLsbD k := by rw [and_one]; cases w.getLsbD k <;> rfl
theorem bit_no (w : BitVec 32) (k : Nat) : (((w >>> k) &&& 1#32) == 0#32) = !w.getLsbD k := by rw [and_one]; cases w.getLsbD k <;> rfl
theorem l4_val {n : Nat} (hn : n ≤ 6) {th : BitVec 32} {Y y0 : List (BitVec 32)} (hY : Y.length = n) (h0 : y0.length = n) {i : Nat} (hi : i < n) (wd : BitVec 32) :
    ∃ y, whileM (F38_L4 th Y y0 (i : Int) wd) (y0, 0) = some (.brk y) ∧ y.length = n ∧ ∀ j, j < n → gw y j = if mkAnd th Y i j = true then gw y0 j ||| wd else gw y0 j := by
  have h := while_ex (body := F38_L4 th Y y0 (i : Int) wd) (fun k (t : List (BitVec 32)) => (t, (k : Int))) n (fun t => t)
    (fun k t => t.length = n ∧ ∀ j, j < n → gw t j = if j < k ∧ mkAnd th Y i j = true then gw y0 j ||| wd else gw y0 j)
    (fun k t hk I => by
      obtain ⟨I1, I2⟩ := I
      have hd : decide ((k : Int) < (y0.length : Int)) = true := by rw [decide_eq_true_eq]; omega
      have hws : w64 ((k : Int) + 1) = ((k + 1 : Nat) : Int) := w64_succ hk (by omega)
      have hik : k < t.length := by omega
      have hiY := idx_ge 0#32 (show i < Y.length by omega)
      by_cases c : mkAnd th Y i k = true
      · have c' : th.getLsbD i = true ∧ (gw Y i).getLsbD k = true := by unfold mkAnd at c; rwa [Bool.and_eq_true] at c
        refine ⟨t.set k (gw t k ||| wd), ?_, by simp [I1], ?_⟩
        · simp only [F38_L4, hd, cond_true, shc_nat, Option.bind_some, bit_is, c'.1, hiY, c'.2, idx_ge 0#32 hik, Int.toNat_natCast, hws]
        · intro j hj
          simp only [gw, ge_set hik]
          by_cases e : j = k
          · subst e
            rw [if_pos rfl, if_pos ⟨by omega, c⟩]
            have := I2 j hj
            rw [if_neg (by omega)] at this
            simp only [gw] at this; rw [this]
          · rw [if_neg e]
            have := I2 j hj
            simp only [gw] at this; rw [this]
            by_cases q : j < k
            · simp [q, show j < k + 1 by omega]
            · simp [q, show ¬ j < k + 1 by omega]
      · have c' : mkAnd th Y i k = false := by simpa using c
        refine ⟨t, ?_, I1, ?_⟩
        · unfold mkAnd at c'
          cases q : th.getLsbD i with
          | false => simp only [F38_L4, hd, cond_true, cond_false, shc_nat, Option.bind_some, bit_is, q, hws]
          | true =>
            rw [q, Bool.true_and] at c'
            simp only [F38_L4, hd, cond_true, cond_false, shc_nat, Option.bind_some, bit_is, q, hiY, c', hws]
        · intro j hj
          rw [I2 j hj]
          by_cases e : j = k
          · subst e; simp [c']
          · by_cases q : j < k
            · simp [q, show j < k + 1 by omega]
            · simp [q, show ¬ j < k + 1 by omega])
    (fun t I => by simp [F38_L4, h0]) y0 ⟨h0, fun j hj => by simp⟩
  obtain ⟨y, h1, h2, h3⟩ := h
  exact ⟨y, h1, h2, fun j hj => by rw [h3 j hj]; simp [hj]⟩
theorem l3_val {n : Nat} (hn : n ≤ 6) {th : BitVec 32} {W Y : List (BitVec 32)} (hW : W.length = n) (hY : Y.length = n) :
    ∃ y, whileM (F38_L3 W th Y) (W, 0) = some (.brk y) ∧ y.length = n ∧ ∀ j, j < n → ∀ b, (gw y j).getLsbD b = true ↔ (gw W j).getLsbD b = true ∨ ∃ i, i < n ∧ mkAnd th Y i j = true ∧ (gw W i).getLsbD b = true := by
  have h := while_ex (body := F38_L3 W th Y) (fun k (t : List (BitVec 32)) => (t, (k : Int))) n (fun t => t)
    (fun k t => t.length = n ∧ ∀ j, j < n → ∀ b, (gw t j).getLsbD b = true ↔ (gw W j).getLsbD b = true ∨ ∃ i, i < k ∧ mkAnd th Y i j = true ∧ (gw W i).getLsbD b = true)
    (fun k t hk I => by
      obtain ⟨I1, I2⟩ := I
      have hd : decide ((k : Int) < (W.length : Int)) = true := by rw [decide_eq_true_eq]; omega
      have hws : w64 ((k : Int) + 1) = ((k + 1 : Nat) : Int) := w64_succ hk (by omega)
      obtain ⟨y, a1, a2, a3⟩ := l4_val hn (th := th) hY I1 hk (gw W k)
      refine ⟨y, ?_, a2, ?_⟩
      · simp only [F38_L3, hd, cond_true, idx_ge 0#32 (show k < W.length by omega), Option.bind_some, a1, Ctl.on, hws]
      · intro j hj b
        rw [a3 j hj]
        by_cases c : mkAnd th Y k j = true
        · rw [if_pos c, BitVec.getLsbD_or, Bool.or_eq_true, I2 j hj b]
          constructor
          · rintro ((q | ⟨i, hi, q⟩) | q)
            · exact .inl q
            · exact .inr ⟨i, by omega, q⟩
            · exact .inr ⟨k, by omega, c, q⟩
          · rintro (q | ⟨i, hi, q1, q2⟩)
            · exact .inl (.inl q)
            · by_cases e : i = k
              · subst e; exact .inr q2
              · exact .inl (.inr ⟨i, by omega, q1, q2⟩)
        · rw [if_neg c, I2 j hj b]
          constructor
          · rintro (q | ⟨i, hi, q⟩)
            · exact .inl q
            · exact .inr ⟨i, by omega, q⟩
          · rintro (q | ⟨i, hi, q1, q2⟩)
            · exact .inl q
            · by_cases e : i = k
              · subst e; exact absurd q1 c
              · exact .inr ⟨i, by omega, q1, q2⟩)
    (fun t I => by simp [F38_L3, hW]) W ⟨hW, fun j hj b => by simp⟩
  exact h

/-! The document's lists. -/
theorem has_val (l : List Int) (hl : l.length ≤ 1000) (a : Int) : F62 l a = some (decide (a ∈ l)) := by
  have h : whileM (F62_L0 l a) 0 = some (found () (cond (l.any (fun e => a == e)) (some true) none)) := by
    rw [← scan_any (k := 0)]
    refine while_scan (by omega) _ (fun k e h => ?_) (by simp [F62_L0])
    have hk := lt_of_get h
    have hd : decide ((k : Int) < (l.length : Int)) = true := by rw [decide_eq_true_eq]; omega
    cases c : (a == e) <;> (simp only [F62_L0, idx_some h, hd, c, going, Option.bind_some, cond_true, cond_false]; simp)
  have e : l.any (fun e => a == e) = decide (a ∈ l) := by
    rw [Bool.eq_iff_iff, List.any_eq_true, decide_eq_true_eq]
    constructor
    · rintro ⟨x, hx, e⟩; rw [beq_iff_eq] at e; rw [e]; exact hx
    · intro h; exact ⟨a, h, by simp⟩
  unfold F62
  rw [h, e]
  cases c : decide (a ∈ l) <;> simp [found, Ctl.on]
theorem bit_val {w : BitVec 32} {j : Nat} (hj : j < 32) : F23 w (j : Int) = some (w.getLsbD j) := by
  have h1 : decide ((j : Int) ≥ 0) = true := by rw [decide_eq_true_eq]; omega
  have h2 : decide ((j : Int) < 32) = true := by rw [decide_eq_true_eq]; omega
  unfold F23
  rw [h1, h2, u64_nat (by omega), and_bit hj]; rfl
theorem l5_val (x : List Int) (hx : x.length ≤ 100) : ∃ y, whileM (F40_L5 x) ([], 0) = some (.brk y) ∧ y.Nodup ∧ ∀ v, v ∈ y ↔ v ∈ x := by
  have h := while_ex (body := F40_L5 x) (fun k (t : List Int) => (t, (k : Int))) x.length (fun t => t)
    (fun k t => t.Nodup ∧ t.length ≤ k ∧ ∀ v, v ∈ t ↔ v ∈ x.take k)
    (fun k t hk I => by
      obtain ⟨I1, I2, I3⟩ := I
      have hd : decide ((k : Int) < (x.length : Int)) = true := by rw [decide_eq_true_eq]; omega
      have hg := List.getElem?_eq_getElem hk
      have hws : w64 ((k : Int) + 1) = ((k + 1 : Nat) : Int) := w64_succ hk (by omega)
      have hhas := has_val t (by omega) x[k]
      have ht : x.take (k + 1) = x.take k ++ [x[k]] := by rw [List.take_add_one, hg]; rfl
      by_cases c : x[k] ∈ t
      · rw [decide_eq_true c] at hhas
        refine ⟨t, ?_, I1, by omega, fun v => ?_⟩
        · simp only [F40_L5, hd, cond_true, idx_some hg, Option.bind_some, hhas, Bool.not_true, cond_false, hws]
        · rw [ht, List.mem_append, List.mem_singleton, I3 v]
          constructor
          · exact .inl
          · rintro (q | rfl)
            · exact q
            · exact (I3 _).1 c
      · rw [decide_eq_false c] at hhas
        refine ⟨t ++ [x[k]], ?_, ?_, by simp; omega, fun v => ?_⟩
        · simp only [F40_L5, hd, cond_true, idx_some hg, Option.bind_some, hhas, Bool.not_false, appS 8 (by omega) t [x[k]] (by simp; omega), hws]
        · rw [List.nodup_append]
          exact ⟨I1, by simp, fun a ha b hb e => c (by rw [List.mem_singleton] at hb; rw [← hb, ← e]; exact ha)⟩
        · rw [ht, List.mem_append, List.mem_append, I3 v])
    (fun t I => by simp [F40_L5]) [] ⟨by simp, by simp, by simp⟩
  obtain ⟨y, h1, h2, _, h3⟩ := h
  rw [List.take_length] at h3
  exact ⟨y, h1, h2, h3⟩
theorem f65_val (l : List (BitVec 32)) (h : l.length ≤ 900) : F65 l = some l := by unfold F65; rw [appS 4 (by omega) [] l (by simp; omega)]; rfl
theorem r4_val {n r : Nat} (hn : vals.length = n) (hn6 : n ≤ 6) (hr : 1 ≤ r) (hG : G.length = n) (hU : U.length = n) {K z : List (List Int)} (hK : K.length = n) (hz : z.length = n) (hK6 : ∀ i, i < n → (gr K i).length ≤ 6) {j : Nat} (hj : j < n) :
    ∃ row, whileM (F40_L4 vals U G K (r : Int) (j : Int)) (z.set j (gr K j), 0) = some (.brk (z.set j row)) ∧ row.length ≤ 42 ∧ ∀ v, v ∈ row ↔ v ∈ gr K j ∨ ∃ i, i < n ∧ SS G U r i j = true ∧ v ∈ gr K i := by
  have h := while_ex (body := F40_L4 vals U G K (r : Int) (j : Int)) (fun k (t : List Int) => (z.set j t, (k : Int))) n (fun t => z.set j t)
    (fun k t => t.length ≤ 6 + 6 * k ∧ ∀ v, v ∈ t ↔ v ∈ gr K j ∨ ∃ i, i < k ∧ SS G U r i j = true ∧ v ∈ gr K i)
    (fun k t hk I => by
      obtain ⟨I1, I2⟩ := I
      have hd : decide ((k : Int) < (vals.length : Int)) = true := by rw [decide_eq_true_eq]; omega
      have hws : w64 ((k : Int) + 1) = ((k + 1 : Nat) : Int) := w64_succ hk (by omega)
      have hg := idx_ge 0 (show k < G.length by omega)
      have hu := idx_ge 0#32 (show k < U.length by omega)
      have hkk := idx_ge [] (show k < K.length by omega)
      have hrow : idx (z.set j t) (j : Int) = some t := by rw [idx_ge [] (show j < (z.set j t).length by rw [List.length_set]; omega), ge_set (by omega), if_pos rfl]
      have hap : appl 8 t (gr K k) = some (t ++ gr K k) := appS 8 (by omega) _ _ (by have := hK6 k hk; omega)
      have yes : SS G U r k j = true → (t ++ gr K k).length ≤ 6 + 6 * (k + 1) ∧ ∀ v, v ∈ t ++ gr K k ↔ v ∈ gr K j ∨ ∃ i, i < k + 1 ∧ SS G U r i j = true ∧ v ∈ gr K i := fun c => by
        refine ⟨by have := hK6 k hk; rw [List.length_append]; omega, fun v => ?_⟩
        rw [List.mem_append, I2 v]
        constructor
        · rintro ((q | ⟨i, hi, q⟩) | q)
          · exact .inl q
          · exact .inr ⟨i, by omega, q⟩
          · exact .inr ⟨k, by omega, c, q⟩
        · rintro (q | ⟨i, hi, q1, q2⟩)
          · exact .inl (.inl q)
          · by_cases e : i = k
            · subst e; exact .inr q2
            · exact .inl (.inr ⟨i, by omega, q1, q2⟩)
      have no : SS G U r k j = false → t.length ≤ 6 + 6 * (k + 1) ∧ ∀ v, v ∈ t ↔ v ∈ gr K j ∨ ∃ i, i < k + 1 ∧ SS G U r i j = true ∧ v ∈ gr K i := fun c => by
        refine ⟨by omega, fun v => ?_⟩
        rw [I2 v]
        constructor
        · rintro (q | ⟨i, hi, q⟩)
          · exact .inl q
          · exact .inr ⟨i, by omega, q⟩
        · rintro (q | ⟨i, hi, q1, q2⟩)
          · exact .inl q
          · by_cases e : i = k
            · subst e; rw [c] at q1; cases q1
            · exact .inr ⟨i, by omega, q1, q2⟩
      by_cases c0 : gi G k = 0
      · have b0 : (gi G k == 0) = true := by rw [beq_iff_eq]; exact c0
        refine ⟨t ++ gr K k, ?_, yes (by unfold SS; rw [b0]; rfl)⟩
        simp only [F40_L4, hd, cond_true, hg, Option.bind_some, b0, hkk, hrow, hap, hws, Int.toNat_natCast, List.set_set]
      have b0 : (gi G k == 0) = false := by rw [beq_eq_false_iff_ne]; exact c0
      by_cases c1 : gi G k > (r : Int)
      · have b1 : decide (gi G k > (r : Int)) = true := decide_eq_true c1
        refine ⟨t ++ gr K k, ?_, yes (by unfold SS; rw [b0, b1]; rfl)⟩
        simp only [F40_L4, hd, cond_true, cond_false, hg, Option.bind_some, b0, b1, hkk, hrow, hap, hws, Int.toNat_natCast, List.set_set]
      have b1 : decide (gi G k > (r : Int)) = false := decide_eq_false c1
      by_cases c2 : gi G k = (r : Int)
      · have b2 : (gi G k == (r : Int)) = true := by rw [beq_iff_eq]; exact c2
        have hb : F23 (gw U k) (j : Int) = some ((gw U k).getLsbD j) := bit_val (by omega)
        cases c3 : (gw U k).getLsbD j with
        | true =>
          rw [c3] at hb
          refine ⟨t ++ gr K k, ?_, yes (by unfold SS; rw [b0, b1, b2, c3]; rfl)⟩
          simp only [F40_L4, hd, cond_true, cond_false, hg, hu, Option.bind_some, b0, b1, b2, hb, hkk, hrow, hap, hws, Int.toNat_natCast, List.set_set]
        | false =>
          rw [c3] at hb
          refine ⟨t, ?_, no (by unfold SS; rw [b0, b1, b2, c3]; rfl)⟩
          simp only [F40_L4, hd, cond_true, cond_false, hg, hu, Option.bind_some, b0, b1, b2, hb, hws]
      · have b2 : (gi G k == (r : Int)) = false := by rw [beq_eq_false_iff_ne]; exact c2
        refine ⟨t, ?_, no (by unfold SS; rw [b0, b1, b2]; rfl)⟩
        simp only [F40_L4, hd, cond_true, cond_false, hg, Option.bind_some, b0, b1, b2, hws])
    (fun t I => by simp [F40_L4, hn]) (gr K j) ⟨by have := hK6 j hj; omega, fun v => by simp⟩
  obtain ⟨row, h1, h2, h3⟩ := h
  exact ⟨row, h1, by omega, h3⟩
theorem r3_val {n r : Nat} (hn : vals.length = n) (hn6 : n ≤ 6) (hr : 1 ≤ r) (hG : G.length = n) (hU : U.length = n) {K : List (List Int)} (hK : K.length = n) (hK6 : ∀ i, i < n → (gr K i).length ≤ 6) :
    ∃ y, whileM (F40_L3 vals U G K (r : Int)) (List.replicate n [], 0) = some (.brk y) ∧ y.length = n ∧ ∀ j, j < n → (gr y j).Nodup ∧ ∀ v, v ∈ gr y j ↔ v ∈ gr K j ∨ ∃ i, i < n ∧ SS G U r i j = true ∧ v ∈ gr K i := by
  have h := while_ex (body := F40_L3 vals U G K (r : Int)) (fun k (t : List (List Int)) => (t, (k : Int))) n (fun t => t)
    (fun k t => t.length = n ∧ ∀ j, j < k → (gr t j).Nodup ∧ ∀ v, v ∈ gr t j ↔ v ∈ gr K j ∨ ∃ i, i < n ∧ SS G U r i j = true ∧ v ∈ gr K i)
    (fun k t hk I => by
      obtain ⟨I1, I2⟩ := I
      have hd : decide ((k : Int) < (vals.length : Int)) = true := by rw [decide_eq_true_eq]; omega
      have hws : w64 ((k : Int) + 1) = ((k + 1 : Nat) : Int) := w64_succ hk (by omega)
      have hkk := idx_ge [] (show k < K.length by omega)
      have hap : appl 8 ([] : List Int) (gr K k) = some (gr K k) := by rw [appS 8 (by omega) _ _ (by have := hK6 k hk; simp; omega)]; rfl
      obtain ⟨row, a1, a2, a3⟩ := r4_val hn hn6 hr hG hU hK I1 hK6 hk
      obtain ⟨y, b1, b2, b3⟩ := l5_val row (by omega)
      have hrow : idx (t.set k row) (k : Int) = some row := by rw [idx_ge [] (show k < (t.set k row).length by rw [List.length_set]; omega), ge_set (by omega), if_pos rfl]
      refine ⟨t.set k y, ?_, by simp [I1], fun j hj => ?_⟩
      · simp only [F40_L3, hd, cond_true, hkk, Option.bind_some, hap, idx_ge [] (show k < t.length by omega), a1, Ctl.on, Int.toNat_natCast, hrow, b1, List.set_set, hws]
      · simp only [gr, ge_set (show k < t.length by omega)]
        by_cases e : j = k
        · subst e
          rw [if_pos rfl]
          exact ⟨b2, fun v => by rw [b3 v, a3 v]⟩
        · rw [if_neg e]; exact I2 j (by omega))
    (fun t I => by simp [F40_L3, hn]) (List.replicate n []) ⟨by simp, fun j hj => by omega⟩
  exact h

/-! Round by round. -/
structure RI (vals : List Int) (G : List Int) (r : Nat) (W : List (BitVec 32)) (th : BitVec 32) (K : List (List Int)) : Prop where
  lw : W.length = vals.length
  lk : K.length = vals.length
  th : ∀ b, th.getLsbD b = true ↔ b < vals.length ∧ (gi G b = 0 ∨ gi G b ≥ (r : Int))
  own : ∀ j, j < vals.length → (gw W j).getLsbD j = true
  lim : ∀ j, j < vals.length → ∀ b, (gw W j).getLsbD b = true → b < vals.length
  nd : ∀ j, j < vals.length → (gr K j).Nodup
  kn : ∀ j, j < vals.length → ∀ v, v ∈ gr K j ↔ ∃ b, b < vals.length ∧ (gw W j).getLsbD b = true ∧ gi vals b = v
theorem RI.six {r : Nat} {W : List (BitVec 32)} {th : BitVec 32} {K : List (List Int)} (f : Fine vals cs R) (I : RI vals G r W th K) : ∀ i, i < vals.length → (gr K i).length ≤ 6 := fun i hi => by
  have := nodup_le (I.nd i hi) (m := vals) fun x hx => by
    obtain ⟨b, hb, _, e⟩ := (I.kn i hi x).1 hx
    rw [← e]; exact List.mem_of_getElem? (get_ge 0 hb)
  have := f.n6; omega
theorem ALL_bit {n : Nat} (hn : n ≤ 6) {b : Nat} (hb : b < n) : (ALL n).getLsbD b = true := by
  unfold ALL; rw [ones_bit n (by omega) b (by omega), decide_eq_true hb]
theorem rep_val {n : Nat} (h1 : 1 ≤ n) (h6 : n ≤ 6) (x : BitVec 32) : F64 [x] (n : Int) = some (List.replicate n x) := by
  have e1 : u64 (([x] : List (BitVec 32)).length : Int) = 1 := by rfl
  have e2 : u64 (n : Int) = n := u64_of (by omega) (by omega)
  have e3 : w64 (n : Int) = n := w64_of (by omega) (by omega)
  have hm : mkl (n : Int) 4 (0 : BitVec 32) = some (List.replicate n 0#32) := by unfold mkl; rw [if_pos ⟨by omega, by omega, by omega⟩]; simp
  have hd : decide ((n : Int) < 0) = false := by rw [decide_eq_false_iff_not]; omega
  have hd2 : decide ((n : Int) > 9223372036854775807) = false := by rw [decide_eq_false_iff_not]; omega
  have hf : ∀ n : Nat, n < 7 → F86 1 (n : Int) = some (0, (n : Int)) := by
    intro n hn
    have : n = 0 ∨ n = 1 ∨ n = 2 ∨ n = 3 ∨ n = 4 ∨ n = 5 ∨ n = 6 := by omega
    rcases this with rfl | rfl | rfl | rfl | rfl | rfl | rfl <;> rfl
  have key : whileM F64_L0 ((cpy (List.replicate n (0#32)) (0 : Int).toNat [x]), ((min ([x] : List (BitVec 32)).length ((List.replicate n (0#32)).length - (0 : Int).toNat) : Nat) : Int)) = some (.brk (List.replicate n x)) := by
    have : n = 1 ∨ n = 2 ∨ n = 3 ∨ n = 4 ∨ n = 5 ∨ n = 6 := by omega
    rcases this with rfl | rfl | rfl | rfl | rfl | rfl
    · exact whileM_brk (by rfl)
    · exact (whileM_nxt (s' := ([x, x], 2)) (by rfl)).trans (whileM_brk (by rfl))
    · exact (whileM_nxt (s' := ([x, x, 0#32], 2)) (by rfl)).trans ((whileM_nxt (s' := ([x, x, x], 3)) (by rfl)).trans (whileM_brk (by rfl)))
    · exact (whileM_nxt (s' := ([x, x, 0#32, 0#32], 2)) (by rfl)).trans ((whileM_nxt (s' := ([x, x, x, x], 4)) (by rfl)).trans (whileM_brk (by rfl)))
    · exact (whileM_nxt (s' := ([x, x, 0#32, 0#32, 0#32], 2)) (by rfl)).trans ((whileM_nxt (s' := ([x, x, x, x, 0#32], 4)) (by rfl)).trans ((whileM_nxt (s' := ([x, x, x, x, x], 5)) (by rfl)).trans (whileM_brk (by rfl))))
    · exact (whileM_nxt (s' := ([x, x, 0#32, 0#32, 0#32, 0#32], 2)) (by rfl)).trans ((whileM_nxt (s' := ([x, x, x, x, 0#32, 0#32], 4)) (by rfl)).trans ((whileM_nxt (s' := ([x, x, x, x, x, x], 6)) (by rfl)).trans (whileM_brk (by rfl))))
  unfold F64
  simp only [e1, e2, hf n (by omega), hd, cond_false, Option.bind_some, hd2, Bool.or_false, e3, hm, key, Ctl.on]
  rfl
theorem rounds (f : Fine vals cs R) (hl : cs.length ≤ 9223372036854775807) (g : CF vals cs G U) (Rn : Nat) (hR : R = (Rn : Int)) : ∀ m r W th K, r + m = Rn + 1 → 1 ≤ r → RI vals G r W th K →
    ∃ W' th' K', whileM (F38_L1 vals cs R vals.length) (W, th, (r : Int)) = some (.brk (W', th')) ∧ whileM (F40_L2 vals R U G) (K, (r : Int)) = some (.brk K') ∧ RI vals G (Rn + 1) W' th' K' := by
  intro m
  induction m with
  | zero =>
    intro r W th K hr h1 I
    obtain rfl : r = Rn + 1 := by omega
    have hd : decide (((Rn + 1 : Nat) : Int) ≤ R) = false := by rw [decide_eq_false_iff_not]; omega
    exact ⟨W, th, K, whileM_brk (by simp only [F38_L1, hd, cond_false]), whileM_brk (by simp only [F40_L2, hd, cond_false]), I⟩
  | succ m ih =>
    intro r W th K hr h1 I
    have hd : decide ((r : Int) ≤ R) = true := by rw [decide_eq_true_eq]; omega
    have hn1 := f.n1
    have hn6 := f.n6
    have hr8 := f.r8
    have hws : w64 ((r : Int) + 1) = ((r + 1 : Nat) : Int) := by rw [w64i (by omega) (by omega)]; push_cast; rfl
    obtain ⟨⟨Y, th'⟩, a1, a2, a3, a4⟩ := l2_val f hl g h1 th
    obtain ⟨W', b1, b2, b3⟩ := l3_val hn6 (th := th) I.lw a2
    obtain ⟨K', c1, c2, c3⟩ := r3_val rfl hn6 h1 g.lg g.lu I.lk (I.six f)
    have hss : ∀ i j, i < vals.length → j < vals.length → mkAnd th Y i j = SS G U r i j := fun i j hi hj => by
      unfold mkAnd SS
      have ht : th.getLsbD i = decide (gi G i = 0 ∨ gi G i ≥ (r : Int)) := by
        rw [Bool.eq_iff_iff, I.th i, decide_eq_true_eq]; exact ⟨fun q => q.2, fun q => ⟨hi, q⟩⟩
      have hy := a3 i hi
      rw [ht, hy]
      by_cases q0 : gi G i = 0
      · rw [if_neg (by omega), ALL_bit hn6 hj, q0]; simp
      · by_cases q1 : gi G i > (r : Int)
        · rw [if_neg (by omega), ALL_bit hn6 hj]
          have : gi G i ≥ (r : Int) := by omega
          simp [q1, this]
        · by_cases q2 : gi G i = (r : Int)
          · rw [if_pos q2]
            have : (gi G i == (r : Int)) = true := by rw [beq_iff_eq]; exact q2
            have q3 : gi G i ≥ (r : Int) := by omega
            have q4 : (gi G i == 0) = false := by rw [beq_eq_false_iff_ne]; exact q0
            rw [this, q4, decide_eq_true (Or.inr q3), decide_eq_false q1]; simp
          · rw [if_neg q2]
            have : (gi G i == (r : Int)) = false := by rw [beq_eq_false_iff_ne]; exact q2
            have q4 : (gi G i == 0) = false := by rw [beq_eq_false_iff_ne]; exact q0
            rw [this, q4, decide_eq_false (show ¬ (gi G i = 0 ∨ gi G i ≥ (r : Int)) by omega), decide_eq_false q1]; simp
    have I' : RI vals G (r + 1) W' th' K' := by
      refine ⟨b2, c2, fun b => ?_, fun j hj => (b3 j hj j).2 (.inl (I.own j hj)), fun j hj b hb => ?_, fun j hj => (c3 j hj).1, fun j hj v => ?_⟩
      · rw [a4 b, Bool.and_eq_true, I.th b]
        constructor
        · rintro ⟨⟨q1, q2⟩, q3⟩
          rw [hit_iff f g h1 q1] at q3
          simp at q3
          exact ⟨q1, by push_cast; omega⟩
        · rintro ⟨q1, q2⟩
          push_cast at q2
          refine ⟨⟨q1, by omega⟩, ?_⟩
          rw [hit_iff f g h1 q1, decide_eq_false (show ¬ gi G b = (r : Int) by omega)]; rfl
      · rcases (b3 j hj b).1 hb with q | ⟨i, hi, _, q⟩
        · exact I.lim j hj b q
        · exact I.lim i hi b q
      · rw [(c3 j hj).2 v]
        constructor
        · rintro (q | ⟨i, hi, q1, q2⟩)
          · obtain ⟨b, hb, e1, e2⟩ := (I.kn j hj v).1 q
            exact ⟨b, hb, (b3 j hj b).2 (.inl e1), e2⟩
          · obtain ⟨b, hb, e1, e2⟩ := (I.kn i hi v).1 q2
            exact ⟨b, hb, (b3 j hj b).2 (.inr ⟨i, hi, by rw [hss i j hi hj]; exact q1, e1⟩), e2⟩
        · rintro ⟨b, hb, e1, e2⟩
          rcases (b3 j hj b).1 e1 with q | ⟨i, hi, q1, q2⟩
          · exact .inl ((I.kn j hj v).2 ⟨b, hb, q, e2⟩)
          · exact .inr ⟨i, hi, by rw [← hss i j hi hj]; exact q1, (I.kn i hi v).2 ⟨b, hb, q2, e2⟩⟩
    obtain ⟨W2, th2, K2, d1, d2, d3⟩ := ih (r + 1) W' th' K' (by omega) (by omega) I'
    refine ⟨W2, th2, K2, ?_, ?_, d3⟩
    · rw [whileM_nxt (s' := (W', th', ((r + 1 : Nat) : Int)))]
      · exact d1
      · have ar := rep_val hn1 hn6 (ALL vals.length)
        unfold ALL at ar a1
        simp only [F38_L1, hd, cond_true, ar, Option.bind_some, a1, Ctl.on, f65_val W (by rw [I.lw]; omega), b1, hws]
    · rw [whileM_nxt (s' := (K', ((r + 1 : Nat) : Int)))]
      · exact d2
      · have hm : mkl (vals.length : Int) 24 ([] : List Int) = some (List.replicate vals.length []) := by unfold mkl; rw [if_pos ⟨by omega, by omega, by omega⟩]; simp
        simp only [F40_L2, hd, cond_true, hm, Option.bind_some, c1, Ctl.on, hws]

/-! The end. -/
def isMin (S : List Int) (m : Int) : Prop := m ∈ S ∧ ∀ x ∈ S, m ≤ x
theorem isMin.eq {S : List Int} {a b : Int} (h : isMin S a) (h' : isMin S b) : a = b := by
  have := h.2 b h'.1; have := h'.2 a h.1; omega
def Out (n : Nat) (G : List Int) (K : List (List Int)) (o : List Int) : Prop := o.length = n ∧ ∀ i, i < n → if gi G i = 0 then isMin (gr K i) (gi o i) else gi o i = 0
theorem Out.eq {n : Nat} {K : List (List Int)} {o o' : List Int} (h : Out n G K o) (h' : Out n G K o') : o = o' := by
  refine List.ext_getElem? fun i => ?_
  by_cases hi : i < n
  · rw [get_ge 0 (show i < o.length by rw [h.1]; exact hi), get_ge 0 (show i < o'.length by rw [h'.1]; exact hi)]
    have a := h.2 i hi
    have b := h'.2 i hi
    by_cases c : gi G i = 0
    · rw [if_pos c] at a b; exact congrArg some (a.eq b)
    · rw [if_neg c] at a b; simp only [gi] at a b; rw [a, b]
  · rw [List.getElem?_eq_none (by rw [h.1]; omega), List.getElem?_eq_none (by rw [h'.1]; omega)]
theorem e6_val {n : Nat} (hn : vals.length = n) (hn6 : n ≤ 6) {w : BitVec 32} {S : List Int} (hS : ∀ v, v ∈ S ↔ ∃ b, b < n ∧ w.getLsbD b = true ∧ gi vals b = v) {i : Nat} (hi : i < n) {o : List Int} (ho : o.length = n) (hw : w.getLsbD i = true) :
    ∃ m, whileM (F38_L6 vals (i : Int) w) (o.set i (gi vals i), 0) = some (.brk (o.set i m)) ∧ isMin S m := by
  have h := while_ex (body := F38_L6 vals (i : Int) w) (fun k (t : Int) => (o.set i t, (k : Int))) n (fun t => o.set i t)
    (fun k t => t ∈ S ∧ ∀ b, b < k → w.getLsbD b = true → t ≤ gi vals b)
    (fun k t hk I => by
      obtain ⟨I1, I2⟩ := I
      have hd : decide ((k : Int) < (vals.length : Int)) = true := by rw [decide_eq_true_eq]; omega
      have hws : w64 ((k : Int) + 1) = ((k + 1 : Nat) : Int) := w64_succ hk (by omega)
      have hrow : idx (o.set i t) (i : Int) = some t := by rw [idx_ge 0 (show i < (o.set i t).length by rw [List.length_set]; omega), ge_set (by omega), if_pos rfl]
      have hv := idx_ge 0 (show k < vals.length by omega)
      cases c : w.getLsbD k with
      | true =>
        have hm : mn t (gi vals k) ≤ t ∧ mn t (gi vals k) ≤ gi vals k ∧ (mn t (gi vals k) = t ∨ mn t (gi vals k) = gi vals k) := by unfold mn; split <;> omega
        refine ⟨mn t (gi vals k), ?_, ?_, fun b hb q => ?_⟩
        · simp only [F38_L6, hd, cond_true, hv, Option.bind_some, shc_nat, bit_is, c, hrow, Int.toNat_natCast, List.set_set, hws]
        · rcases hm.2.2 with q | q
          · rw [q]; exact I1
          · rw [q]; exact (hS _).2 ⟨k, hk, c, rfl⟩
        · by_cases e : b = k
          · subst e; exact hm.2.1
          · have := I2 b (by omega) q; omega
      | false =>
        refine ⟨t, ?_, I1, fun b hb q => ?_⟩
        · simp only [F38_L6, hd, cond_true, cond_false, hv, Option.bind_some, shc_nat, bit_is, c, hws]
        · by_cases e : b = k
          · subst e; rw [c] at q; cases q
          · exact I2 b (by omega) q)
    (fun t I => by simp [F38_L6, hn]) (gi vals i) ⟨(hS _).2 ⟨i, hi, hw, rfl⟩, fun b hb => by omega⟩
  obtain ⟨m, h1, h2, h3⟩ := h
  refine ⟨m, h1, h2, fun x hx => ?_⟩
  obtain ⟨b, hb, e1, e2⟩ := (hS x).1 hx
  rw [← e2]; exact h3 b hb e1
theorem e5_val {n r : Nat} (hn : vals.length = n) (hn6 : n ≤ 6) {W : List (BitVec 32)} {th : BitVec 32} {K : List (List Int)} (I : RI vals G r W th K) (hth : ∀ b, th.getLsbD b = true ↔ b < n ∧ gi G b = 0) :
    ∃ o, whileM (F38_L5 vals W th) (List.replicate n 0, 0) = some (.brk o) ∧ Out n G K o := by
  have hlw := I.lw
  have h := while_ex (body := F38_L5 vals W th) (fun k (t : List Int) => (t, (k : Int))) n (fun t => t)
    (fun k t => t.length = n ∧ ∀ i, i < n → if i < k ∧ gi G i = 0 then isMin (gr K i) (gi t i) else gi t i = 0)
    (fun k t hk Iv => by
      obtain ⟨I1, I2⟩ := Iv
      have hd : decide ((k : Int) < (W.length : Int)) = true := by rw [decide_eq_true_eq]; omega
      have hws : w64 ((k : Int) + 1) = ((k + 1 : Nat) : Int) := w64_succ hk (by omega)
      have hw := idx_ge 0#32 (show k < W.length by omega)
      have hv := idx_ge 0 (show k < vals.length by omega)
      have ht := idx_ge 0 (show k < t.length by omega)
      by_cases c : gi G k = 0
      · have hb : th.getLsbD k = true := (hth k).2 ⟨hk, c⟩
        obtain ⟨m, a1, a2⟩ := e6_val hn hn6 (w := gw W k) (S := gr K k) (fun v => by rw [← hn]; exact I.kn k (by omega) v) hk I1 (I.own k (by omega))
        refine ⟨t.set k m, ?_, by simp [I1], fun i hi => ?_⟩
        · simp only [F38_L5, hd, cond_true, cond_false, hw, Option.bind_some, shc_nat, bit_no, hb, Bool.not_true, hv, ht, Int.toNat_natCast, a1, Ctl.on, hws]
        · simp only [gi, ge_set (show k < t.length by omega)]
          by_cases e : i = k
          · subst e; rw [if_pos ⟨by omega, c⟩, if_pos rfl]; exact a2
          · rw [if_neg e]
            have := I2 i hi
            by_cases q : i < k
            · simpa [q, show i < k + 1 by omega] using this
            · simpa [q, show ¬ i < k + 1 by omega] using this
      · have hb : th.getLsbD k = false := by rw [Bool.eq_false_iff]; exact fun q => c ((hth k).1 q).2
        refine ⟨t, ?_, I1, fun i hi => ?_⟩
        · simp only [F38_L5, hd, cond_true, hw, Option.bind_some, shc_nat, bit_no, hb, Bool.not_false, hws]
        · have := I2 i hi
          by_cases e : i = k
          · subst e; rw [if_neg (fun q => c q.2)]; rwa [if_neg (by omega)] at this
          · by_cases q : i < k
            · simpa [q, show i < k + 1 by omega] using this
            · simpa [q, show ¬ i < k + 1 by omega] using this)
    (fun t I => by simp [F38_L5, hlw, hn]) (List.replicate n 0) ⟨by simp, fun i hi => by rw [if_neg (by omega)]; exact ge_rep 0 0 hi⟩
  obtain ⟨o, h1, h2, h3⟩ := h
  refine ⟨o, h1, h2, fun i hi => ?_⟩
  have := h3 i hi
  simpa [hi] using this
theorem e7_val {n : Nat} {S : List Int} (h6 : S.length ≤ 6) {i : Nat} (hi : i < n) {o : List Int} (ho : o.length = n) {v0 : Int} (h0 : v0 ∈ S) :
    ∃ m, whileM (F40_L7 (i : Int) S) (o.set i v0, 0) = some (.brk (o.set i m)) ∧ isMin S m := by
  have h := while_ex (body := F40_L7 (i : Int) S) (fun k (t : Int) => (o.set i t, (k : Int))) S.length (fun t => o.set i t)
    (fun k t => t ∈ S ∧ ∀ b, b < k → t ≤ gi S b)
    (fun k t hk I => by
      obtain ⟨I1, I2⟩ := I
      have hd : decide ((k : Int) < (S.length : Int)) = true := by rw [decide_eq_true_eq]; omega
      have hws : w64 ((k : Int) + 1) = ((k + 1 : Nat) : Int) := w64_succ hk (by omega)
      have hrow : idx (o.set i t) (i : Int) = some t := by rw [idx_ge 0 (show i < (o.set i t).length by rw [List.length_set]; omega), ge_set (by omega), if_pos rfl]
      have hv := idx_ge 0 hk
      by_cases c : gi S k < t
      · have b : decide (gi S k < t) = true := decide_eq_true c
        refine ⟨gi S k, ?_, List.mem_of_getElem? (get_ge 0 hk), fun b hb => ?_⟩
        · simp only [F40_L7, hd, cond_true, hv, Option.bind_some, hrow, b, Int.toNat_natCast, List.set_set, hws]
        · by_cases e : b = k
          · subst e; exact Int.le_refl _
          · have := I2 b (by omega); omega
      · have b : decide (gi S k < t) = false := decide_eq_false c
        refine ⟨t, ?_, I1, fun b hb => ?_⟩
        · simp only [F40_L7, hd, cond_true, cond_false, hv, Option.bind_some, hrow, b, hws]
        · by_cases e : b = k
          · subst e; omega
          · exact I2 b (by omega))
    (fun t I => by simp [F40_L7]) v0 ⟨h0, fun b hb => by omega⟩
  obtain ⟨m, h1, h2, h3⟩ := h
  refine ⟨m, h1, h2, fun x hx => ?_⟩
  obtain ⟨b, hb⟩ := List.getElem?_of_mem hx
  have hbl := lt_of_get hb
  have := h3 b hbl
  rw [get_ge 0 hbl] at hb
  simp only [gi] at this
  have := Option.some.inj hb
  omega
theorem r6_val {n r : Nat} (f : Fine vals cs R) (g : CF vals cs G U) (hn : vals.length = n) (hn6 : n ≤ 6) {W : List (BitVec 32)} {th : BitVec 32} {K : List (List Int)} (I : RI vals G r W th K) :
    ∃ o th', whileM (F40_L6 vals G K) (List.replicate n 0, 0#32, 0) = some (.brk (o, th')) ∧ Out n G K o ∧ ∀ b, th'.getLsbD b = true ↔ b < n ∧ gi G b = 0 := by
  have hlk := I.lk
  have hlg := g.lg
  have h := while_ex (body := F40_L6 vals G K) (fun k (t : List Int × BitVec 32) => (t.1, t.2, (k : Int))) n (fun t => t)
    (fun k t => t.1.length = n ∧ (∀ i, i < n → if i < k ∧ gi G i = 0 then isMin (gr K i) (gi t.1 i) else gi t.1 i = 0) ∧ ∀ b, t.2.getLsbD b = true ↔ b < k ∧ gi G b = 0)
    (fun k t hk Iv => by
      obtain ⟨I1, I2, I3⟩ := Iv
      have hd : decide ((k : Int) < (vals.length : Int)) = true := by rw [decide_eq_true_eq]; omega
      have hws : w64 ((k : Int) + 1) = ((k + 1 : Nat) : Int) := w64_succ hk (by omega)
      have hg := idx_ge 0 (show k < G.length by omega)
      have hkk := idx_ge [] (show k < K.length by omega)
      have ht := idx_ge 0 (show k < t.1.length by omega)
      by_cases c : gi G k = 0
      · have hb : decide (gi G k > 0) = false := decide_eq_false (by omega)
        have hmem : gi vals k ∈ gr K k := (I.kn k (by omega) _).2 ⟨k, by omega, I.own k (by omega), rfl⟩
        have hpos : 0 < (gr K k).length := List.length_pos_of_mem hmem
        have hz := idx_ge 0 hpos
        have hz' : idx (gr K k) 0 = some (gi (gr K k) 0) := hz
        obtain ⟨m, a1, a2⟩ := e7_val (n := n) (I.six f k (by omega)) hk I1 (List.mem_of_getElem? (get_ge 0 hpos))
        have hand : t.2 &&& (1#32 <<< k) = 0#32 := by
          apply BitVec.eq_of_getLsbD_eq
          intro b hb
          rw [BitVec.getLsbD_and, bit_one (by omega)]
          by_cases e : b = k
          · subst e
            have : t.2.getLsbD b = false := by rw [Bool.eq_false_iff]; intro q; have := ((I3 b).1 q).1; omega
            simp [this]
          · simp [e]
        refine ⟨(t.1.set k m, t.2 + (1#32 <<< k)), ?_, by simp [I1], fun i hi => ?_, fun b => ?_⟩
        · simp only [F40_L6, hd, cond_true, cond_false, hg, Option.bind_some, hb, hkk, hz', ht, Int.toNat_natCast, a1, Ctl.on, u64_nat (show k ≤ 18446744073709551615 by omega), hws]
        · simp only [gi, ge_set (show k < t.1.length by omega)]
          by_cases e : i = k
          · subst e; rw [if_pos ⟨by omega, c⟩, if_pos rfl]; exact a2
          · rw [if_neg e]
            have := I2 i hi
            by_cases q : i < k
            · simpa [q, show i < k + 1 by omega] using this
            · simpa [q, show ¬ i < k + 1 by omega] using this
        · simp only
          rw [BitVec.add_eq_or_of_and_eq_zero _ _ hand, BitVec.getLsbD_or, bit_one (by omega), Bool.or_eq_true, I3 b, decide_eq_true_eq]
          constructor
          · rintro (⟨q1, q2⟩ | rfl)
            · exact ⟨by omega, q2⟩
            · exact ⟨by omega, c⟩
          · rintro ⟨q1, q2⟩
            by_cases e : b = k
            · exact .inr e
            · exact .inl ⟨by omega, q2⟩
      · have hpos : gi G k > 0 := by
          rcases g.non k (by omega) with q | ⟨d, hd2, e⟩
          · omega
          · have := (g.got d hd2).1
            rw [e, Int.toNat_natCast] at this
            have := (f.ro d hd2).1
            omega
        have hb : decide (gi G k > 0) = true := decide_eq_true hpos
        refine ⟨t, ?_, I1, fun i hi => ?_, fun b => ?_⟩
        · simp only [F40_L6, hd, cond_true, hg, Option.bind_some, hb, hws]
        · have := I2 i hi
          by_cases e : i = k
          · subst e; rw [if_neg (fun q => c q.2)]; rwa [if_neg (by omega)] at this
          · by_cases q : i < k
            · simpa [q, show i < k + 1 by omega] using this
            · simpa [q, show ¬ i < k + 1 by omega] using this
        · rw [I3 b]
          constructor
          · rintro ⟨q1, q2⟩; exact ⟨by omega, q2⟩
          · rintro ⟨q1, q2⟩
            by_cases e : b = k
            · subst e; exact absurd q2 c
            · exact ⟨by omega, q2⟩)
    (fun t I => by simp [F40_L6, hn]) (List.replicate n 0, 0#32) ⟨by simp, fun i hi => by rw [if_neg (by omega)]; exact ge_rep 0 0 hi, fun b => by simp⟩
  obtain ⟨⟨o, th'⟩, h1, h2, h3, h4⟩ := h
  refine ⟨o, th', h1, ⟨h2, fun i hi => ?_⟩, h4⟩
  have := h3 i hi
  simpa [hi] using this
theorem l0_val {n : Nat} (hn6 : n ≤ 6) : ∃ W, whileM (F38_L0 (List.replicate n 0)) (List.replicate n 0, 0) = some (.brk W) ∧ W.length = n ∧ ∀ j, j < n → gw W j = 1#32 <<< j := by
  have h := while_ex (body := F38_L0 (List.replicate n 0)) (fun k (t : List (BitVec 32)) => (t, (k : Int))) n (fun t => t)
    (fun k t => t.length = n ∧ ∀ j, j < k → gw t j = 1#32 <<< j)
    (fun k t hk I => by
      obtain ⟨I1, I2⟩ := I
      have hd : decide ((k : Int) < ((List.replicate n (0 : BitVec 32)).length : Int)) = true := by rw [decide_eq_true_eq]; simp; omega
      have hws : w64 ((k : Int) + 1) = ((k + 1 : Nat) : Int) := w64_succ hk (by omega)
      refine ⟨t.set k (1#32 <<< k), ?_, by simp [I1], fun j hj => ?_⟩
      · simp only [F38_L0, hd, cond_true, shc_nat, Option.bind_some, idx_ge 0#32 (show k < t.length by omega), Int.toNat_natCast, hws]
      · simp only [gw, ge_set (show k < t.length by omega)]
        by_cases e : j = k
        · subst e; rw [if_pos rfl]
        · rw [if_neg e]; exact I2 j (by omega))
    (fun t I => by simp [F38_L0]) (List.replicate n 0) ⟨by simp, fun j hj => by omega⟩
  exact h
theorem r0_val {n : Nat} (hn : vals.length = n) (hn6 : n ≤ 6) : ∃ K, whileM (F40_L0 vals) (List.replicate n [], 0) = some (.brk K) ∧ K.length = n ∧ ∀ j, j < n → gr K j = [gi vals j] := by
  have h := while_ex (body := F40_L0 vals) (fun k (t : List (List Int)) => (t, (k : Int))) n (fun t => t)
    (fun k t => t.length = n ∧ ∀ j, j < k → gr t j = [gi vals j])
    (fun k t hk I => by
      obtain ⟨I1, I2⟩ := I
      have hd : decide ((k : Int) < (vals.length : Int)) = true := by rw [decide_eq_true_eq]; omega
      have hws : w64 ((k : Int) + 1) = ((k + 1 : Nat) : Int) := w64_succ hk (by omega)
      refine ⟨t.set k [gi vals k], ?_, by simp [I1], fun j hj => ?_⟩
      · simp only [F40_L0, hd, cond_true, Option.bind_some, idx_ge 0 (show k < vals.length by omega), idx_ge [] (show k < t.length by omega), Int.toNat_natCast, hws]
      · simp only [gr, ge_set (show k < t.length by omega)]
        by_cases e : j = k
        · subst e; rw [if_pos rfl]
        · rw [if_neg e]; exact I2 j (by omega))
    (fun t I => by simp [F40_L0, hn]) (List.replicate n []) ⟨by simp, fun j hj => by omega⟩
  exact h
theorem ints_self (l : List Int) (hl : l.length ≤ 9223372036854775807) : F29 l l = some true := by
  have h : whileM (F29_L0 l l) 0 = some (found () (scan (fun _ (_ : Int) => (none : Option Bool)) l 0)) := by
    refine while_scan hl _ (fun k e h => ?_) (by simp [F29_L0])
    have hk := lt_of_get h
    simp [F29_L0, idx_some h, hk, going]
  have hn : scan (fun _ (_ : Int) => (none : Option Bool)) l 0 = none := scan_none.2 fun _ _ _ => rfl
  unfold F29
  rw [h, hn]
  simp [found, Ctl.on]
theorem both (f : Fine vals cs R) (hl : cs.length ≤ 9223372036854775807) (h63 : F63 vals cs R = some 0) : ∃ o th, F38 vals cs R = some (o, th, 0) ∧ F40 vals cs R = some (o, th) ∧ o.length ≤ 6 := by
  obtain ⟨n, hn⟩ : ∃ n, vals.length = n := ⟨_, rfl⟩
  have hn6 := f.n6
  obtain ⟨⟨U, G⟩, g1, g2⟩ := l1_val f hl
  obtain ⟨W, w1, w2, w3⟩ := l0_val (n := vals.length) f.n6
  obtain ⟨K, k1, k2, k3⟩ := r0_val (vals := vals) rfl f.n6
  obtain ⟨Rn, hR⟩ : ∃ Rn : Nat, R = (Rn : Int) := ⟨R.toNat, by have := f.r0; omega⟩
  have hG : ∀ b, b < vals.length → gi G b = 0 ∨ (1 ≤ gi G b ∧ gi G b ≤ R) := fun b hb => by
    rcases g2.non b hb with q | ⟨d, hd2, e⟩
    · exact .inl q
    · have h1 := (g2.got d hd2).1
      rw [e, Int.toNat_natCast] at h1
      have h2 := f.ro d hd2
      right
      simp only at h1
      omega
  have I : RI vals G 1 W (ALL vals.length) K := by
    refine ⟨w2, k2, fun b => ?_, fun j hj => ?_, fun j hj b hb => ?_, fun j hj => ?_, fun j hj v => ?_⟩
    · constructor
      · intro q
        have hb : b < vals.length := by
          by_cases hb : b < 32
          · unfold ALL at q; rw [ones_bit _ (by omega) b hb] at q; simpa using q
          · rw [BitVec.getLsbD_of_ge _ _ (by omega)] at q; cases q
        refine ⟨hb, ?_⟩
        have := hG b hb; omega
      · rintro ⟨hb, _⟩; exact ALL_bit hn6 hb
    · rw [w3 j hj, bit_one (by omega)]; simp
    · rw [w3 j hj, bit_one (by omega)] at hb; simp at hb; omega
    · rw [k3 j hj]; simp
    · rw [k3 j hj, List.mem_singleton]
      constructor
      · rintro rfl; exact ⟨j, hj, by rw [w3 j hj, bit_one (by omega)]; simp, rfl⟩
      · rintro ⟨b, hb, e1, e2⟩
        rw [w3 j hj, bit_one (by omega)] at e1
        simp at e1; rw [← e2, e1]
  obtain ⟨W', th', K', a1, a2, I'⟩ := rounds f hl g2 Rn hR Rn 1 W (ALL vals.length) K (by omega) (by omega) I
  have hth : ∀ b, th'.getLsbD b = true ↔ b < vals.length ∧ gi G b = 0 := fun b => by
    rw [I'.th b]
    constructor
    · rintro ⟨hb, q⟩; have := hG b hb; push_cast at q; exact ⟨hb, by omega⟩
    · rintro ⟨hb, q⟩; exact ⟨hb, .inl q⟩
  obtain ⟨o, b1, b2⟩ := e5_val rfl hn6 I' hth
  obtain ⟨o', t2, c1, c2, c3⟩ := r6_val f g2 rfl hn6 I'
  obtain rfl := b2.eq c2
  have ht : th' = t2 := by
    apply BitVec.eq_of_getLsbD_eq
    intro b hb
    rw [Bool.eq_iff_iff, hth b, c3 b]
  subst ht
  have m1 : mkl (vals.length : Int) 4 (0 : BitVec 32) = some (List.replicate vals.length 0#32) := by unfold mkl; rw [if_pos ⟨by omega, by omega, by omega⟩]; simp
  have m2 : mkl (vals.length : Int) 8 (0 : Int) = some (List.replicate vals.length 0) := by unfold mkl; rw [if_pos ⟨by omega, by omega, by omega⟩]; simp
  have m3 : mkl (vals.length : Int) 24 ([] : List Int) = some (List.replicate vals.length []) := by unfold mkl; rw [if_pos ⟨by omega, by omega, by omega⟩]; simp
  refine ⟨o, th', ?_, ?_, by rw [b2.1]; exact hn6⟩
  · have w1' : whileM (F38_L0 (List.replicate vals.length 0#32)) (List.replicate vals.length 0#32, 0) = some (.brk W) := w1
    have a1' : whileM (F38_L1 vals cs R vals.length) (W, (1#32 <<< vals.length) - 1#32, 1) = some (.brk (W', th')) := a1
    unfold F38
    simp only [h63, Option.bind_some, bne_self_eq_false, cond_false, shc_nat, m1, w1', Ctl.on, a1', m2, b1]
  · have a2' : whileM (F40_L2 vals R U G) (K, 1) = some (.brk K') := a2
    unfold F40
    simp only [m3, m2, m1, Option.bind_some, k1, Ctl.on, g1, a2', c1]
end
theorem law_FloodPlays (a0 : List Int) (_ : a0.length ≤ 9223372036854775807) (_ : ∀ x ∈ a0, i64 x) (a1 : List Cr) (hl : a1.length ≤ 9223372036854775807) (_ : ∀ x ∈ a1, i64 x.1 ∧ i64 x.2.1 ∧ True) (a2 : Int) (_ : i64 a2) : F13 a0 a1 a2 = some true := by
  obtain ⟨r, h1, h2, h3⟩ := check (vals := a0) (cs := a1) (R := a2) hl
  unfold F13
  by_cases c : r = 0
  · subst c
    obtain ⟨o, th, p1, p2, p3⟩ := both (h3 rfl) hl h1
    simp only [p1, h2, p2, Option.bind_some, bne_self_eq_false, cond_false, beq_self_eq_true, cond_true, ints_self o (by omega), Bool.and_true]
  · have hb : (r != 0) = true := by rw [bne_iff_ne]; exact c
    have h38 : F38 a0 a1 a2 = some ([], 0#32, r) := by
      unfold F38
      simp only [h1, Option.bind_some, hb, cond_true]
    simp only [h38, h2, Option.bind_some, hb, cond_true]
    simp
end Go.Proofs.Ytdjmlbjkendobaa
