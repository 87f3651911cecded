/-
  The plain law of CutIs.
-/
import Derived.Test.YtmfidlalejdikaaPRunAgains
namespace Go.Proofs.Ytmfidlalejdikaa
open Go Go.Bk
set_option linter.unusedVariables false
set_option linter.unusedSimpArgs false

/-- Whose an event is. -/
def pr (l : List Ev) (m : Nat) : Nat := match l[m]? with | some e => e.1.toNat | none => 0
/-- How many of one's events stand ahead of place k. -/
def cnp (l : List Ev) (p k : Nat) : Nat := (l.take k).countP (fun e => e.1.toNat == p)
theorem cnp_succ {l : List Ev} {p k : Nat} {e : Ev} (h : l[k]? = some e) : cnp l p (k + 1) = cnp l p k + (if e.1.toNat = p then 1 else 0) := by
  unfold cnp; rw [List.take_add_one, h, List.countP_append]
  by_cases c : e.1.toNat = p <;> simp [c]
theorem cnp_zero (l : List Ev) (p : Nat) : cnp l p 0 = 0 := by simp [cnp]
theorem cnp_le (l : List Ev) (p k : Nat) : cnp l p k ≤ l.length := by
  unfold cnp; exact Nat.le_trans List.countP_le_length (by simp; omega)
def cd (c : List Int) (p : Nat) : Int := c.getD p 0
theorem get_cd {c : List Int} {p : Nat} (h : p < c.length) : c[p]? = some (cd c p) := by simp [cd, List.getD_eq_getElem?_getD, List.getElem?_eq_getElem h]
/-- Is an event in a cut? -/
def inb (l : List Ev) (c : List Int) (k : Nat) : Bool := decide (k < l.length) && decide ((cnp l (pr l k) k : Int) < cd c (pr l k))
def okc (n : Nat) (l : List Ev) (c : List Int) (p : Nat) : Bool := !((decide (cd c p < 0)) || (decide (cd c p > (cnp l p l.length : Int))))
def setw (l : List Ev) (c : List Int) (k : Nat) : W32 := (List.range k).foldl (fun s i => cond (inb l c i) (s ||| (1#32 <<< i)) s) 0#32
theorem setw_succ (l : List Ev) (c : List Int) (k : Nat) : setw l c (k + 1) = cond (inb l c k) (setw l c k ||| (1#32 <<< k)) (setw l c k) := by unfold setw; rw [List.range_succ, List.foldl_append]; rfl
theorem setw_bit (l : List Ev) (c : List Int) : ∀ k, k ≤ 32 → ∀ i, (setw l c k).getLsbD i = (decide (i < k) && inb l c i)
  | 0, _, i => by simp [setw]
  | k + 1, h, i => by
    have ih := setw_bit l c k (by omega) i
    rw [setw_succ]
    by_cases e : i = k
    · subst e
      cases q : inb l c i with
      | true => rw [cond_true, BitVec.getLsbD_or, ih, bit_one (by omega)]; simp
      | false => rw [cond_false, ih]; simp
    · have h2 : (i < k + 1) ↔ (i < k) := by omega
      cases q : inb l c k with
      | true => rw [cond_true, BitVec.getLsbD_or, ih, bit_one (by omega)]; simp [e, h2]
      | false => rw [cond_false, ih]; simp [h2]
/-- What the program counts. -/
def hv (l : List Ev) (c : List Int) (k p : Nat) : Int := if cd c p ≤ 0 then 0 else if (cnp l p k : Int) < cd c p then (cnp l p k : Int) else cd c p

theorem f45_l0 {n : Nat} {l : List Ev} (g : Good (n : Int) l) {c : List Int} (hc : c.length = n) : whileM (F45_L0 l c) (List.replicate n 0, 0#32, 0) = some (.brk (rowf n (hv l c l.length), setw l c l.length)) := by
  have hl := g.len
  have hn6 := g.n6
  have hw := while_upto (body := F45_L0 l c) (fun k => (rowf n (hv l c k), setw l c k, (k : Int))) l.length (c := .brk (rowf n (hv l c l.length), setw l c l.length))
    (fun k hk => by
      have hg : l[k]? = some l[k] := List.getElem?_eq_getElem hk
      generalize l[k] = e at hg
      have hp := g.proc hg
      have hpr : pr l k = e.1.toNat := by unfold pr; rw [hg]
      obtain ⟨p, hpe⟩ : ∃ p : Nat, e.1 = p := ⟨e.1.toNat, by omega⟩
      have hpn : p < n := by omega
      have hprp : pr l k = p := by rw [hpr, hpe]; simp
      have i1 : idx (rowf n (hv l c k)) e.1 = some (hv l c k p) := by rw [hpe]; exact rowf_idx hpn
      have i2 : idx c e.1 = some (cd c p) := by rw [hpe]; exact idx_some (get_cd (by omega))
      have hin : decide (hv l c k p < cd c p) = inb l c k := by
        unfold inb hv
        rw [hprp, decide_eq_true hk, Bool.true_and]
        rw [Bool.eq_iff_iff, decide_eq_true_eq, decide_eq_true_eq]
        split
        · omega
        · split <;> omega
      have hcn : ∀ q, cnp l q (k + 1) = cnp l q k + (if p = q then 1 else 0) := fun q => by rw [cnp_succ hg, hpe]; simp
      have hrow : ∀ v, (inb l c k = true → v = hv l c k p + 1) → (cond (inb l c k) ((rowf n (hv l c k)).set p v) (rowf n (hv l c k))) = rowf n (hv l c (k + 1)) := fun v hv1 => by
        have hoth : ∀ q, q ≠ p → hv l c (k + 1) q = hv l c k q := fun q hq => by
          have : ¬ p = q := fun e => hq e.symm
          unfold hv; rw [hcn q]; simp [this]
        have hcp := hcn p
        rw [if_pos rfl] at hcp
        cases d : inb l c k with
        | true =>
          rw [cond_true, rowf_set]
          refine rowf_congr fun q _ => ?_
          by_cases e : q = p
          · subst e
            rw [if_pos rfl, hv1 d]
            rw [d, decide_eq_true_eq] at hin
            unfold hv at hin ⊢
            rw [hcp]
            split at hin
            · omega
            · split at hin
              · split <;> omega
              · omega
          · rw [if_neg e, hoth q e]
        | false =>
          rw [cond_false]
          refine rowf_congr fun q _ => ?_
          by_cases e : q = p
          · subst e
            rw [d, decide_eq_false_iff_not] at hin
            unfold hv at hin ⊢
            rw [hcp]
            split at hin
            · split <;> omega
            · split at hin
              · omega
              · by_cases q0 : cd c q ≤ 0
                · simp [q0]
                · by_cases q1 : ((cnp l q k + 1 : Nat) : Int) < cd c q
                  · omega
                  · have q2 : ¬ (cnp l q k : Int) < cd c q := by omega
                    rw [if_neg q0, if_neg q0, if_neg q1, if_neg q2]
          · exact (hoth q e).symm
      have hi64 : inb l c k = true → w64 (hv l c k p + 1) = hv l c k p + 1 := fun d => by
        have := cnp_le l p k
        rw [d, decide_eq_true_eq] at hin
        have hb : 0 ≤ hv l c k p ∧ hv l c k p ≤ 30 := by
          unfold hv at hin ⊢
          split
          · omega
          · split
            · omega
            · rename_i q0 q1; rw [if_neg q0, if_neg q1] at hin; omega
        exact w64_of (by omega) (by omega)
      have hkl : decide ((k : Int) < (l.length : Int)) = true := by simpa using hk
      have hr := hrow (w64 (hv l c k p + 1)) hi64
      rw [setw_succ, ← hr]
      have hpt : e.1.toNat = p := by rw [hpe]; simp
      simp only [F45_L0, idx_some hg, i1, i2, hin, Option.bind_some, hkl, cond_true, w64_succ hk (by omega), shc_nat, hpt]
      cases inb l c k <;> simp)
    (by simp [F45_L0]) (by intro s h; cases h)
  have h0 : rowf n (hv l c 0) = List.replicate n 0 := by
    apply List.ext_getElem?
    intro b
    by_cases hb : b < n
    · rw [rowf_get hb, List.getElem?_replicate, if_pos hb]
      refine congrArg some ?_
      unfold hv; rw [cnp_zero]; split <;> simp; omega
    · rw [List.getElem?_eq_none (by rw [rowf_len]; omega), List.getElem?_eq_none (by simp; omega)]
  rw [h0] at hw
  exact hw
def mm : List Int → Int | [] => 0 | x :: xs => xs.foldl mn x
theorem mm_neg : ∀ (ys : List Int) (t : Int), ys.foldl mn t < 0 ↔ (t < 0 ∨ ∃ y ∈ ys, y < 0)
  | [], t => by simp
  | y :: ys, t => by
    rw [List.foldl_cons, mm_neg ys]
    have : mn t y < 0 ↔ (t < 0 ∨ y < 0) := by unfold mn; split <;> omega
    rw [this]
    simp only [List.mem_cons, exists_eq_or_imp, or_assoc]
theorem f54_val {xs : List Int} (h0 : 0 < xs.length) (hl : xs.length ≤ 30) : ∃ m, F54 xs = some m ∧ (m < 0 ↔ ∃ y ∈ xs, y < 0) := by
  cases xs with
  | nil => simp at h0
  | cons x ys =>
    have hw := while_upto (body := F54_L0 (x :: ys)) (fun k => ((ys.take k).foldl mn x, ((k + 1 : Nat) : Int))) ys.length (c := .brk (ys.foldl mn x))
      (fun k hk => by
        have hg : (x :: ys)[k + 1]? = some ys[k] := by rw [List.getElem?_cons_succ]; exact List.getElem?_eq_getElem hk
        have hn : (ys.take (k + 1)).foldl mn x = mn ((ys.take k).foldl mn x) ys[k] := by rw [List.take_add_one, List.getElem?_eq_getElem hk, List.foldl_append]; rfl
        have hkl : decide (((k + 1 : Nat) : Int) < ((x :: ys).length : Int)) = true := by rw [decide_eq_true_eq]; simp; omega
        rw [hn]
        simp only [F54_L0, idx_some hg, Option.bind_some, hkl, cond_true, w64_succ (show k + 1 < (x :: ys).length by simp; omega) (by omega)])
      (by simp [F54_L0]) (by intro s h; cases h)
    have hw' : whileM (F54_L0 (x :: ys)) (x, 1) = _ := hw
    refine ⟨ys.foldl mn x, ?_, by rw [mm_neg]; simp⟩
    unfold F54
    have hne : decide (((x :: ys).length : Int) < 1) = false := by rw [decide_eq_false_iff_not]; simp; omega
    have hx : idx (x :: ys) 0 = some x := rfl
    rw [hne, hx]
    simp only [cond_false, Option.bind_some, hw', Ctl.on]
theorem f55_val {a b : List Int} (h : a.length = b.length) (hl : a.length ≤ 30) : F55 a b = some (decide (a = b)) := by
  have hw : whileM (F55_L0 a b) 0 = some (found () (scan (fun k x => if b[k]? = some x then none else some false) a 0)) := by
    refine while_scan (by omega) _ (fun k x hx => ?_) (by simp [F55_L0])
    have hk := lt_of_get hx
    have hkb : b[k]? = some (b[k]'(by omega)) := List.getElem?_eq_getElem _
    have hkl : decide ((k : Int) < (a.length : Int)) = true := by simpa using hk
    generalize (b[k]'(by omega)) = y at hkb
    simp only [F55_L0, idx_some hx, idx_some hkb, Option.bind_some, hkl, cond_true, hkb]
    by_cases e : x = y
    · subst e; simp [going]
    · have h1 : (x != y) = true := by simpa using e
      have h2 : ¬ (some y = some x) := fun q => e (Option.some.inj q).symm
      simp [h1, h2, going]
  unfold F55
  have hne : ((a.length : Int) != (b.length : Int)) = false := by simp [h]
  rw [hne, hw]
  cases hs : scan (fun k x => if b[k]? = some x then none else some false) a 0 with
  | none =>
    have : a = b := by
      apply List.ext_getElem?
      intro i
      cases hi : a[i]? with
      | none => symm; rw [List.getElem?_eq_none_iff] at hi ⊢; omega
      | some x =>
        have := scan_none.1 hs i x hi
        simp only [Nat.zero_add] at this
        split at this
        · rename_i q; exact q.symm
        · cases this
    simp [found, Ctl.on, this]
  | some r =>
    obtain ⟨i, x, hx, hv⟩ := scan_val hs
    simp only [Nat.zero_add] at hv
    split at hv
    · cases hv
    · rename_i q
      cases hv
      have : ¬ a = b := fun e => q (by rw [← e]; exact hx)
      simp [found, Ctl.on, this]
theorem mem_cd {c : List Int} {x : Int} (h : x ∈ c) : ∃ p, p < c.length ∧ x = cd c p := by
  obtain ⟨p, hp⟩ := List.getElem?_of_mem h
  have hlt := lt_of_get hp
  rw [get_cd hlt] at hp
  exact ⟨p, hlt, (Option.some.inj hp).symm⟩
theorem f45_val {n : Nat} {l : List Ev} (g : Good (n : Int) l) {c : List Int} (hc : c.length = n) : F45 (n : Int) l c = some (cond ((List.range n).all (okc n l c)) (setw l c l.length, 0) (0#32, 4)) := by
  have hl := g.len
  have hn6 := g.n6
  have hn1 := g.n1
  have hm : mkl (n : Int) 8 (0 : Int) = some (List.replicate n 0) := by unfold mkl; rw [if_pos ⟨by omega, by omega, by omega⟩]; simp
  obtain ⟨m, e1, e2⟩ := f54_val (xs := c) (by omega) (by omega)
  have e3 := f55_val (a := rowf n (hv l c l.length)) (b := c) (by rw [rowf_len, hc]) (by rw [rowf_len]; omega)
  unfold F45
  have hne : ((c.length : Int) != (n : Int)) = false := by simp [hc]
  rw [hne, hm]
  simp only [cond_false, Option.bind_some, f45_l0 g hc, Ctl.on, e1]
  cases d : (List.range n).all (okc n l c) with
  | true =>
    rw [List.all_eq_true] at d
    have hok : ∀ p, p < n → 0 ≤ cd c p ∧ cd c p ≤ (cnp l p l.length : Int) := fun p hp => by
      have := d p (by simpa using hp)
      unfold okc at this
      simp only [Bool.not_eq_true', Bool.or_eq_false_iff, decide_eq_false_iff_not] at this
      omega
    have hmn : decide (m < 0) = false := by
      rw [decide_eq_false_iff_not, e2]
      rintro ⟨y, hy, hlt⟩
      obtain ⟨p, hp, rfl⟩ := mem_cd hy
      have := hok p (by omega)
      omega
    have heq : rowf n (hv l c l.length) = c := by
      apply List.ext_getElem?
      intro i
      by_cases hi : i < n
      · rw [rowf_get hi, get_cd (by omega)]
        have := hok i hi
        refine congrArg some ?_
        unfold hv; split
        · omega
        · split <;> omega
      · rw [List.getElem?_eq_none (by rw [rowf_len]; omega), List.getElem?_eq_none (by omega)]
    rw [heq] at e3
    simp [hmn, e3, heq]
  | false =>
    rw [List.all_eq_false] at d
    obtain ⟨p, hp, hb⟩ := d
    have hp' : p < n := by simpa using hp
    unfold okc at hb
    cases hmn : decide (m < 0) with
    | true => simp
    | false =>
      have hne2 : ¬ rowf n (hv l c l.length) = c := fun heq => by
        rw [decide_eq_false_iff_not, e2] at hmn
        have h1 : ¬ cd c p < 0 := fun q => hmn ⟨cd c p, List.mem_of_getElem? (get_cd (by omega)), q⟩
        have h2 := rowf_get (f := hv l c l.length) hp'
        rw [heq, get_cd (by omega)] at h2
        have h3 := Option.some.inj h2
        simp only [Bool.not_eq_true, Bool.not_eq_false', Bool.or_eq_true, decide_eq_true_eq] at hb
        unfold hv at h3
        split at h3
        · rcases hb with hb | hb <;> omega
        · split at h3 <;> rcases hb with hb | hb <;> omega
      simp [e3, hne2]

/-! The reference's cut. -/
def qf (l : List Ev) (c : List Int) (p i m : Nat) : Bool := ((decide (pr l m < p)) || (decide (pr l m = p) && decide (m < i))) && inb l c m
theorem f35_l1 {n : Nat} {l : List Ev} (g : Good (n : Int) l) {c : List Int} (hc : c.length = n) {p : Nat} (hp : p < n) : whileM (F35_L1 l c (p : Int)) (rowf l.length (qf l c p 0), 0, 0) = some (.brk (rowf l.length (qf l c p l.length), (cnp l p l.length : Int))) := by
  have hl := g.len
  have hw := while_upto (body := F35_L1 l c (p : Int)) (fun k => (rowf l.length (qf l c p k), (cnp l p k : Int), (k : Int))) l.length (c := .brk (rowf l.length (qf l c p l.length), (cnp l p l.length : Int)))
    (fun k hk => by
      have hg : l[k]? = some l[k] := List.getElem?_eq_getElem hk
      generalize l[k] = e at hg
      have hpp := g.proc hg
      have hpr : pr l k = e.1.toNat := by unfold pr; rw [hg]
      have hcn := cnp_succ (p := p) hg
      have hle := cnp_le l p k
      have hkl : decide ((k : Int) < (l.length : Int)) = true := by simpa using hk
      have i1 : idx c (p : Int) = some (cd c p) := idx_some (get_cd (by omega))
      have i2 : idx (rowf l.length (qf l c p k)) (k : Int) = some (qf l c p k k) := rowf_idx hk
      by_cases d : e.1.toNat = p
      · have hb : (e.1 == (p : Int)) = true := by simp; omega
        rw [if_pos d] at hcn
        have hset : (rowf l.length (qf l c p k)).set k (decide ((cnp l p k : Int) < cd c p)) = rowf l.length (qf l c p (k + 1)) := by
          rw [rowf_set]
          refine rowf_congr fun m hm => ?_
          by_cases q : m = k
          · subst q
            rw [if_pos rfl]
            unfold qf inb
            rw [hpr, d]
            simp [hm]
          · rw [if_neg q]
            have h2 : (m < k + 1) ↔ (m < k) := by omega
            unfold qf; simp [h2]
        have hws : w64 ((cnp l p k : Int) + 1) = (cnp l p (k + 1) : Int) := by rw [hcn]; rw [w64_of (by omega) (by omega)]; push_cast; rfl
        rw [← hset, ← hws]
        simp only [F35_L1, idx_some hg, hb, i1, i2, Option.bind_some, hkl, cond_true, w64_succ hk (by omega), Int.toNat_natCast]
      · have hb : (e.1 == (p : Int)) = false := by simp; omega
        rw [if_neg d] at hcn
        have hcn' : cnp l p (k + 1) = cnp l p k := hcn
        have hsame : rowf l.length (qf l c p (k + 1)) = rowf l.length (qf l c p k) := rowf_congr fun m _ => by
          unfold qf
          by_cases q : m = k
          · subst q; rw [hpr]; simp [d]
          · have h2 : (m < k + 1) ↔ (m < k) := by omega
            simp [h2]
        rw [hsame, hcn']
        simp only [F35_L1, idx_some hg, hb, Option.bind_some, hkl, cond_true, cond_false, w64_succ hk (by omega)])
    (by simp [F35_L1]) (by intro s h; cases h)
  have : cnp l p 0 = 0 := cnp_zero l p
  rw [this] at hw
  exact hw
theorem qf_next {n : Nat} {l : List Ev} {c : List Int} {p : Nat} : rowf l.length (qf l c p l.length) = rowf l.length (qf l c (p + 1) 0) := rowf_congr fun m hm => by
  unfold qf
  have : (pr l m < p + 1) ↔ (pr l m < p ∨ pr l m = p) := by omega
  rw [decide_eq_true hm]
  by_cases h1 : pr l m < p <;> by_cases h2 : pr l m = p <;> simp [h1, h2, this]
theorem f35_val {n : Nat} {l : List Ev} (g : Good (n : Int) l) {c : List Int} (hc : c.length = n) : F35 (n : Int) l c = some (cond ((List.range n).all (okc n l c)) (rowf l.length (inb l c), true) ([], false)) := by
  have hl := g.len
  have hn6 := g.n6
  have hm : mkl (l.length : Int) 1 false = some (List.replicate l.length false) := by unfold mkl; rw [if_pos ⟨by omega, by omega, by omega⟩]; simp
  have h0 : List.replicate l.length false = rowf l.length (qf l c 0 0) := by
    apply List.ext_getElem?
    intro b
    by_cases hb : b < l.length
    · rw [rowf_get hb, List.getElem?_replicate, if_pos hb]; simp [qf]
    · rw [List.getElem?_eq_none (by simp; omega), List.getElem?_eq_none (by rw [rowf_len]; omega)]
  have step : ∀ p, p < n → F35_L0 (n : Int) l c (rowf l.length (qf l c p 0), (p : Int)) = some (cond (okc n l c p) (.nxt (rowf l.length (qf l c (p + 1) 0), ((p + 1 : Nat) : Int))) (.ret ([], false))) := fun p hp => by
    have hpn : decide ((p : Int) < (n : Int)) = true := by simpa using hp
    have i1 : idx c (p : Int) = some (cd c p) := idx_some (get_cd (by omega))
    have h1 := f35_l1 g hc hp
    rw [qf_next (n := n)] at h1
    simp only [F35_L0, h1, i1, Option.bind_some, Ctl.on, hpn, cond_true, w64_succ hp (by omega)]
    unfold okc
    cases decide (cd c p < 0) <;> cases decide (cd c p > (cnp l p l.length : Int)) <;> simp
  unfold F35
  rw [hm, h0]
  simp only [Option.bind_some]
  cases d : (List.range n).all (okc n l c) with
  | true =>
    rw [List.all_eq_true] at d
    have hw := while_upto (body := F35_L0 (n : Int) l c) (fun p => (rowf l.length (qf l c p 0), (p : Int))) n (c := .brk (rowf l.length (inb l c)))
      (fun p hp => by rw [step p hp, d p (by simpa using hp)]; rfl)
      (by
        have : rowf l.length (qf l c n 0) = rowf l.length (inb l c) := rowf_congr fun m hm => by
          have hg : l[m]? = some l[m] := List.getElem?_eq_getElem hm
          have hp := g.proc hg
          have : pr l m < n := by unfold pr; rw [hg]; simp only; omega
          unfold qf; simp [this]
        simp [F35_L0, this]) (by intro s h; cases h)
    have hw' : whileM (F35_L0 (n : Int) l c) (rowf l.length (qf l c 0 0), 0) = _ := hw
    rw [hw']; rfl
  | false =>
    rw [List.all_eq_false] at d
    obtain ⟨p, hp, hb, hmin⟩ := first_of (p := fun p => okc n l c p = false) n (by obtain ⟨p, hp, hb⟩ := d; exact ⟨p, by simpa using hp, by simpa using hb⟩)
    have hw := while_upto (body := F35_L0 (n : Int) l c) (fun p => (rowf l.length (qf l c p 0), (p : Int))) p (c := .ret ([], false))
      (fun q hq => by
        have : okc n l c q = true := by
          cases r : okc n l c q with
          | true => rfl
          | false => exact absurd r (hmin q hq)
        rw [step q (by omega), this]; rfl)
      (by rw [step p hp, hb]; rfl) (by intro s h; cases h)
    have hw' : whileM (F35_L0 (n : Int) l c) (rowf l.length (qf l c 0 0), 0) = _ := hw
    rw [hw']; rfl
theorem f46_val {l : List Ev} (hl : l.length ≤ 30) {past : List W32} (hp : past.length = l.length) (s : W32) : F46 past s = some ((List.range l.length).all (fun k => !(s.getLsbD k && ((wd past k &&& ~~~s) != 0#32)))) := by
  have hw : whileM (F46_L0 past s) 0 = some (found () (scan (fun k (_ : Unit) => if (s.getLsbD k && ((wd past k &&& ~~~s) != 0#32)) = true then some false else none) (List.replicate past.length ()) 0)) :=
    while_scanN (fun k => (k : Int)) past.length (b := ()) (fun k => if (s.getLsbD k && ((wd past k &&& ~~~s) != 0#32)) = true then some false else none)
      (fun k hk => by
        have hkl : decide ((k : Int) < (past.length : Int)) = true := by simpa using hk
        simp only [F46_L0, idx_some (get_wd hk), shc_nat, bit_eq, Option.bind_some, hkl, cond_true, w64_succ hk (by omega)]
        cases (s.getLsbD k && ((wd past k &&& ~~~s) != 0#32)) <;> simp [going])
      (by simp [F46_L0])
  unfold F46
  rw [hw]
  cases hs : scan (fun k (_ : Unit) => if (s.getLsbD k && ((wd past k &&& ~~~s) != 0#32)) = true then some false else none) (List.replicate past.length ()) 0 with
  | none =>
    have : (List.range l.length).all (fun k => !(s.getLsbD k && ((wd past k &&& ~~~s) != 0#32))) = true := by
      rw [List.all_eq_true]
      intro k hk
      have := scanN_none.1 hs k (by have : k < l.length := by simpa using hk
                                    omega)
      cases c : (s.getLsbD k && ((wd past k &&& ~~~s) != 0#32)) with
      | false => rfl
      | true => rw [if_pos c] at this; cases this
    rw [this]; simp [found, Ctl.on]
  | some r =>
    obtain ⟨k, hk, hv⟩ := scanN_val hs
    have hc : (s.getLsbD k && ((wd past k &&& ~~~s) != 0#32)) = true := by
      cases c : (s.getLsbD k && ((wd past k &&& ~~~s) != 0#32)) with
      | true => rfl
      | false => rw [c] at hv; simp at hv
    rw [if_pos hc] at hv
    cases hv
    have : (List.range l.length).all (fun k => !(s.getLsbD k && ((wd past k &&& ~~~s) != 0#32))) = false := by
      rw [List.all_eq_false]; exact ⟨k, by have := hk; simp; omega, by rw [hc]; simp⟩
    rw [this]; simp [found, Ctl.on]
theorem f36_val {l : List Ev} (hl : l.length ≤ 30) (v : Nat → Bool) : F36 l (rowf l.length v) = some ((List.range l.length).all (fun i => (List.range l.length).all (fun j => !(v j && T l i j && !v i)))) := by
  have h1 : ∀ i, i < l.length → whileM (F36_L1 l (rowf l.length v) (mat l.length (T l)) (i : Int)) 0 = some (found () (cond ((List.range l.length).all (fun j => !(v j && T l i j && !v i))) none (some false))) := fun i hi => by
    have hw : whileM (F36_L1 l (rowf l.length v) (mat l.length (T l)) (i : Int)) 0 = some (found () (scan (fun k (_ : Unit) => if (v k && T l i k && !v i) = true then some false else none) (List.replicate l.length ()) 0)) :=
      while_scanN (fun k => (k : Int)) l.length (b := ()) (fun k => if (v k && T l i k && !v i) = true then some false else none)
        (fun k hk => by
          have hkl : decide ((k : Int) < (l.length : Int)) = true := by simpa using hk
          have q1 : idx (rowf l.length v) (k : Int) = some (v k) := rowf_idx hk
          have q2 : idx (mat l.length (T l)) (i : Int) = some (rowf l.length (T l i)) := rowf_idx hi
          have q3 : idx (rowf l.length (T l i)) (k : Int) = some (T l i k) := rowf_idx hk
          have q4 : idx (rowf l.length v) (i : Int) = some (v i) := rowf_idx hi
          simp only [F36_L1, q1, q2, q3, q4, Option.bind_some, hkl, cond_true, w64_succ hk (by omega)]
          cases v k <;> cases T l i k <;> cases v i <;> simp [going])
        (by simp [F36_L1])
    rw [hw]
    refine congrArg (fun o => some (found () o)) ?_
    cases hs : scan (fun k (_ : Unit) => if (v k && T l i k && !v i) = true then some false else none) (List.replicate l.length ()) 0 with
    | none =>
      have : (List.range l.length).all (fun j => !(v j && T l i j && !v i)) = true := by
        rw [List.all_eq_true]
        intro k hk
        have := scanN_none.1 hs k (by simpa using hk)
        cases c : (v k && T l i k && !v i) with
        | false => rfl
        | true => rw [if_pos c] at this; cases this
      rw [this]; rfl
    | some r =>
      obtain ⟨k, hk, hv⟩ := scanN_val hs
      have hc : (v k && T l i k && !v i) = true := by
        cases c : (v k && T l i k && !v i) with
        | true => rfl
        | false => rw [c] at hv; simp at hv
      rw [if_pos hc] at hv
      have : (List.range l.length).all (fun j => !(v j && T l i j && !v i)) = false := by
        rw [List.all_eq_false]; exact ⟨k, by simpa using hk, by rw [hc]; simp⟩
      rw [this, ← hv]; rfl
  have hw : whileM (F36_L0 l (rowf l.length v) (mat l.length (T l))) 0 = some (found () (scan (fun k (_ : Unit) => cond ((List.range l.length).all (fun j => !(v j && T l k j && !v k))) none (some false)) (List.replicate l.length ()) 0)) :=
    while_scanN (fun k => (k : Int)) l.length (b := ()) (fun k => cond ((List.range l.length).all (fun j => !(v j && T l k j && !v k))) none (some false))
      (fun k hk => by
        have hkl : decide ((k : Int) < (l.length : Int)) = true := by simpa using hk
        simp only [F36_L0, h1 k hk, Option.bind_some, hkl, cond_true, w64_succ hk (by omega)]
        cases (List.range l.length).all (fun j => !(v j && T l k j && !v k)) <;> simp [going, found, Ctl.on])
      (by simp [F36_L0])
  unfold F36
  rw [f18_val hl]
  simp only [Option.bind_some, hw]
  cases hs : scan (fun k (_ : Unit) => cond ((List.range l.length).all (fun j => !(v j && T l k j && !v k))) none (some false)) (List.replicate l.length ()) 0 with
  | none =>
    have : (List.range l.length).all (fun i => (List.range l.length).all (fun j => !(v j && T l i j && !v i))) = true := by
      rw [List.all_eq_true]
      intro k hk
      have := scanN_none.1 hs k (by simpa using hk)
      cases c : (List.range l.length).all (fun j => !(v j && T l k j && !v k)) with
      | true => rfl
      | false => rw [c] at this; cases this
    rw [this]; simp [found, Ctl.on]
  | some r =>
    obtain ⟨k, hk, hv⟩ := scanN_val hs
    cases c : (List.range l.length).all (fun j => !(v j && T l k j && !v k)) with
    | true => rw [c] at hv; cases hv
    | false =>
      rw [c] at hv
      cases hv
      have : (List.range l.length).all (fun i => (List.range l.length).all (fun j => !(v j && T l i j && !v i))) = false := by
        rw [List.all_eq_false]; exact ⟨k, by simpa using hk, by rw [c]; simp⟩
      rw [this]; simp [found, Ctl.on]
theorem law_CutIs (a0 : Int) (_ : i64 a0) (a1 : List Ev) (h : a1.length ≤ 9223372036854775807) (_ : ∀ x ∈ a1, i64 x.1 ∧ i64 x.2.1 ∧ i64 x.2.2) (a2 : List Int) (h2 : a2.length ≤ 9223372036854775807) (_ : ∀ x ∈ a2, i64 x) : F12 a0 a1 a2 = some true := by
  obtain ⟨r, q1, q2⟩ := runCheck_same a0 a1
  unfold F12 F33 F34
  rw [q1, q2]
  by_cases c : r = 0
  · subst c
    have g := good_of q2
    have hl := g.len
    have hn1 := g.n1
    obtain ⟨n, rfl⟩ : ∃ n : Nat, a0 = n := ⟨a0.toNat, by omega⟩
    obtain ⟨past, e1, e2, e3⟩ := f40_val g
    by_cases cl : a2.length = n
    · have hne : ((a2.length : Int) != (n : Int)) = false := by simp [cl]
      rw [f45_val g cl, f35_val g cl]
      cases d : (List.range n).all (okc n a1 a2) with
      | false => simp [hne]
      | true =>
        have hsame : (List.range a1.length).all (fun k => !((setw a1 a2 a1.length).getLsbD k && ((wd past k &&& ~~~(setw a1 a2 a1.length)) != 0#32))) = (List.range a1.length).all (fun i => (List.range a1.length).all (fun j => !(inb a1 a2 j && T a1 i j && !inb a1 a2 i))) := by
          have hb : ∀ i, i < a1.length → (setw a1 a2 a1.length).getLsbD i = inb a1 a2 i := fun i hi => by rw [setw_bit _ _ _ (by omega)]; simp [hi]
          rw [Bool.eq_iff_iff, List.all_eq_true, List.all_eq_true]
          constructor
          · intro hh i hi
            have hi' : i < a1.length := by simpa using hi
            rw [List.all_eq_true]
            intro j hj
            have hj' : j < a1.length := by simpa using hj
            have := hh j hj
            rw [hb j hj'] at this
            cases c1 : inb a1 a2 j with
            | false => rfl
            | true =>
              cases c2 : T a1 i j with
              | false => rfl
              | true =>
                rw [c1] at this
                simp only [Bool.true_and, Bool.not_eq_true', bne_eq_false_iff_eq] at this
                have h3 := congrArg (fun w => w.getLsbD i) this
                simp only [BitVec.getLsbD_and, BitVec.getLsbD_not, e3 j hj', c2, Bool.true_and, BitVec.getLsbD_zero, decide_eq_true (show i < 32 by omega), Bool.not_eq_false', hb i hi'] at h3
                rw [h3]; rfl
          · intro hh k hk
            have hk' : k < a1.length := by simpa using hk
            rw [hb k hk']
            cases c1 : inb a1 a2 k with
            | false => rfl
            | true =>
              simp only [Bool.true_and, Bool.not_eq_true', bne_eq_false_iff_eq]
              apply BitVec.eq_of_getLsbD_eq
              intro i hi
              simp only [BitVec.getLsbD_and, BitVec.getLsbD_not, e3 k hk', BitVec.getLsbD_zero, decide_eq_true hi, Bool.true_and]
              cases c2 : T a1 i k with
              | false => rfl
              | true =>
                have hlt := T_lt c2
                have := List.all_eq_true.1 (hh i (by simp; omega)) k hk
                rw [c1, c2] at this
                simp only [Bool.true_and, Bool.not_not] at this
                rw [hb i (by omega), this]; rfl
        have w1 := f46_val hl e2 (setw a1 a2 a1.length)
        have w2 := f36_val hl (inb a1 a2)
        rw [hsame] at w1
        generalize (List.range a1.length).all (fun i => (List.range a1.length).all (fun j => !(inb a1 a2 j && T a1 i j && !inb a1 a2 i))) = z at *
        simp [hne, e1, w1, w2]
    · have hne : ((a2.length : Int) != (n : Int)) = true := by simp; omega
      have h45 : F45 (n : Int) a1 a2 = some (0#32, 3) := by unfold F45; rw [hne]; rfl
      simp [hne, h45]
  · have c1 : (r != 0) = true := by simpa using c
    have c2 : (r == 0) = false := by simpa using c
    simp [c1, c2, c]
end Go.Proofs.Ytmfidlalejdikaa
