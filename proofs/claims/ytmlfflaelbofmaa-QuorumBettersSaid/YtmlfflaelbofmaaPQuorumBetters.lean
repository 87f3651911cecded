/-
  The plain law of QuorumBetters.
-/
import Derived.Test.YtmlfflaelbofmaaPQuorumFulls
import Derived.Test.YtmlfflaelbofmaaPd
namespace Go.Proofs.Ytmlfflaelbofmaa
open Go Go.Bk
set_option linter.unusedVariables false
set_option linter.unusedSimpArgs false

theorem loser_val (n : Nat) (hn : n < 7) (l : List W32) (hl : l.length ≤ 9223372036854775807) :
    (∃ k, k < 2 ^ n ∧ lose l n k = true ∧ (l = [] → k = 0) ∧ F57 (n : Int) l = some (BitVec.ofNat 32 k, true) ∧ F38 (n : Int) l = some false) ∨ (∃ x, F57 (n : Int) l = some (x, false) ∧ F38 (n : Int) l = some true) := by
  have h1 : whileM (F57_L0 l n) (BitVec.ofNat 32 0) = some (found () (scan (fun k (_ : Unit) => if lose l n k = true then some (BitVec.ofNat 32 k, true) else none) (List.replicate (2 ^ n) ()) 0)) := by
    refine while_scanN (BitVec.ofNat 32) (2 ^ n) _ (fun k hk => ?_) ?_
    · simp only [F57_L0, BitVec.sub_add_cancel, lt_shl hn (Nat.le_of_lt hk), (wins_val l _ hl).1, allbut n hn k hk, ofNat_succ, Option.bind_some]
      have e : lose l n k = (!winsP l (BitVec.ofNat 32 k) && !winsP l (((1#32 <<< n) - 1#32) - BitVec.ofNat 32 k)) := rfl
      rw [e]
      cases winsP l (BitVec.ofNat 32 k) <;> cases winsP l (((1#32 <<< n) - 1#32) - BitVec.ofNat 32 k) <;> simp [hk, going]
    · simp only [F57_L0, BitVec.sub_add_cancel, lt_shl hn (Nat.le_refl _)]; simp
  obtain ⟨r, x0, g1, g2⟩ := full_same n hn l hl
  have h3 : F57 (n : Int) l = Ctl.on (found () (scan (fun k (_ : Unit) => if lose l n k = true then some (BitVec.ofNat 32 k, true) else none) (List.replicate (2 ^ n) ()) 0) : Ctl W32 Unit (W32 × Bool)) (fun (_ : Unit) => some (0#32, false)) (fun r => some r) := by
    unfold F57
    simp only [shc_nat, Option.bind_some]
    rw [show (0#32 : W32) = BitVec.ofNat 32 0 from rfl, h1]
    rfl
  cases x : scan (fun k (_ : Unit) => if lose l n k = true then some (BitVec.ofNat 32 k, true) else none) (List.replicate (2 ^ n) ()) 0 with
  | none =>
    rw [x] at h3
    have h4 : F57 (n : Int) l = some (0#32, false) := h3
    right
    rw [h4] at g1
    have : r = true := by
      have := congrArg Prod.snd (Option.some.inj g1)
      simp at this
      exact this
    subst this
    exact ⟨_, h4, g2⟩
  | some q =>
    left
    obtain ⟨k, hk, he⟩ := scanN_val x
    have hc : lose l n k = true := by cases c : lose l n k <;> simp_all
    rw [hc] at he
    simp at he
    subst he
    rw [x] at h3
    have h4 : F57 (n : Int) l = some (BitVec.ofNat 32 k, true) := h3
    rw [h4] at g1
    have : r = false := by
      have := congrArg Prod.snd (Option.some.inj g1)
      simp at this
      exact this
    subst this
    refine ⟨k, hk, hc, fun hl0 => ?_, h4, g2⟩
    subst hl0
    obtain ⟨m, hm⟩ : ∃ m, 2 ^ n = m + 1 := ⟨2 ^ n - 1, by have := Nat.one_le_two_pow (n := n); omega⟩
    rw [hm, List.replicate_succ] at x
    unfold scan at x
    have h0 : lose [] n 0 = true := rfl
    rw [if_pos h0] at x
    have := congrArg (fun o => o.map (fun p => p.1.toNat)) x
    simp at this
    have hk32 : k < 2 ^ 32 := Nat.lt_of_lt_of_le hk (Nat.pow_le_pow_right (by omega) (by omega))
    rw [Nat.mod_eq_of_lt (by simpa using hk32)] at this
    exact this.symm

theorem sub_iff {x s : W32} : ((x ||| s) == s) = true ↔ ∀ b, x.getLsbD b = true → s.getLsbD b = true := by
  rw [beq_iff_eq]
  constructor
  · intro h b hb
    rw [← h, BitVec.getLsbD_or, hb]; rfl
  · intro h
    apply BitVec.eq_of_getLsbD_eq
    intro b _
    rw [BitVec.getLsbD_or]
    cases c : x.getLsbD b with
    | false => simp
    | true => rw [h b c]; rfl
theorem andn_iff {x s : W32} : ((x &&& ~~~s) == 0#32) = true ↔ ∀ b, x.getLsbD b = true → s.getLsbD b = true := by rw [andn_or]; exact sub_iff
theorem meet_bit {x s : W32} : ((x &&& s) == 0#32) = false ↔ ∃ b, x.getLsbD b = true ∧ s.getLsbD b = true := by
  constructor
  · intro h
    apply Classical.byContradiction
    intro hn
    have : x &&& s = 0#32 := by
      apply BitVec.eq_of_getLsbD_eq
      intro b _
      rw [BitVec.getLsbD_and, BitVec.getLsbD_zero]
      cases c : x.getLsbD b with
      | false => rfl
      | true =>
        cases d : s.getLsbD b with
        | false => rfl
        | true => exact absurd ⟨b, c, d⟩ hn
    rw [this] at h; simp at h
  · rintro ⟨b, h1, h2⟩
    cases c : ((x &&& s) == 0#32) with
    | false => rfl
    | true =>
      have := congrArg (fun w => w.getLsbD b) (by simpa using c : x &&& s = 0#32)
      simp only [BitVec.getLsbD_and, h1, h2, BitVec.getLsbD_zero, Bool.and_true] at this
      cases this
/-- Two sets meet, and none is in the other. -/
def good2 (a b : W32) : Prop := bad' a b = false ∧ bad' b a = false
theorem meet_val (l : List W32) (hl : l.length ≤ 9223372036854775807) : F35 l = some true ↔ l.Pairwise good2 := by
  have h2 : whileM (F35_L0 l) 0 = some (found () (scan (fun k a => scan (fun j b => if (k : Int) ≠ (j : Int) ∧ bad' a b = true then some false else none) l 0) l 0)) := by
    refine while_scan hl _ (fun k e h => ?_) (by simp [F35_L0])
    have hk := lt_of_get h
    have hb := f35_l1 l k e h hl
    cases c : scan (fun j b => if (k : Int) ≠ (j : Int) ∧ bad' e b = true then some false else none) l 0 <;> rw [c] at hb <;> simp [F35_L0, hk, hb, going, found]
  unfold F35
  rw [h2, List.pairwise_iff_getElem]
  cases hs : scan (fun k a => scan (fun j b => if (k : Int) ≠ (j : Int) ∧ bad' a b = true then some false else none) l 0) l 0 with
  | none =>
    refine ⟨fun _ i j hi hj hij => ?_, fun _ => by simp [found, Ctl.on]⟩
    have h1 : ∀ i j (hi : i < l.length) (hj : j < l.length), i ≠ j → bad' l[i] l[j] = false := fun i j hi hj hij => by
      have := scan_none.1 (scan_none.1 hs i _ (List.getElem?_eq_getElem hi)) j _ (List.getElem?_eq_getElem hj)
      cases c : bad' l[i] l[j] with
      | false => rfl
      | true =>
        rw [if_pos ⟨by omega, c⟩] at this
        cases this
    exact ⟨h1 i j hi hj (by omega), h1 j i hj hi (by omega)⟩
  | some r =>
    obtain ⟨i, a, hi, hv⟩ := scan_val hs
    obtain ⟨j, b, hj, hv2⟩ := scan_val hv
    simp only [Nat.zero_add] at hv2
    split at hv2
    · rename_i q
      cases hv2
      refine ⟨fun h => by simp [found, Ctl.on] at h, fun h => ?_⟩
      exfalso
      have hli := lt_of_get hi
      have hlj := lt_of_get hj
      have e1 : l[i] = a := by rw [List.getElem?_eq_getElem hli] at hi; exact Option.some.inj hi
      have e2 : l[j] = b := by rw [List.getElem?_eq_getElem hlj] at hj; exact Option.some.inj hj
      have hne : i ≠ j := fun e => q.1 (by rw [e])
      rcases Nat.lt_or_gt_of_ne hne with hlt | hlt
      · have := (h i j hli hlj hlt).1; rw [e1, e2, q.2] at this; cases this
      · have := (h j i hlj hli hlt).2; rw [e1, e2, q.2] at this; cases this
    · cases hv2
theorem check_val {n : Nat} {l : List W32} (hl : l.length ≤ 9223372036854775807) : F32 (n : Int) l 0#32 = some 0 ↔ 1 ≤ n ∧ n ≤ 6 ∧ l.length ≤ 20 ∧ ∀ x ∈ l, x ≠ 0#32 ∧ x < 1#32 <<< n := by
  unfold F32
  cases c : (((decide ((n : Int) < 1)) || (decide ((n : Int) > 6))) || (decide ((l.length : Int) > 20))) with
  | true =>
    simp only [cond_true]
    simp only [Bool.or_eq_true, decide_eq_true_eq] at c
    exact ⟨fun h => (by cases h), fun h => (by omega)⟩
  | false =>
    simp only [Bool.or_eq_false_iff, decide_eq_false_iff_not] at c
    rw [f32_l0 n l hl (by omega)]
    have h0 : decide ((1#32 <<< (u64 (n : Int)).toNat) ≤ 0#32) = false := by
      rw [u64_nat (by omega), decide_eq_false_iff_not, BitVec.le_def, one_shl (by omega)]
      have := Nat.one_le_two_pow (n := n)
      simp <;> omega
    cases d : l.any (fun x => x == 0#32 || decide (1#32 <<< n ≤ x)) with
    | true =>
      simp only [cond_true, cond_false, found, Ctl.on, Option.bind_some]
      refine ⟨fun h => (by cases h), fun h => ?_⟩
      obtain ⟨x, hx, hb⟩ := List.any_eq_true.1 d
      have := h.2.2.2 x hx
      simp only [Bool.or_eq_true, beq_iff_eq, decide_eq_true_eq] at hb
      rcases hb with hb | hb
      · exact absurd hb this.1
      · exact absurd this.2 (by rw [BitVec.not_lt]; exact hb)
    | false =>
      simp only [cond_false, found, Ctl.on, Option.bind_some, h0]
      refine ⟨fun _ => ⟨by omega, by omega, by omega, fun x hx => ?_⟩, fun _ => trivial⟩
      have := List.any_eq_false.1 d x hx
      simp only [Bool.or_eq_true, beq_iff_eq, decide_eq_true_eq, not_or] at this
      exact ⟨this.1, by rw [← BitVec.not_le]; exact this.2⟩
theorem words_self (l : List W32) (hl : l.length ≤ 9223372036854775807) : F41 l l = some true := by
  have h : whileM (F41_L0 l l) 0 = some (found () (scan (fun _ (_ : W32) => (none : Option Bool)) l 0)) := by
    refine while_scan hl _ (fun k e h => ?_) (by simp [F41_L0])
    have hk := lt_of_get h
    simp [F41_L0, idx_some h, hk, going]
  have hn : scan (fun _ (_ : W32) => (none : Option Bool)) l 0 = none := scan_none.2 fun _ _ _ => rfl
  unfold F41
  rw [h, hn]
  simp [found, Ctl.on]
theorem f62_val (l : List W32) (hl : l.length ≤ 9223372036854775807) (w : W32) : F62 l (fun z => F63 z w) = some (l.filter (fun x => !((w &&& ~~~x) == 0#32))) :=
  del_val l (0 : W32) hl (t := fun z => F63 z w) (p := fun x => (w &&& ~~~x) == 0#32) (fun x hx => rfl) (F90 := F69) rfl
theorem below_bits {n : Nat} (hn : n < 32) {x : W32} (h : x < 1#32 <<< n) {b : Nat} (hb : x.getLsbD b = true) : b < n := by
  apply Classical.byContradiction
  intro hc
  have h1 : x.toNat < 2 ^ n := by rw [BitVec.lt_def, one_shl hn] at h; exact h
  have h2 : x.toNat < 2 ^ b := Nat.lt_of_lt_of_le h1 (Nat.pow_le_pow_right (by omega) (by omega))
  have h3 : x.toNat.testBit b = false := Nat.testBit_lt_two_pow h2
  rw [← BitVec.testBit_toNat] at hb
  rw [h3] at hb; cases hb
/-- The loop over all sets, where the new sets win whenever the old ones do, and once more. -/
theorem f14_loop {n : Nat} (hn : n < 7) {a l : List W32} (ha : a.length ≤ 9223372036854775807) (hl : l.length ≤ 9223372036854775807) (h1 : ∀ s, winsP a s = true → winsP l s = true) (h2 : ∃ k, k < 2 ^ n ∧ winsP l (BitVec.ofNat 32 k) = true ∧ winsP a (BitVec.ofNat 32 k) = false) :
    whileM (F14_L0 (n : Int) a l) (false, 0#32) = some (.brk true) := by
  have hw := while_upto (body := F14_L0 (n : Int) a l) (fun k => ((List.range k).any (fun m => winsP l (BitVec.ofNat 32 m) && !winsP a (BitVec.ofNat 32 m)), BitVec.ofNat 32 k)) (2 ^ n) (c := .brk true)
    (fun k hk => by
      have hs := h1 (BitVec.ofNat 32 k)
      have hr : (List.range (k + 1)).any (fun m => winsP l (BitVec.ofNat 32 m) && !winsP a (BitVec.ofNat 32 m)) = ((List.range k).any (fun m => winsP l (BitVec.ofNat 32 m) && !winsP a (BitVec.ofNat 32 m)) || (winsP l (BitVec.ofNat 32 k) && !winsP a (BitVec.ofNat 32 k))) := by
        rw [List.range_succ, List.any_append]; simp
      rw [hr]
      generalize (List.range k).any (fun m => winsP l (BitVec.ofNat 32 m) && !winsP a (BitVec.ofNat 32 m)) = z
      simp only [F14_L0, u64_nat (show n ≤ 18446744073709551615 by omega), lt_shl hn (Nat.le_of_lt hk), (wins_val a _ ha).2, (wins_val l _ hl).2, ofNat_succ, Option.bind_some]
      cases x : winsP a (BitVec.ofNat 32 k) with
      | true =>
        have hs' := hs x
        simp only [hs']
        cases z <;> simp [hk]
      | false => cases winsP l (BitVec.ofNat 32 k) <;> cases z <;> simp [hk])
    (by
      have : (List.range (2 ^ n)).any (fun m => winsP l (BitVec.ofNat 32 m) && !winsP a (BitVec.ofNat 32 m)) = true := by
        obtain ⟨k, hk, q1, q2⟩ := h2
        exact List.any_eq_true.2 ⟨k, by simpa using hk, by rw [q1, q2]; rfl⟩
      simp only [this, F14_L0, u64_nat (show n ≤ 18446744073709551615 by omega), lt_shl hn (Nat.le_refl _)]
      simp)
    (by intro s h; cases h)
  exact hw
theorem law_QuorumBetters (a0 : Int) (_ : i64 a0) (a1 : List W32) (h : a1.length ≤ 9223372036854775807) (_ : ∀ x ∈ a1, True) : F14 a0 a1 = some true := by
  obtain ⟨e, r, hr⟩ := setsCheck_same a0 a1 (0#32) h
  obtain ⟨e', r', hr'⟩ := meet_same a1 h
  unfold F14 F42 F37
  rw [e, hr, e', hr']
  by_cases c : r = 0
  · subst c
    have hn : ∃ n : Nat, a0 = n ∧ n < 7 := by
      unfold F32 at hr
      cases c : (((decide (a0 < 1)) || (decide (a0 > 6))) || (decide ((a1.length : Int) > 20))) with
      | true => rw [c] at hr; simp at hr
      | false => simp only [Bool.or_eq_false_iff, decide_eq_false_iff_not] at c; exact ⟨a0.toNat, by omega, by omega⟩
    obtain ⟨n, rfl, hn⟩ := hn
    cases r' with
    | false => simp
    | true =>
      obtain ⟨k1, k2, k3, k4⟩ := (check_val h).1 hr
      have hpw := (meet_val a1 h).1 hr'
      have h61 : F61 a1 = some a1 := by unfold F61 appl; rw [if_pos]; simp; simp; omega
      rcases loser_val n hn a1 h with ⟨k, hk, hlose, hnil, h57, h38⟩ | ⟨x, h57, h38⟩
      · -- there is a loser
        have hbut := allbut n hn k hk
        have hX : ∀ b, (BitVec.ofNat 32 k).getLsbD b = true → b < n := fun b hb => below_bits (by omega) (by
          have := lt_shl hn (Nat.le_of_lt hk); rw [decide_eq_true hk] at this; exact of_decide_eq_true this) hb
        unfold lose at hlose
        simp only [Bool.and_eq_true, Bool.not_eq_true'] at hlose
        obtain ⟨hl1, hl2⟩ := hlose
        generalize hw : ((1#32 <<< n) - 1#32) - BitVec.ofNat 32 k = win at *
        generalize hx : BitVec.ofNat 32 k = X at *
        have hwb : ∀ b, win.getLsbD b = (decide (b < n) && !X.getLsbD b) := fun b => by
          rw [← hbut, BitVec.getLsbD_and, BitVec.getLsbD_not]
          by_cases hb : b < 32
          · rw [ones_bit n hn b hb]; simp [hb]
          · have h1 : ¬ b < n := by omega
            have h2 : ((1#32 <<< n) - 1#32).getLsbD b = false := BitVec.getLsbD_of_ge _ _ (by omega)
            rw [h2]; simp [h1]
        have hwlt : win < 1#32 <<< n := by
          rw [BitVec.lt_def, one_shl (by omega)]
          apply Nat.lt_pow_two_of_testBit
          intro b hb
          rw [BitVec.testBit_toNat, hwb]
          have : ¬ b < n := by omega
          simp [this]
        have hnsub : ∀ y ∈ a1, (∃ b, y.getLsbD b = true ∧ X.getLsbD b = false) ∧ (∃ b, y.getLsbD b = true ∧ win.getLsbD b = false) := fun y hy => by
          unfold winsP at hl1 hl2
          have q1 := List.any_eq_false.1 hl1 y hy
          have q2 := List.any_eq_false.1 hl2 y hy
          have key : ∀ s : W32, ¬ ((y ||| s) == s) = true → ∃ b, y.getLsbD b = true ∧ s.getLsbD b = false := fun s hs => by
            apply Classical.byContradiction
            intro hno
            apply hs
            rw [sub_iff]
            intro b hb
            cases d : s.getLsbD b with
            | true => rfl
            | false => exact absurd ⟨b, hb, d⟩ hno
          exact ⟨key X q1, key win q2⟩
        have hwne : win ≠ 0#32 := by
          intro hz
          cases a1 with
          | nil =>
            have := hnil rfl
            subst this
            have h0 := hwb 0
            rw [hz, ← hx] at h0
            have : 0 < n := by omega
            simp [this] at h0
          | cons y ys =>
            obtain ⟨⟨b, hb1, hb2⟩, _⟩ := hnsub y (by simp)
            have hbn := below_bits (by omega) (k4 y (by simp)).2 hb1
            have := hwb b
            rw [hz, hb2] at this
            simp [hbn] at this
        generalize hF : a1.filter (fun x => !((win &&& ~~~x) == 0#32)) = F
        have hFmem : ∀ y ∈ F, y ∈ a1 ∧ ∃ b, win.getLsbD b = true ∧ y.getLsbD b = false := fun y hy => by
          rw [← hF, List.mem_filter] at hy
          refine ⟨hy.1, ?_⟩
          apply Classical.byContradiction
          intro hno
          have : ((win &&& ~~~y) == 0#32) = true := by
            rw [andn_iff]
            intro b hb
            cases d : y.getLsbD b with
            | true => rfl
            | false => exact absurd ⟨b, hb, d⟩ hno
          rw [this] at hy
          cases hy.2
        have hFlen : F.length ≤ a1.length := by rw [← hF]; exact List.length_filter_le _ _
        have h62 : F62 a1 (fun z => F63 z win) = some F := by rw [f62_val a1 h win, hF]
        have happ : appl 4 F [win] = some (F ++ [win]) := by unfold appl; rw [if_pos]; simp; omega
        have hshc : shc (n : Int) = some n := shc_nat n
        by_cases hlong : ((F ++ [win]).length : Int) > 20
        · have h20 : a1.length = 20 := by simp at hlong; omega
          have d1 : decide (((F ++ [win]).length : Int) > 20) = true := by simpa using hlong
          simp only [h61, h57, h38, hw, h62, happ, hshc, d1, Option.bind_some, cond_true, cond_false, Bool.not_true, Bool.not_false, bne_self_eq_false, beq_self_eq_true]
          simp [h20]
        · have d1 : decide (((F ++ [win]).length : Int) > 20) = false := by simpa using hlong
          have hlen : (F ++ [win]).length ≤ 20 := by omega
          have hck : F32 (n : Int) (F ++ [win]) 0#32 = some 0 := (check_val (by omega)).2 ⟨k1, k2, hlen, fun x hx' => by
            rw [List.mem_append] at hx'
            rcases hx' with hx' | hx'
            · exact k4 x (hFmem x hx').1
            · rw [List.mem_singleton] at hx'; subst hx'; exact ⟨hwne, hwlt⟩⟩
          have hmt : F35 (F ++ [win]) = some true := (meet_val _ (by omega)).2 (by
            rw [List.pairwise_append]
            refine ⟨by rw [← hF]; exact hpw.filter _, List.pairwise_singleton _ _, fun y hy z hz => ?_⟩
            rw [List.mem_singleton] at hz
            subst hz
            obtain ⟨hy1, b3, hb3, hb3'⟩ := hFmem y hy
            obtain ⟨⟨b1, hb1, hb1'⟩, ⟨b2, hb2, hb2'⟩⟩ := hnsub y hy1
            have hbn := below_bits (by omega) (k4 y hy1).2 hb1
            have hwin1 : z.getLsbD b1 = true := by rw [hwb, hb1']; simp [hbn]
            have s1 : ((y ||| z) == z) = false := by
              cases d : ((y ||| z) == z) with
              | false => rfl
              | true => have := sub_iff.1 d b2 hb2; rw [hb2'] at this; cases this
            have s2 : ((z ||| y) == y) = false := by
              cases d : ((z ||| y) == y) with
              | false => rfl
              | true => have := sub_iff.1 d b3 hb3; rw [hb3'] at this; cases this
            have s3 : ((y &&& z) == 0#32) = false := meet_bit.2 ⟨b1, hb1, hwin1⟩
            have s4 : ((z &&& y) == 0#32) = false := meet_bit.2 ⟨b1, hwin1, hb1⟩
            exact ⟨by unfold bad'; rw [s1, s3]; rfl, by unfold bad'; rw [s2, s4]; rfl⟩)
          have hwself : ((win ||| win) == win) = true := by rw [sub_iff]; exact fun b hb => hb
          have hloop := f14_loop hn h (l := F ++ [win]) (by omega) (fun s hs => by
              unfold winsP at hs ⊢
              obtain ⟨y, hy, hsub⟩ := List.any_eq_true.1 hs
              by_cases hin : y ∈ F
              · exact List.any_eq_true.2 ⟨y, List.mem_append_left _ hin, hsub⟩
              · refine List.any_eq_true.2 ⟨win, by simp, ?_⟩
                have hdel : ((win &&& ~~~y) == 0#32) = true := by
                  cases d : ((win &&& ~~~y) == 0#32) with
                  | true => rfl
                  | false => exact absurd (by rw [← hF, List.mem_filter]; exact ⟨hy, by rw [d]; rfl⟩) hin
                rw [sub_iff]
                exact fun b hb => sub_iff.1 hsub b (andn_iff.1 hdel b hb))
            ⟨win.toNat, by rw [BitVec.lt_def, one_shl (by omega)] at hwlt; exact hwlt, by
              rw [BitVec.ofNat_toNat, BitVec.setWidth_eq]
              unfold winsP
              exact List.any_eq_true.2 ⟨win, by simp, hwself⟩, by rw [BitVec.ofNat_toNat, BitVec.setWidth_eq]; exact hl2⟩
          simp only [h61, h57, h38, hw, h62, happ, hshc, d1, hck, hmt, hloop, Option.bind_some, cond_true, cond_false, Bool.not_true, Bool.not_false, bne_self_eq_false, beq_self_eq_true, Ctl.on]
          rfl
      · -- there is none
        simp only [h61, h57, h38, hr, hr', words_self a1 h, Option.bind_some, cond_true, cond_false, Bool.not_true, Bool.not_false, bne_self_eq_false, beq_self_eq_true]
        rfl
  · have c1 : (r != 0) = true := by simpa using c
    have c2 : (r == 0) = false := by simpa using c
    simp [c1, c2, c]
end Go.Proofs.Ytmlfflaelbofmaa
