/-
  The plain law of CutWays.
-/
import Derived.Test.YtmfidlalejdikaaPCutIs
import Derived.Test.YtmfidlalejdikaaRM
import Derived.Test.YtmfidlalejdikaaPd
namespace Go.Proofs.Ytmfidlalejdikaa
open Go Go.Bk
set_option linter.unusedVariables false
set_option linter.unusedSimpArgs false

theorem while_ex {σ τ β ρ : Type} {body : σ → Option (Ctl σ β ρ)} (S : Nat → τ → σ) (n : Nat) (out : τ → β) (I : Nat → τ → Prop)
    (hstep : ∀ k t, k < n → I k t → ∃ t', body (S k t) = some (.nxt (S (k + 1) t')) ∧ I (k + 1) t') (hend : ∀ t, I n t → body (S n t) = some (.brk (out t))) (t : τ) (h0 : I 0 t) :
    ∃ t', whileM body (S 0 t) = some (.brk (out t')) ∧ I n t' := by
  have key : ∀ m k t, k + m = n → I k t → ∃ t', whileM body (S k t) = some (.brk (out t')) ∧ I n t' := by
    intro m
    induction m with
    | zero =>
      intro k t hk hI
      obtain rfl : k = n := by omega
      exact ⟨t, whileM_brk (hend t hI), hI⟩
    | succ m ih =>
      intro k t hk hI
      obtain ⟨t', h1, h2⟩ := hstep k t (by omega) hI
      rw [whileM_nxt h1]
      exact ih (k + 1) t' (by omega) h2
  exact key n 0 t (by omega) h0
theorem app8 (l : List Int) (z : Int) (h : l.length ≤ 100) : appl 8 l [z] = some (l ++ [z]) := by
  unfold appl; rw [if_pos]; simp; omega
def kB (q : Int) (l : List Ev) (v : Nat → Bool) (k : Nat) (m : Int) : Bool := (List.range k).any fun i => v i && (match l[i]? with | some e => e.2.1 == q && e.2.2 == m | none => false)
theorem kB_succ {q : Int} {l : List Ev} {v : Nat → Bool} {k : Nat} {m : Int} {e : Ev} (h : l[k]? = some e) : kB q l v (k + 1) m = (kB q l v k m || (v k && (e.2.1 == q && e.2.2 == m))) := by
  unfold kB
  rw [List.range_succ, List.any_append]
  simp [h]
theorem kB_iff {q : Int} {l : List Ev} {v : Nat → Bool} {k : Nat} {m : Int} : kB q l v k m = true ↔ ∃ i e, i < k ∧ v i = true ∧ l[i]? = some e ∧ e.2.1 = q ∧ e.2.2 = m := by
  unfold kB
  rw [List.any_eq_true]
  constructor
  · rintro ⟨i, hi, h⟩
    rw [Bool.and_eq_true] at h
    obtain ⟨h1, h2⟩ := h
    cases c : l[i]? with
    | none => rw [c] at h2; cases h2
    | some e =>
      rw [c] at h2
      simp at h2
      exact ⟨i, e, by simpa using hi, h1, c, h2.1, h2.2⟩
  · rintro ⟨i, e, hi, h1, c, h2, h3⟩
    refine ⟨i, by simpa using hi, ?_⟩
    rw [c, h1]; simp [h2, h3]
section
variable {n : Int} {l : List Ev} (g : Good n l) (v : Nat → Bool)
theorem Good.before (g : Good n l) {k : Nat} {e : Ev} (h : l[k]? = some e) (h3 : e.2.1 = 3) : ∃ s a, s < k ∧ l[s]? = some a ∧ a.2.1 = 2 ∧ a.2.2 = e.2.2 := by
  have := ((g.msg h (by omega)).2.2.2 h3).1
  unfold sn at this
  have hp : 0 < (l.take k).countP (isS e.2.2) := by omega
  obtain ⟨a, ha, hb⟩ := List.countP_pos_iff.1 hp
  obtain ⟨i, hi⟩ := List.getElem?_of_mem ha
  have hik := lt_of_get hi
  rw [List.length_take] at hik
  rw [List.getElem?_take, if_pos (by omega)] at hi
  unfold isS at hb
  simp at hb
  exact ⟨i, a, by omega, hi, hb.1, hb.2⟩
theorem way_val (g : Good n l) (w : BitVec 32) (hw : ∀ i, i < l.length → w.getLsbD i = v i) : ∃ y, whileM (F39_L0 l w) ([], 0) = some (.brk y) ∧ y.Nodup ∧ y.length ≤ 30 ∧ ∀ m, m ∈ y ↔ kB 2 l v l.length m = true ∧ kB 3 l v l.length m = false := by
  have hl := g.len
  have h := while_ex (body := F39_L0 l w) (fun k (t : List Int) => (t, (k : Int))) l.length (fun t => t)
    (fun k t => t.Nodup ∧ t.length ≤ k ∧ ∀ m, m ∈ t ↔ kB 2 l v k m = true ∧ kB 3 l v k m = false)
    (fun k t hk I => by
      obtain ⟨I1, I2, I3⟩ := I
      have hd : decide ((k : Int) < (l.length : Int)) = true := by rw [decide_eq_true_eq]; omega
      have hg := List.getElem?_eq_getElem hk
      have hws : w64 ((k : Int) + 1) = ((k + 1 : Nat) : Int) := w64_succ hk (by omega)
      have hbit : (((w >>> k) &&& 1#32) == 0#32) = !v k := by rw [and_one, hw k hk]; cases v k <;> rfl
      cases c : v k with
      | false =>
        rw [c] at hbit
        refine ⟨t, ?_, I1, by omega, fun m => ?_⟩
        · simp only [F39_L0, hd, cond_true, idx_some hg, Option.bind_some, shc_nat, hbit, Bool.not_false, hws]
        · rw [kB_succ hg, kB_succ hg, c]; simp; simpa using I3 m
      | true =>
        rw [c] at hbit
        by_cases c2 : l[k].2.1 = 2
        · have b2 : (l[k].2.1 == 2) = true := by rw [beq_iff_eq]; exact c2
          have b3 : (l[k].2.1 == 3) = false := by rw [beq_eq_false_iff_ne]; omega
          have hns : ∀ q, kB 2 l v k q = true → q ≠ l[k].2.2 := fun q hq e => by
            obtain ⟨i, a, hi, _, ha, h1, h2⟩ := kB_iff.1 hq
            exact g.once ha hg hi h1 c2 (by rw [h2, e])
          have hnt : kB 3 l v k l[k].2.2 = false := by
            rw [Bool.eq_false_iff]; intro hq
            obtain ⟨i, a, hi, _, ha, h1, h2⟩ := kB_iff.1 hq
            obtain ⟨s, b, hs, hb, e1, e2⟩ := g.before ha h1
            exact g.once hb hg (by omega) e1 c2 (by rw [e2, h2])
          refine ⟨t ++ [l[k].2.2], ?_, ?_, by simp; omega, fun m => ?_⟩
          · simp only [F39_L0, hd, cond_true, cond_false, idx_some hg, Option.bind_some, shc_nat, hbit, Bool.not_true, b2, b3, app8 t _ (show t.length ≤ 100 by omega), hws]
          · rw [List.nodup_append]
            refine ⟨I1, by simp, fun a ha b hb e => ?_⟩
            rw [List.mem_singleton] at hb
            exact hns a ((I3 a).1 ha).1 (by rw [e, hb])
          · rw [kB_succ hg, kB_succ hg, c, List.mem_append, List.mem_singleton, I3 m, b2, b3]
            simp only [Bool.true_and, Bool.false_and, Bool.or_false, Bool.or_eq_true, beq_iff_eq]
            constructor
            · rintro (⟨q1, q2⟩ | rfl)
              · exact ⟨.inl q1, q2⟩
              · exact ⟨.inr rfl, hnt⟩
            · rintro ⟨q1 | q1, q2⟩
              · exact .inl ⟨q1, q2⟩
              · exact .inr q1.symm
        · have b2 : (l[k].2.1 == 2) = false := by rw [beq_eq_false_iff_ne]; exact c2
          by_cases c3 : l[k].2.1 = 3
          · have b3 : (l[k].2.1 == 3) = true := by rw [beq_iff_eq]; exact c3
            have hdel : F51 t (fun z => F52 z (l[k].1, l[k].2.1, l[k].2.2)) = some (t.filter (fun x => !(x == l[k].2.2))) :=
              del_val t 0 (show t.length ≤ 9223372036854775807 by omega) (t := fun z => F52 z (l[k].1, l[k].2.1, l[k].2.2)) (p := fun x => x == l[k].2.2) (fun x hx => rfl) (F90 := F59) rfl
            refine ⟨t.filter (fun x => !(x == l[k].2.2)), ?_, List.filter_sublist.nodup I1, by have := List.length_filter_le (fun x => !(x == l[k].2.2)) t; omega, fun m => ?_⟩
            · simp only [F39_L0, hd, cond_true, cond_false, idx_some hg, Option.bind_some, shc_nat, hbit, Bool.not_true, b2, b3, hdel, hws]
            · rw [kB_succ hg, kB_succ hg, c, List.mem_filter, I3 m, b2, b3]
              simp only [Bool.true_and, Bool.false_and, Bool.or_false, Bool.or_eq_false_iff, Bool.not_eq_true', beq_eq_false_iff_ne]
              constructor
              · rintro ⟨⟨q1, q2⟩, q3⟩; exact ⟨q1, q2, fun e => q3 e.symm⟩
              · rintro ⟨q1, q2, q3⟩; exact ⟨⟨q1, q2⟩, fun e => q3 e.symm⟩
          · have b3 : (l[k].2.1 == 3) = false := by rw [beq_eq_false_iff_ne]; exact c3
            refine ⟨t, ?_, I1, by omega, fun m => ?_⟩
            · simp only [F39_L0, hd, cond_true, cond_false, idx_some hg, Option.bind_some, shc_nat, hbit, Bool.not_true, b2, b3, hws]
            · rw [kB_succ hg, kB_succ hg, c, b2, b3, I3 m]; simp)
    (fun t I => by simp [F39_L0]) [] ⟨by simp, by simp, fun m => by simp [kB]⟩
  obtain ⟨y, h1, h2, h3, h4⟩ := h
  exact ⟨y, h1, h2, by omega, h4⟩
theorem m1_val (hl : l.length ≤ 30) (m : Int) : whileM (F14_L1 l (rowf l.length v) m) (false, false, 0) = some (.brk (kB 2 l v l.length m, kB 3 l v l.length m)) := by
  have h := while_upto (body := F14_L1 l (rowf l.length v) m) (fun k => (kB 2 l v k m, kB 3 l v k m, (k : Int))) l.length (c := .brk (kB 2 l v l.length m, kB 3 l v l.length m))
    (fun k hk => by
      have hd : decide ((k : Int) < (l.length : Int)) = true := by rw [decide_eq_true_eq]; omega
      have hg := List.getElem?_eq_getElem hk
      have hws : w64 ((k : Int) + 1) = ((k + 1 : Nat) : Int) := w64_succ hk (by omega)
      have hr : idx (rowf l.length v) (k : Int) = some (v k) := idx_some (by simp [rowf, hk])
      rw [kB_succ hg, kB_succ hg]
      cases c1 : kB 2 l v k m <;> cases c2 : kB 3 l v k m <;> simp only [F14_L1, hd, cond_true, cond_false, idx_some hg, Option.bind_some, hr, hws, Bool.true_or, Bool.false_or, Bool.and_assoc])
    (by simp [F14_L1]) (fun s => by simp)
  simpa [kB] using h
def want (l : List Ev) (v : Nat → Bool) (k : Nat) : List Int := ((List.range k).filter fun (i : Nat) => kB 2 l v l.length (i : Int) && !kB 3 l v l.length (i : Int)).map fun (i : Nat) => (i : Int)
theorem want_val (hl : l.length ≤ 30) : whileM (F14_L0 l (rowf l.length v)) ([], 0) = some (.brk (want l v 21)) := by
  have h := while_upto (body := F14_L0 l (rowf l.length v)) (fun k => (want l v k, (k : Int))) 21 (c := .brk (want l v 21))
    (fun k hk => by
      have hd : decide ((k : Int) ≤ 20) = true := by rw [decide_eq_true_eq]; omega
      have hws : w64 ((k : Int) + 1) = ((k + 1 : Nat) : Int) := w64_succ hk (by omega)
      have hlen : (want l v k).length ≤ 100 := by
        unfold want; rw [List.length_map]
        have := List.length_filter_le (fun (i : Nat) => kB 2 l v l.length (i : Int) && !kB 3 l v l.length (i : Int)) (List.range k)
        rw [List.length_range] at this; omega
      have hs : want l v (k + 1) = if (kB 2 l v l.length (k : Int) && !kB 3 l v l.length (k : Int)) = true then want l v k ++ [(k : Int)] else want l v k := by
        unfold want
        rw [List.range_succ, List.filter_append, List.map_append]
        by_cases c : (kB 2 l v l.length (k : Int) && !kB 3 l v l.length (k : Int)) = true
        · rw [if_pos c, List.filter_cons_of_pos (by simpa using c)]; rfl
        · rw [if_neg c, List.filter_cons_of_neg (by simpa using c)]; simp
      rw [hs]
      cases c : (kB 2 l v l.length (k : Int) && !kB 3 l v l.length (k : Int)) with
      | true => simp only [F14_L0, hd, cond_true, m1_val v hl, Option.bind_some, Ctl.on, c, app8 _ _ hlen, hws]; simp
      | false => simp only [F14_L0, hd, cond_true, cond_false, m1_val v hl, Option.bind_some, Ctl.on, c, hws]; simp)
    (by simp [F14_L0]) (fun s => by simp)
  simpa [want] using h
theorem sorted_want (g : Good n l) {y : List Int} (h1 : y.Nodup) (h2 : ∀ m, m ∈ y ↔ kB 2 l v l.length m = true ∧ kB 3 l v l.length m = false) : sorted y = want l v 21 := by
  have hp : (sorted y).Perm y := List.mergeSort_perm y _
  have hw : (want l v 21).Pairwise (fun a b => a < b) := by
    unfold want
    rw [List.pairwise_map]
    refine List.Pairwise.imp (R := fun a b : Nat => a < b) (fun h => by omega) ?_
    exact List.Pairwise.filter _ List.pairwise_lt_range
  have hs : (sorted y).Pairwise (fun a b => a ≤ b) := by
    have := List.pairwise_mergeSort (le := fun x y : Int => decide (x ≤ y)) (fun a b c h1 h2 => by simp at *; omega) (fun a b => by simp; omega) y
    exact this.imp fun h => by simpa using h
  refine List.Perm.eq_of_pairwise (le := fun a b : Int => a ≤ b) (fun a b _ _ h1 h2 => by omega) hs (hw.imp fun h => by omega) ?_
  refine hp.trans ((List.perm_ext_iff_of_nodup h1 (hw.imp fun h => by omega)).2 fun m => ?_)
  rw [h2 m]
  unfold want
  rw [List.mem_map]
  constructor
  · rintro ⟨q1, q2⟩
    obtain ⟨i, e, hi, _, he, e1, e2⟩ := kB_iff.1 q1
    have := g.msg he (by omega)
    refine ⟨m.toNat, ?_, by omega⟩
    have hm : ((m.toNat : Nat) : Int) = m := by omega
    rw [List.mem_filter, List.mem_range, hm, q1, q2]
    exact ⟨by omega, rfl⟩
  · rintro ⟨i, hi, rfl⟩
    rw [List.mem_filter, Bool.and_eq_true] at hi
    exact ⟨hi.2.1, by simpa using hi.2.2⟩
end
theorem ints_selfW (l : List Int) (hl : l.length ≤ 9223372036854775807) : F24 l l = some true := by
  have h : whileM (F24_L0 l l) 0 = some (found () (scan (fun _ (_ : Int) => (none : Option Bool)) l 0)) := by
    refine while_scan hl _ (fun k e h => ?_) (by simp [F24_L0])
    have hk := lt_of_get h
    simp [F24_L0, idx_some h, hk, going]
  have hn : scan (fun _ (_ : Int) => (none : Option Bool)) l 0 = none := scan_none.2 fun _ _ _ => rfl
  unfold F24
  rw [h, hn]
  simp [found, Ctl.on]
theorem law_CutWays (a0 : Int) (w0 : i64 a0) (a1 : List Ev) (h : a1.length ≤ 9223372036854775807) (w1 : ∀ x ∈ a1, i64 x.1 ∧ i64 x.2.1 ∧ i64 x.2.2) (a2 : List Int) (h2 : a2.length ≤ 9223372036854775807) (w2 : ∀ x ∈ a2, i64 x) : F14 a0 a1 a2 = some true := by
  have L := law_CutIs a0 w0 a1 h w1 a2 h2 w2
  obtain ⟨r, q1, q2⟩ := runCheck_same a0 a1
  by_cases c : r = 0
  · subst c
    have g := good_of q2
    have hl := g.len
    have hn1 := g.n1
    obtain ⟨n, rfl⟩ : ∃ n : Nat, a0 = n := ⟨a0.toNat, by omega⟩
    by_cases cl : a2.length = n
    · have hne : ((a2.length : Int) != (n : Int)) = false := by simp [cl]
      have e45 := f45_val g cl
      have e35 := f35_val g cl
      cases d : (List.range n).all (okc n a1 a2) with
      | false =>
        rw [d] at e45 e35
        unfold F14 F39 F33 F34
        rw [q1, q2]
        simp [hne, e45, e35]
      | true =>
        rw [d] at e45 e35
        simp only [cond_true] at e45 e35
        have e34 : F34 (n : Int) a1 a2 = some 0 := by
          unfold F34; rw [q2]; simp [hne, e35]
        have e36 := f36_val hl (inb a1 a2)
        generalize (List.range a1.length).all (fun i => (List.range a1.length).all (fun j => !(inb a1 a2 j && T a1 i j && !inb a1 a2 i))) = z at e36
        unfold F12 at L
        cases e33 : F33 (n : Int) a1 a2 with
        | none => rw [e33] at L; cases L
        | some p =>
          obtain ⟨is, e⟩ := p
          rw [e33, e34] at L
          simp [e35, e36] at L
          obtain ⟨y, y1, y2, y3, y4⟩ := way_val (inb a1 a2) g (setw a1 a2 a1.length) (fun i hi => by rw [setw_bit _ _ _ (by omega)]; simp [hi])
          have hy := sorted_want (inb a1 a2) g y2 y4
          have hsrt : srt y = some (want a1 (inb a1 a2) 21) := by unfold srt; rw [if_pos (by omega), hy]
          have hwant := want_val (inb a1 a2) hl
          have hself := ints_selfW (want a1 (inb a1 a2) 21) (by rw [← hy, sorted_len]; omega)
          by_cases ez : e = 0
          · subst ez
            simp at L
            subst L
            unfold F14 F39
            rw [e33]
            cases is with
            | false => simp [e34, e35, e36]
            | true => simp [e34, e35, e36, e45, y1, Ctl.on, hsrt, hwant, hself]
          · have : (e == 0) = false := by rw [beq_eq_false_iff_ne]; exact ez
            rw [this] at L; simp at L
    · have hne : ((a2.length : Int) != (n : Int)) = true := by simp; omega
      have h45 : F45 (n : Int) a1 a2 = some (0#32, 3) := by unfold F45; rw [hne]; rfl
      unfold F14 F39 F33 F34
      rw [q1, q2]
      simp [hne, h45]
  · have c1 : (r != 0) = true := by simpa using c
    have c2 : (r == 0) = false := by simpa using c
    unfold F14 F39 F33 F34
    rw [q1, q2]
    simp [c1, c2, c]
end Go.Proofs.Ytmfidlalejdikaa
