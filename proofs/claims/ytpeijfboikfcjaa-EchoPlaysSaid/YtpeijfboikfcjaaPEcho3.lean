/-
  The plain law of EchoPlays.
-/
import Derived.Test.YtpeijfboikfcjaaPEcho2
namespace Go.Proofs.Ytpeijfboikfcjaa
open Go Go.Bk
set_option linter.unusedVariables false
set_option linter.unusedSimpArgs false
section
variable (n : Nat) (L : List Lk2) (s : Nat)
def nr (i : Nat) : List Int := nrf L (i : Int) n
def NR : List (List Int) := tab n (nr n L)
def WT (tk : Nat → Nat) : List Int := tab n fun i => ((nr n L i).length : Int) - (tk i : Int)
def TK (tk : Nat → Nat) : List Int := tab n fun i => (tk i : Int)
def FR (fr : Nat → Int) : List Int := tab n fun i => if i = s then -1 else fr i
structure Inv (tk : Nat → Nat) (fr : Nat → Int) (k : Nat) : Prop where
  st : fr s = -2
  cl : ∀ i, i < n → i ≠ s → -1 ≤ fr i ∧ (fr i = -1 ↔ tk i = 0)
  cn : ∀ i, tk i ≤ k
  hi : ∀ i, fr i < (n : Int)
def goodW (way : List Ms) : Prop := ∀ z ∈ way, (0 ≤ z.1 ∧ z.1 < (n : Int)) ∧ (0 ≤ z.2 ∧ z.2 < (n : Int))
end
def up (tk : Nat → Nat) (t : Nat) : Nat → Nat := fun i => if i = t then tk t + 1 else tk i
def upF (fr : Nat → Int) (t : Nat) (f : Int) : Nat → Int := fun i => if i = t then f else fr i
variable {n : Nat} {L : List Lk2} {s : Nat}
theorem nr_mem {i : Nat} {x : Int} (h : x ∈ nr n L i) : 0 ≤ x ∧ x < (n : Int) := nrf_mem n x h
theorem WT_idx {tk : Nat → Nat} {t : Nat} (ht : t < n) : idx (WT n L tk) (t : Int) = some (((nr n L t).length : Int) - (tk t : Int)) := tab_idx _ ht
theorem WT_up {tk : Nat → Nat} {t : Nat} (ht : t < n) : (WT n L tk).set t (((nr n L t).length : Int) - ((tk t + 1 : Nat) : Int)) = WT n L (up tk t) := by
  unfold WT
  rw [tab_set _ _ ht]
  refine tab_congr fun i hi => ?_
  unfold up
  by_cases e : i = t
  · subst e; rw [if_pos rfl, if_pos rfl]
  · rw [if_neg e, if_neg e]
theorem TK_up {tk : Nat → Nat} {t : Nat} (ht : t < n) : (TK n tk).set t ((tk t + 1 : Nat) : Int) = TK n (up tk t) := by
  unfold TK
  rw [tab_set _ _ ht]
  refine tab_congr fun i hi => ?_
  unfold up
  by_cases e : i = t
  · subst e; rw [if_pos rfl, if_pos rfl]
  · rw [if_neg e, if_neg e]
theorem FR_up {fr : Nat → Int} {t : Nat} (ht : t < n) (hs : t ≠ s) (f : Int) : (FR n s fr).set t f = FR n s (upF fr t f) := by
  unfold FR
  rw [tab_set _ _ ht]
  refine tab_congr fun i hi => ?_
  unfold upF
  by_cases e : i = t
  · subst e; rw [if_pos rfl, if_neg hs, if_pos rfl]
  · rw [if_neg e, if_neg e]
theorem echo_loop (hn : n ≤ 6) (hL : Ok2 n L) (hl : L.length ≤ 15) (hs : s < n) (a3 : List Int) (h3 : a3.length ≤ 60) : ∀ (m k : Nat) (codes : List Int) (way : List Ms) (S : Int) (tk : Nat → Nat) (fr : Nat → Int),
    k + m = a3.length → codes.length = k → Inv n s tk fr k → goodW n way → way.length ≤ 16 * (k + 1) →
    ∃ codes' way' S' tk' fr', whileM (F4_L3 a3) (codes, way, NR n L, WT n L tk, tab n fr, S, (k : Int)) = some (.brk (codes', way', NR n L, WT n L tk', tab n fr', S')) ∧
      whileM (F7_L2 (n : Int) L (s : Int) a3) (way.map t3, codes, TK n tk, FR n s fr, S, (k : Int)) = some (.brk (way'.map t3, codes', TK n tk', FR n s fr', S')) ∧ codes'.length = a3.length ∧ Inv n s tk' fr' a3.length
  | 0, k, codes, way, S, tk, fr, hk, hc, I, hg, hw => by
    have hd : decide ((k : Int) < (a3.length : Int)) = false := by rw [decide_eq_false_iff_not]; omega
    have e : k = a3.length := by omega
    refine ⟨codes, way, S, tk, fr, whileM_brk ?_, whileM_brk ?_, by omega, by rw [← e]; exact I⟩
    · simp only [F4_L3, hd, cond_false]
    · simp only [F7_L2, hd, cond_false]
  | m + 1, k, codes, way, S, tk, fr, hk, hc, I, hg, hw => by
    have hlt : k < a3.length := by omega
    have hd : decide ((k : Int) < (a3.length : Int)) = true := by rw [decide_eq_true_eq]; omega
    have hx := List.getElem?_eq_getElem hlt
    generalize a3[k] = x at hx
    have hwk := w64_succ hlt (show a3.length ≤ 9223372036854775807 by omega)
    have hml : (way.map t3).length = way.length := List.length_map t3
    have ih := echo_loop hn hL hl hs a3 h3 m (k + 1)
    cases hr : ((decide (x < 0)) || (decide (x ≥ (way.length : Int)))) with
    | true =>
      have hr' : ((decide (x < 0)) || (decide (x ≥ ((way.map t3).length : Int)))) = true := by rw [hml]; exact hr
      have ha := appS 8 (by omega) codes [4] (by simp; omega)
      obtain ⟨codes', way', S', tk', fr', r1, r2, r3⟩ := ih (codes ++ [4]) way S tk fr (by omega) (by simp [hc]) ⟨I.st, I.cl, fun i => by have := I.cn i; omega, I.hi⟩ hg (by omega)
      refine ⟨codes', way', S', tk', fr', ?_, ?_, r3⟩
      · rw [whileM_nxt ?_, r1]
        simp only [F4_L3, hd, cond_true, idx_some hx, Option.bind_some, hr, ha, hwk]
      · rw [whileM_nxt ?_, r2]
        simp only [F7_L2, hd, cond_true, idx_some hx, Option.bind_some, hr', ha, hwk]
    | false =>
    have hr' : ((decide (x < 0)) || (decide (x ≥ ((way.map t3).length : Int)))) = false := by rw [hml]; exact hr
    have hr2 := hr
    simp only [Bool.or_eq_false_iff, decide_eq_false_iff_not] at hr2
    obtain ⟨j, rfl⟩ := Int.eq_ofNat_of_zero_le (show 0 ≤ x by omega)
    have hj : j < way.length := by omega
    have hz := List.getElem?_eq_getElem hj
    obtain ⟨hz1, hz2⟩ := hg _ (List.getElem_mem hj)
    generalize way[j] = z at hz hz1 hz2
    obtain ⟨f, t⟩ := z
    obtain ⟨f, rfl⟩ := Int.eq_ofNat_of_zero_le hz1.1
    obtain ⟨t, rfl⟩ := Int.eq_ofNat_of_zero_le hz2.1
    have hf : f < n := by have := hz1.2; simp at this; exact this
    have ht : t < n := by have := hz2.2; simp at this; exact this
    have hz' : (way.map t3)[j]? = some ((f : Int), (t : Int), 0) := by rw [List.getElem?_map, hz]; rfl
    have hdel := del_val way hj (by omega)
    have hwo := without_val way hj (by omega)
    have hg1 : goodW n (way.take j ++ way.drop (j + 1)) := fun z q => by
      rcases List.mem_append.1 q with q | q
      · exact hg z (List.mem_of_mem_take q)
      · exact hg z (List.mem_of_mem_drop q)
    have hl1 : (way.take j ++ way.drop (j + 1)).length ≤ 16 * (k + 1) := by simp; omega
    generalize way.take j ++ way.drop (j + 1) = way1 at hdel hwo hg1 hl1
    have ha := appS 8 (by omega) codes [0] (by simp; omega)
    have hnl : (nr n L t).length ≤ 15 := by have := nrf_len hL (t : Int); unfold nr; omega
    have htk := I.cn t
    -- what both count
    have p1 : idx (tab n fr) (t : Int) = some (fr t) := tab_idx fr ht
    have p2 : idx (NR n L) (t : Int) = some (nr n L t) := tab_idx _ ht
    have p3 := WT_idx (L := L) (tk := tk) ht
    have p4 : w64 (((nr n L t).length : Int) - (tk t : Int) - 1) = ((nr n L t).length : Int) - ((tk t + 1 : Nat) : Int) := by rw [w64_of (by omega) (by omega)]; push_cast; omega
    have p5 := WT_up (L := L) (tk := tk) ht
    have p6 : idx (WT n L (up tk t)) (t : Int) = some (((nr n L t).length : Int) - ((tk t + 1 : Nat) : Int)) := by rw [WT_idx ht]; unfold up; rw [if_pos rfl]
    have q1 : idx (TK n tk) (t : Int) = some (tk t : Int) := tab_idx _ ht
    have q2 : w64 ((tk t : Int) + 1) = ((tk t + 1 : Nat) : Int) := w64_succ (k := tk t) (n := 100) (by omega) (by omega)
    have q3 := TK_up (tk := tk) ht
    have q4 : idx (TK n (up tk t)) (t : Int) = some ((tk t + 1 : Nat) : Int) := by
      have : idx (TK n (up tk t)) (t : Int) = some ((up tk t t : Nat) : Int) := tab_idx _ ht
      rw [this]; unfold up; rw [if_pos rfl]
    have q5 : F17 (n : Int) L (t : Int) = some (nr n L t) := f17_val hn L hl (t : Int)
    have hzero : (((nr n L t).length : Int) - ((tk t + 1 : Nat) : Int) == 0) = ((((tk t + 1 : Nat) : Int)) == ((nr n L t).length : Int)) := by
      rw [Bool.eq_iff_iff, beq_iff_eq, beq_iff_eq]; omega
    have hup : ∀ i, up tk t i ≤ k + 1 := fun i => by unfold up; split <;> (have := I.cn i; omega)
    by_cases hts : t = s
    · subst hts
      have hfs : (fr t == -1) = false := by rw [I.st]; rfl
      have hge : decide (fr t ≥ 0) = false := by rw [I.st]; rfl
      have hne : ((t : Int) != (t : Int)) = false := by simp
      obtain ⟨codes', way', S', tk', fr', r1, r2, r3⟩ := ih (codes ++ [0]) way1 S (up tk t) fr (by omega) (by simp [hc]) ⟨I.st, fun i hi hne => by
        have := I.cl i hi hne
        unfold up; rw [if_neg hne]; exact this, hup, I.hi⟩ hg1 (by omega)
      have hF15 : F15 (NR n L, way1, WT n L tk, tab n fr, S) (f : Int) (t : Int) = some (NR n L, way1, WT n L (up tk t), tab n fr, S) := by
        unfold F15
        simp only [p1, Option.bind_some, hfs, cond_false, p3, p4, Int.toNat_natCast, p5, p6, hzero]
        cases ((((tk t + 1 : Nat) : Int)) == ((nr n L t).length : Int)) <;> simp only [cond_true, cond_false, Option.bind_some, hge]
      refine ⟨codes', way', S', tk', fr', ?_, ?_, r3⟩
      · rw [whileM_nxt ?_, r1]
        simp only [F4_L3, hd, cond_true, cond_false, idx_some hx, Option.bind_some, hr, idx_some hz, hdel, hF15, ha, hwk]
      · rw [whileM_nxt ?_, r2]
        simp only [F7_L2, hd, cond_true, cond_false, idx_some hx, Option.bind_some, hr', idx_some hz', hwo, q1, q2, Int.toNat_natCast, q3, hne, ha, hwk]
    · have hne : ((t : Int) != (s : Int)) = true := by rw [bne_iff_ne]; omega
      obtain ⟨f1, f2⟩ := I.cl t ht hts
      -- the first time
      have first : ∃ way2 S2 fr2, (cond ((fr t == (-1)))
          (Option.bind (idx (tab n fr) (t : Int)) fun x18 =>
          Option.bind (idx (NR n L) (t : Int)) fun (x20 : List Int) =>
          Option.bind (whileM (F15_L0 (f : Int) (t : Int) x20) (way1, S, 0)) fun o37 => Ctl.on o37 (fun (y35, x36) =>
          some (y35, (tab n fr).set (t : Int).toNat (f : Int), x36)) (fun _ => none))
          (some (way1, tab n fr, S))) = some (way2, tab n fr2, S2) ∧
          (cond ((((tk t + 1 : Nat) : Int)) == 1)
          (Option.bind (idx (FR n s fr) (t : Int)) fun x132 =>
          Option.bind (F17 (n : Int) L (t : Int)) fun r134 =>
          Option.bind (whileM (F7_L3 ((f : Int), (t : Int), 0) r134) (way1.map t3, S, 0)) fun o152 => Ctl.on o152 (fun (y150, x151) =>
          some (y150, (FR n s fr).set (t : Int).toNat (f : Int), x151)) (fun _ => none))
          (some (way1.map t3, FR n s fr, S))) = some (way2.map t3, FR n s fr2, S2) ∧ Inv n s (up tk t) fr2 (k + 1) ∧ goodW n way2 ∧ way2.length ≤ way1.length + 15 ∧ 0 ≤ fr2 t := by
        by_cases h0 : tk t = 0
        · have b1 : (fr t == -1) = true := by rw [beq_iff_eq]; exact f2.2 h0
          have b2 : ((((tk t + 1 : Nat) : Int)) == 1) = true := by rw [h0]; rfl
          obtain ⟨way2, S2, l1, l2, l3, l4⟩ := send_loop (f : Int) (t : Int) (nr n L t) (by omega) (nr n L t).length 0 way1 S (by omega) (by omega)
          have l1 : whileM (F15_L0 (f : Int) (t : Int) (nr n L t)) (way1, S, 0) = some (.brk (way2, S2)) := l1
          have l2 : whileM (F7_L3 ((f : Int), (t : Int), 0) (nr n L t)) (way1.map t3, S, 0) = some (.brk (way2.map t3, S2)) := l2
          have e1 : (tab n fr).set t (f : Int) = tab n (upF fr t (f : Int)) := by
            rw [tab_set _ _ ht]; rfl
          have e2 : idx (FR n s fr) (t : Int) = some (fr t) := by
            have : idx (FR n s fr) (t : Int) = some (if t = s then -1 else fr t) := tab_idx _ ht
            rw [this, if_neg hts]
          refine ⟨way2, S2, upF fr t (f : Int), ?_, ?_, ⟨?_, fun i hi hne => ?_, hup, fun i => by unfold upF; split; exact hz1.2; exact I.hi i⟩, fun z q => ?_, by omega, ?_⟩
          · simp only [b1, cond_true, p1, p2, Option.bind_some, l1, Ctl.on, Int.toNat_natCast, e1]
          · simp only [b2, cond_true, e2, q5, Option.bind_some, l2, Ctl.on, Int.toNat_natCast, FR_up ht hts]
          · unfold upF; rw [if_neg (fun e => hts e.symm)]; exact I.st
          · have := I.cl i hi hne
            unfold upF up
            by_cases e : i = t
            · subst e; rw [if_pos rfl, if_pos rfl]; omega
            · rw [if_neg e, if_neg e]; exact this
          · rcases l4 z q with q | q
            · exact hg1 z q
            · rw [q.1]; exact ⟨hz2, nr_mem q.2⟩
          · unfold upF; rw [if_pos rfl]; omega
        · have b1 : (fr t == -1) = false := by rw [beq_eq_false_iff_ne]; exact fun e => h0 (f2.1 e)
          have b2 : ((((tk t + 1 : Nat) : Int)) == 1) = false := by rw [beq_eq_false_iff_ne]; omega
          refine ⟨way1, S, fr, ?_, ?_, ⟨I.st, fun i hi hne => ?_, hup, I.hi⟩, hg1, by omega, ?_⟩
          · simp only [b1, cond_false, Option.bind_some]
          · simp only [b2, cond_false]
          · have := I.cl i hi hne
            unfold up
            by_cases e : i = t
            · subst e; rw [if_pos rfl]; exact ⟨this.1, ⟨fun q => absurd (this.2.1 q) h0, fun q => by omega⟩⟩
            · rw [if_neg e]; exact this
          · have : fr t ≠ -1 := fun e => h0 (f2.1 e)
            omega
      obtain ⟨way2, S2, fr2, g1, g2, I2, hg2, hl2, hpos⟩ := first
      have p7 : idx (tab n fr2) (t : Int) = some (fr2 t) := tab_idx fr2 ht
      have hge : decide (fr2 t ≥ 0) = true := by rw [decide_eq_true_eq]; omega
      have q6 : idx (FR n s fr2) (t : Int) = some (fr2 t) := by
        have : idx (FR n s fr2) (t : Int) = some (if t = s then -1 else fr2 t) := tab_idx _ ht
        rw [this, if_neg hts]
      have hfr2 := I2.hi t
      simp only [p1, Option.bind_some, Int.toNat_natCast] at g1
      cases hlast : ((((tk t + 1 : Nat) : Int)) == ((nr n L t).length : Int)) with
      | true =>
        obtain ⟨codes', way', S', tk', fr', r1, r2, r3⟩ := ih (codes ++ [0]) (way2 ++ [((t : Int), fr2 t)]) (w64 (S2 + 1)) (up tk t) fr2 (by omega) (by simp [hc]) I2 (fun z q => by
          rcases List.mem_append.1 q with q | q
          · exact hg2 z q
          · rw [List.mem_singleton] at q; rw [q]; exact ⟨hz2, hpos, hfr2⟩) (by simp; omega)
        have hF15 : F15 (NR n L, way1, WT n L tk, tab n fr, S) (f : Int) (t : Int) = some (NR n L, way2 ++ [((t : Int), fr2 t)], WT n L (up tk t), tab n fr2, w64 (S2 + 1)) := by
          unfold F15
          simp only [p1, Option.bind_some, Int.toNat_natCast, g1, p3, p4, p5, p6, hzero, hlast, cond_true, p7, hge, f13_val way2 S2 (t : Int) (fr2 t) (by omega)]
        refine ⟨codes', way', S', tk', fr', ?_, ?_, r3⟩
        · rw [whileM_nxt ?_, r1]
          simp only [F4_L3, hd, cond_true, cond_false, idx_some hx, Option.bind_some, hr, idx_some hz, hdel, hF15, ha, hwk]
        · rw [whileM_nxt ?_, r2]
          simp only [F7_L2, hd, cond_true, cond_false, idx_some hx, Option.bind_some, hr', idx_some hz', hwo, q1, q2, Int.toNat_natCast, q3, q4, hne]
          simp only [Int.toNat_natCast, q5, Option.bind_some] at g2
          simp only [g2, q5, Option.bind_some, hlast, cond_true, q6, f16_val way2 S2 (t : Int) (fr2 t) (by omega), ha, hwk]
      | false =>
        obtain ⟨codes', way', S', tk', fr', r1, r2, r3⟩ := ih (codes ++ [0]) way2 S2 (up tk t) fr2 (by omega) (by simp [hc]) I2 hg2 (by omega)
        have hF15 : F15 (NR n L, way1, WT n L tk, tab n fr, S) (f : Int) (t : Int) = some (NR n L, way2, WT n L (up tk t), tab n fr2, S2) := by
          unfold F15
          simp only [p1, Option.bind_some, Int.toNat_natCast, g1, p3, p4, p5, p6, hzero, hlast, cond_false]
        refine ⟨codes', way', S', tk', fr', ?_, ?_, r3⟩
        · rw [whileM_nxt ?_, r1]
          simp only [F4_L3, hd, cond_true, cond_false, idx_some hx, Option.bind_some, hr, idx_some hz, hdel, hF15, ha, hwk]
        · rw [whileM_nxt ?_, r2]
          simp only [F7_L2, hd, cond_true, cond_false, idx_some hx, Option.bind_some, hr', idx_some hz', hwo, q1, q2, Int.toNat_natCast, q3, q4, hne]
          simp only [Int.toNat_natCast, q5, Option.bind_some] at g2
          simp only [g2, q5, Option.bind_some, hlast, cond_false, ha, hwk]
theorem codes_self (l : List Int) (hl : l.length ≤ 9223372036854775807) : F8 l l = some true := by
  have hw : whileM (F8_L0 l l) 0 = some (.brk ()) := by
    refine while_upto (fun (k : Nat) => (k : Int)) l.length (fun k hk => ?_) ?_ (fun s h => by cases h)
    · have hd : decide ((k : Int) < (l.length : Int)) = true := by simpa using hk
      have e : (l[k] != l[k]) = false := by simp
      simp only [F8_L0, hd, cond_true, idx_some (List.getElem?_eq_getElem hk), Option.bind_some, e, cond_false, w64_succ hk hl]
    · have hd : decide ((l.length : Int) < (l.length : Int)) = false := by simp
      simp only [F8_L0, hd, cond_false]
  have e : ((l.length : Int) != (l.length : Int)) = false := by simp
  unfold F8
  rw [e, cond_false, hw]
  rfl
theorem ints_self (l : List Int) (hl : l.length ≤ 9223372036854775807) : F9 l l = some true := by
  have hw : whileM (F9_L0 l l) 0 = some (.brk ()) := by
    refine while_upto (fun (k : Nat) => (k : Int)) l.length (fun k hk => ?_) ?_ (fun s h => by cases h)
    · have hd : decide ((k : Int) < (l.length : Int)) = true := by simpa using hk
      have e : (l[k] != l[k]) = false := by simp
      simp only [F9_L0, hd, cond_true, idx_some (List.getElem?_eq_getElem hk), Option.bind_some, e, cond_false, w64_succ hk hl]
    · have hd : decide ((l.length : Int) < (l.length : Int)) = false := by simp
      simp only [F9_L0, hd, cond_false]
  have e : ((l.length : Int) != (l.length : Int)) = false := by simp
  unfold F9
  rw [e, cond_false, hw]
  rfl
theorem f7_l0 {n : Nat} (hn : n ≤ 6) : whileM (F7_L0 (n : Int)) (tab n fun _ => 0, 0) = some (.brk (tab n fun _ => -1)) := by
  have h0 : whileM (F7_L0 (n : Int)) ((fun k : Nat => (tab n (fun i => if i < k then (-1 : Int) else 0), (k : Int))) 0) = some (.brk (tab n fun _ => -1)) := by
    refine while_upto (fun k : Nat => (tab n (fun i => if i < k then (-1 : Int) else 0), (k : Int))) n (fun k hk => ?_) ?_ (fun s h => by cases h)
    · have hd : decide ((k : Int) < (n : Int)) = true := by rw [decide_eq_true_eq]; omega
      have i1 := tab_idx (fun i => if i < k then (-1 : Int) else 0) hk
      have s1 := tab_set (fun i => if i < k then (-1 : Int) else 0) (-1) hk
      have e1 : (tab n fun i => if i = k then (-1 : Int) else if i < k then -1 else 0) = tab n (fun i => if i < k + 1 then (-1 : Int) else 0) := tab_congr fun i _ => by
        by_cases q : i = k
        · subst q; rw [if_pos rfl, if_pos (by omega)]
        · rw [if_neg q]
          by_cases q2 : i < k
          · rw [if_pos q2, if_pos (by omega)]
          · rw [if_neg q2, if_neg (by omega)]
      simp only [F7_L0, hd, cond_true, i1, Option.bind_some, Int.toNat_natCast, s1, e1, w64_succ hk (show n ≤ 9223372036854775807 by omega)]
    · have hd : decide ((n : Int) < (n : Int)) = false := by simp
      have e1 : (tab n fun i => if i < n then (-1 : Int) else 0) = tab n (fun _ => -1) := tab_congr fun i hi => if_pos hi
      simp only [F7_L0, hd, cond_false, e1]
  exact h0
theorem both_same (h1 : 1 ≤ n) (hn : n ≤ 6) (hL : Ok2 n L) (hl : L.length ≤ 15) (hs : s < n) (a3 : List Int) (h3 : a3.length ≤ 60) (h10 : F10 (n : Int) L (s : Int) a3 = some 0) :
    ∃ cs fs b t, F4 (n : Int) L (s : Int) a3 = some ((cs, fs, b, t), 0) ∧ F7 (n : Int) L (s : Int) a3 = some (cs, fs, b, t) ∧ cs.length ≤ 60 ∧ fs.length ≤ 6 := by
  have m1 : mkl (n : Int) 24 ([] : List Int) = some (tab n fun _ => []) := by
    rw [← tab_rep]; unfold mkl; rw [if_pos ⟨by omega, by omega, by omega⟩]; simp
  have m2 : mkl (n : Int) 8 (0 : Int) = some (tab n fun _ => 0) := by
    rw [← tab_rep]; unfold mkl; rw [if_pos ⟨by omega, by omega, by omega⟩]; simp
  have m3 : F11 [-1] (n : Int) = some (tab n fun _ => -1) := by rw [rep_val h1 hn, tab_rep]
  have l0 := f4_l0 hL hl
  have l1 := f4_l1 hn hL hl (tab n fun i => rowOf L (i : Int)) (tab_len _ _)
  have i1 : idx (tab n fun _ => (-1 : Int)) (s : Int) = some (-1) := tab_idx _ hs
  have i2 : idx (tab n fun i => nrf L (i : Int) n) (s : Int) = some (nr n L s) := tab_idx _ hs
  have hnl : (nr n L s).length ≤ 15 := by have := nrf_len hL (s : Int); unfold nr; omega
  obtain ⟨way, S, r1, r2, r3, r4⟩ := start_loop (s : Int) (nr n L s) (by omega) (nr n L s).length 0 [] 0 (by omega) (by simp; omega)
  have r1 : whileM (F4_L2 (s : Int) (nr n L s)) ([], 0, 0) = some (.brk (way, S)) := r1
  have r2 : whileM (F7_L1 (s : Int) (nr n L s)) ([], 0, 0) = some (.brk (way.map t3, S)) := r2
  have hg : goodW n way := fun z q => by
    rcases r4 z q with q | q
    · cases q
    · rw [q.1]; exact ⟨by omega, nr_mem q.2⟩
  have I0 : Inv n s (fun _ => 0) (fun i => if i = s then -2 else -1) 0 := ⟨if_pos rfl, fun i hi hne => by rw [if_neg hne]; exact ⟨Int.le_refl _, fun _ => rfl, fun _ => rfl⟩, fun i => Nat.le_refl _, fun i => by split <;> omega⟩
  obtain ⟨cs, way', S', tk, fr, e1, e2, e3, I⟩ := echo_loop hn hL hl hs a3 h3 a3.length 0 [] way S (fun _ => 0) (fun i => if i = s then -2 else -1) (by omega) rfl I0 hg (by simp at r3; omega)
  have s1 : (tab n fun _ => (-1 : Int)).set s (-2) = tab n (fun i => if i = s then (-2 : Int) else -1) := tab_set _ _ hs
  have w0 : (tab n fun i => ((nrf L (i : Int) n).length : Int)) = WT n L (fun _ => 0) := by
    unfold WT nr
    exact tab_congr fun i _ => by simp
  have e1 : whileM (F4_L3 a3) ([], way, tab n (fun i => nrf L (i : Int) n), WT n L (fun _ => 0), tab n (fun i => if i = s then (-2 : Int) else -1), S, 0) = some (.brk (cs, way', NR n L, WT n L tk, tab n fr, S')) := e1
  have hFR : FR n s (fun i => if i = s then (-2 : Int) else -1) = tab n fun _ => -1 := by
    unfold FR
    exact tab_congr fun i _ => by
      by_cases e : i = s
      · rw [if_pos e]
      · rw [if_neg e]; exact if_neg e
  rw [hFR] at e2
  have e2 : whileM (F7_L2 (n : Int) L (s : Int) a3) (way.map t3, [], tab n (fun _ => 0), tab n (fun _ => -1), S, 0) = some (.brk (way'.map t3, cs, TK n tk, FR n s fr, S')) := e2
  have j1 := WT_idx (L := L) (tk := tk) hs
  have j2 : idx (tab n fr) (s : Int) = some (fr s) := tab_idx _ hs
  have s2 : (tab n fr).set s (-1) = FR n s fr := tab_set _ _ hs
  have j3 : idx (TK n tk) (s : Int) = some (tk s : Int) := tab_idx _ hs
  have hz : (((nr n L s).length : Int) - (tk s : Int) == 0) = ((tk s : Int) == ((nr n L s).length : Int)) := by
    rw [Bool.eq_iff_iff, beq_iff_eq, beq_iff_eq]; omega
  have q5 : F17 (n : Int) L (s : Int) = some (nr n L s) := f17_val hn L hl (s : Int)
  have l7 := f7_l0 hn
  refine ⟨cs, FR n s fr, ((tk s : Int) == ((nr n L s).length : Int)), S', ?_, ?_, by omega, by unfold FR; rw [tab_len]; exact hn⟩
  · unfold F4
    simp only [h10, Option.bind_some, show ((0 : Int) != 0) = false from rfl, cond_false, m1, m2, m3, l0, l1, Ctl.on, i1, i2, r1, Int.toNat_natCast, s1, w0, e1, j1, j2, s2, hz]
  · unfold F7
    simp only [m2, Option.bind_some, l7, Ctl.on, q5, r2, e2, j3]
theorem law_EchoPlays (a0 : Int) (_ : i64 a0) (a1 : List Lk2) (hl : a1.length ≤ 9223372036854775807) (_ : ∀ x ∈ a1, (i64 x.1) ∧ (i64 x.2)) (a2 : Int) (_ : i64 a2) (a3 : List Int) (h3 : a3.length ≤ 9223372036854775807) (_ : ∀ x ∈ a3, i64 x) : F3 a0 a1 a2 a3 = some true := by
  have c0 := codes_self [] (by simp)
  have z0 := ints_self [] (by simp)
  -- what is refused
  have bad : ∀ c : Int, c ≠ 0 → F10 a0 a1 a2 a3 = some c → (∃ r11 : Int, F5 a0 a1 = some r11 ∧ (cond (((r11 == 0) || (r11 == 2)) && (decide ((a3.length : Int) > 60))) 1 r11 = c ∧ (∀ x : Int, (x = c ∧ c ≠ 0 → (cond ((x == 0) && ((decide (a2 < 0)) || (decide (a2 ≥ a0)))) 2 x) = c))  ∨ (r11 = 0 ∧ decide ((a3.length : Int) > 60) = false ∧ ((((decide (a2 < 0)) || (decide (a2 ≥ a0))) = true ∧ c = 2) ∨ (((decide (a2 < 0)) || (decide (a2 ≥ a0))) = false ∧ anyK (dupP a1) a1 0 = true ∧ c = 3))))) → F3 a0 a1 a2 a3 = some true := by
    intro c hc h10 ⟨r11, h5, hh⟩
    have hcb : (c != 0) = true := by simpa using hc
    have hcb0 : (c == 0) = false := by simpa using hc
    have h4 : F4 a0 a1 a2 a3 = some (([], [], false, 0), c) := by
      unfold F4
      simp only [h10, Option.bind_some, hcb, cond_true]
    have h6 := f6_val a1 hl
    unfold F3
    simp only [h4, h5, Option.bind_some]
    rcases hh with ⟨hx, hy⟩ | ⟨rfl, hx, hh⟩
    · have e15 : (cond (((r11 == 0) || (r11 == 2)) && (decide ((a3.length : Int) > 60))) (some 1) (some r11) : Option Int) = some c := by
        rw [← hx]; cases (((r11 == 0) || (r11 == 2)) && (decide ((a3.length : Int) > 60))) <;> rfl
      simp only [e15, Option.bind_some, hcb0, Bool.false_and, cond_false, c0, z0, beq_self_eq_true, cond_true]
      rfl
    · rcases hh with ⟨h2, rfl⟩ | ⟨h2, h7, rfl⟩
      · simp only [hx, Bool.and_false, cond_false, Option.bind_some, show ((0 : Int) == 0) = true from rfl, Bool.true_and, h2, cond_true, hcb0, c0, z0, beq_self_eq_true]
      · simp only [hx, Bool.and_false, cond_false, Option.bind_some, show ((0 : Int) == 0) = true from rfl, Bool.true_and, h2, cond_true, h6, h7, hcb0, c0, z0, beq_self_eq_true]
  have l10 := f10_l0 (a0 := a0) (a1 := a1) hl
  have l5 := f5_l0 (a0 := a0) (a1 := a1) hl
  have l11 := f10_l1 a1 hl
  cases cA : (((decide (a0 < 1)) || (decide (a0 > 6))) || (decide ((a1.length : Int) > 15))) with
  | true =>
    refine bad 1 (by decide) (by unfold F10; rw [cA]; rfl) ⟨1, by unfold F5; rw [cA]; rfl, .inl ⟨rfl, fun x hx => by rw [hx.1]; rfl⟩⟩
  | false =>
  cases cB : decide ((a3.length : Int) > 60) with
  | true =>
    refine bad 1 (by decide) (by unfold F10; rw [cA, cB]; rfl) ?_
    cases cC : a1.any (off1 a0) with
    | true => exact ⟨2, by unfold F5; rw [cA, l5, cC]; rfl, .inl ⟨by rw [cB]; rfl, fun x hx => by rw [hx.1]; rfl⟩⟩
    | false => exact ⟨0, by unfold F5; rw [cA, l5, cC]; rfl, .inl ⟨by rw [cB]; rfl, fun x hx => by rw [hx.1]; rfl⟩⟩
  | false =>
  cases cC : a1.any (off1 a0) with
  | true =>
    refine bad 2 (by decide) (by unfold F10; rw [cA, cB, l10, cC]; rfl) ⟨2, by unfold F5; rw [cA, l5, cC]; rfl, .inl ⟨by rw [cB]; rfl, fun x hx => by rw [hx.1]; rfl⟩⟩
  | false =>
  have h5 : F5 a0 a1 = some 0 := by unfold F5; rw [cA, l5, cC]; rfl
  cases cD : ((decide (a2 < 0)) || (decide (a2 ≥ a0))) with
  | true => exact bad 2 (by decide) (by unfold F10; rw [cA, cB, l10, cC]; simp only [Bool.or_false, cond_false, found, Option.bind_some, Ctl.on, cD]; rfl) ⟨0, h5, .inr ⟨rfl, cB, .inl ⟨cD, rfl⟩⟩⟩
  | false =>
  cases cE : anyK (dupP a1) a1 0 with
  | true => exact bad 3 (by decide) (by unfold F10; rw [cA, cB, l10, cC]; simp only [Bool.or_false, cond_false, found, Option.bind_some, Ctl.on, cD, l11, cE]; rfl) ⟨0, h5, .inr ⟨rfl, cB, .inr ⟨cD, cE, rfl⟩⟩⟩
  | false =>
  have h10 : F10 a0 a1 a2 a3 = some 0 := by unfold F10; rw [cA, cB, l10, cC]; simp only [Bool.or_false, cond_false, found, Option.bind_some, Ctl.on, cD, l11, cE]
  have h6 := f6_val a1 hl
  rw [cE] at h6
  simp only [Bool.or_eq_false_iff, decide_eq_false_iff_not] at cA cB cD
  obtain ⟨n, rfl⟩ := Int.eq_ofNat_of_zero_le (show 0 ≤ a0 by omega)
  obtain ⟨s, rfl⟩ := Int.eq_ofNat_of_zero_le (show 0 ≤ a2 by omega)
  have hL : Ok2 n a1 := fun l q => by
    have := List.any_eq_false.1 cC l q
    unfold off1 at this
    simp only [Bool.or_eq_true, decide_eq_true_eq, beq_iff_eq] at this
    omega
  obtain ⟨cs, fs, b, t, e1, e2, e3, e4⟩ := both_same (n := n) (s := s) (by omega) (by omega) hL (by omega) (by omega) a3 (by omega) h10
  have k1 : decide ((a3.length : Int) > 60) = false := by rw [decide_eq_false_iff_not]; omega
  have k2 : ((decide ((s : Int) < 0)) || (decide ((s : Int) ≥ (n : Int)))) = false := by rw [Bool.or_eq_false_iff, decide_eq_false_iff_not, decide_eq_false_iff_not]; omega
  have c1 := codes_self cs (by omega)
  have z1 := ints_self fs (by omega)
  unfold F3
  simp only [e1, h5, Option.bind_some, k1, Bool.and_false, cond_false, show ((0 : Int) == 0) = true from rfl, Bool.true_and, k2, cond_true, h6, e2, c1, z1, beq_self_eq_true]
end Go.Proofs.Ytpeijfboikfcjaa
