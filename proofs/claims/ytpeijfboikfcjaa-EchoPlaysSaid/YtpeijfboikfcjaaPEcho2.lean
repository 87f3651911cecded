/-
  The plain law of EchoPlays: message by message.
-/
import Derived.Test.YtpeijfboikfcjaaPEcho
namespace Go.Proofs.Ytpeijfboikfcjaa
open Go Go.Bk
set_option linter.unusedVariables false
set_option linter.unusedSimpArgs false
/-- A list by what stands at each place. -/
def tab {α : Type} (n : Nat) (f : Nat → α) : List α := (List.range n).map f
theorem tab_len {α : Type} (n : Nat) (f : Nat → α) : (tab n f).length = n := by unfold tab; simp
theorem tab_get {α : Type} {n i : Nat} (f : Nat → α) (h : i < n) : (tab n f)[i]? = some (f i) := by
  unfold tab; rw [List.getElem?_map, List.getElem?_range h]; rfl
theorem tab_idx {α : Type} {n i : Nat} (f : Nat → α) (h : i < n) : idx (tab n f) (i : Int) = some (f i) := idx_some (tab_get f h)
theorem tab_ext {α : Type} {n : Nat} {f : Nat → α} {l : List α} (hl : l.length = n) (h : ∀ i, i < n → l[i]? = some (f i)) : l = tab n f := by
  apply List.ext_getElem?
  intro i
  by_cases q : i < n
  · rw [h i q, tab_get f q]
  · rw [List.getElem?_eq_none (by omega), List.getElem?_eq_none (by rw [tab_len]; omega)]
theorem tab_set {α : Type} {n k : Nat} (f : Nat → α) (v : α) (h : k < n) : (tab n f).set k v = tab n fun i => if i = k then v else f i := by
  refine tab_ext (by rw [List.length_set, tab_len]) fun i hi => ?_
  rw [List.getElem?_set]
  by_cases e : k = i
  · subst e; rw [if_pos rfl, if_pos (by rw [tab_len]; exact h), if_pos rfl]
  · rw [if_neg e, tab_get f hi, if_neg fun q => e q.symm]
theorem tab_rep {α : Type} (n : Nat) (v : α) : List.replicate n v = tab n fun _ => v := tab_ext (by simp) fun i hi => by rw [List.getElem?_replicate, if_pos hi]
theorem tab_congr {α : Type} {n : Nat} {f g : Nat → α} (h : ∀ i, i < n → f i = g i) : tab n f = tab n g := tab_ext (tab_len n f) fun i hi => by rw [tab_get f hi, h i hi]
theorem row_snoc (L : List Lk2) (l : Lk2) (i : Int) : rowOf (L ++ [l]) i = rowOf L i ++ (oth i l).toList := by
  unfold rowOf
  rw [List.filterMap_append]
  congr 1
theorem f4_l0 {n : Nat} {L : List Lk2} (hL : Ok2 n L) (hl : L.length ≤ 15) : whileM (F4_L0 L) (tab n fun _ => [], 0) = some (.brk (tab n fun i => rowOf L (i : Int))) := by
  have h0 : whileM (F4_L0 L) ((fun k : Nat => (tab n (fun i => rowOf (L.take k) (i : Int)), (k : Int))) 0) = some (.brk (tab n fun i => rowOf L (i : Int))) := by
    refine while_upto (fun k : Nat => (tab n (fun i => rowOf (L.take k) (i : Int)), (k : Int))) L.length (fun k hk => ?_) ?_ (fun s h => by cases h)
    · have hd : decide ((k : Int) < (L.length : Int)) = true := by rw [decide_eq_true_eq]; omega
      have hg := List.getElem?_eq_getElem hk
      obtain ⟨h1, h2, h3⟩ := hL _ (List.getElem_mem hk)
      have htk : L.take (k + 1) = L.take k ++ [L[k]] := by rw [List.take_add_one, hg]; rfl
      generalize L[k] = l at hg h1 h2 h3 htk
      obtain ⟨a, b⟩ := l
      obtain ⟨a, rfl⟩ := Int.eq_ofNat_of_zero_le h1.1
      obtain ⟨b, rfl⟩ := Int.eq_ofNat_of_zero_le h2.1
      have ha : a < n := by have := h1.2; simp at this; exact this
      have hb : b < n := by have := h2.2; simp at this; exact this
      have hab : a ≠ b := fun e => h3 (by rw [e])
      have hlen : ∀ i : Int, (rowOf (L.take k) i).length ≤ 15 := fun i => by have := row_len (L.take k) i; rw [List.length_take] at this; omega
      have i1 := tab_idx (fun i => rowOf (L.take k) (i : Int)) ha
      have a1 := appS 8 (by omega) (rowOf (L.take k) (a : Int)) [(b : Int)] (by have := hlen (a : Int); simp; omega)
      have s1 := tab_set (fun i => rowOf (L.take k) (i : Int)) (rowOf (L.take k) (a : Int) ++ [(b : Int)]) ha
      have i2 := tab_idx (fun i => if i = a then rowOf (L.take k) (a : Int) ++ [(b : Int)] else rowOf (L.take k) (i : Int)) hb
      simp only [if_neg (show ¬ b = a from fun e => hab e.symm)] at i2
      have a2 := appS 8 (by omega) (rowOf (L.take k) (b : Int)) [(a : Int)] (by have := hlen (b : Int); simp; omega)
      have s2 := tab_set (fun i => if i = a then rowOf (L.take k) (a : Int) ++ [(b : Int)] else rowOf (L.take k) (i : Int)) (rowOf (L.take k) (b : Int) ++ [(a : Int)]) hb
      have e : (tab n fun i => if i = b then rowOf (L.take k) (b : Int) ++ [(a : Int)] else if i = a then rowOf (L.take k) (a : Int) ++ [(b : Int)] else rowOf (L.take k) (i : Int)) = tab n (fun i => rowOf (L.take (k + 1)) (i : Int)) := by
        refine tab_congr fun i hi => ?_
        rw [htk, row_snoc]
        by_cases q1 : i = b
        · subst q1
          rw [if_pos rfl]
          congr 1
          unfold oth
          rw [if_neg (show ¬ ((a : Int) = (i : Int)) by omega), if_pos rfl]
          rfl
        · rw [if_neg q1]
          by_cases q2 : i = a
          · subst q2
            rw [if_pos rfl]
            congr 1
            unfold oth
            rw [if_pos rfl]
            rfl
          · rw [if_neg q2]
            have : oth (i : Int) ((a : Int), (b : Int)) = none := by unfold oth; rw [if_neg (show ¬ ((a : Int) = (i : Int)) by omega), if_neg (show ¬ ((b : Int) = (i : Int)) by omega)]
            rw [this]
            simp
      simp only [F4_L0, hd, cond_true, idx_some hg, Option.bind_some, i1, a1, Int.toNat_natCast, s1, i2, a2, s2, e, w64_succ hk (show L.length ≤ 9223372036854775807 by omega)]
    · have hd : decide ((L.length : Int) < (L.length : Int)) = false := by simp
      simp only [F4_L0, hd, cond_false, List.take_length]
  exact h0
theorem f4_l1 {n : Nat} (hn : n ≤ 6) {L : List Lk2} (hL : Ok2 n L) (hl : L.length ≤ 15) (y25 : List (List Int)) (hy : y25.length = n) :
    whileM (F4_L1 y25) (tab n (fun i => rowOf L (i : Int)), tab n (fun _ => 0), 0) = some (.brk (tab n (fun i => nrf L (i : Int) n), tab n (fun i => ((nrf L (i : Int) n).length : Int)))) := by
  have h0 : whileM (F4_L1 y25) ((fun k : Nat => (tab n (fun i => if i < k then nrf L (i : Int) n else rowOf L (i : Int)), tab n (fun i => if i < k then ((nrf L (i : Int) n).length : Int) else 0), (k : Int))) 0) = some (.brk (tab n (fun i => nrf L (i : Int) n), tab n (fun i => ((nrf L (i : Int) n).length : Int)))) := by
    refine while_upto (fun k : Nat => (tab n (fun i => if i < k then nrf L (i : Int) n else rowOf L (i : Int)), tab n (fun i => if i < k then ((nrf L (i : Int) n).length : Int) else 0), (k : Int))) n (fun k hk => ?_) ?_ (fun s h => by cases h)
    · have hd : decide ((k : Int) < (y25.length : Int)) = true := by rw [decide_eq_true_eq]; omega
      have i1 := tab_idx (fun i => if i < k then nrf L (i : Int) n else rowOf L (i : Int)) hk
      simp only [Nat.lt_irrefl, if_false] at i1
      have i2 := tab_idx (fun i => if i < k then ((nrf L (i : Int) n).length : Int) else 0) hk
      have hs : srt (rowOf L (k : Int)) = some (nrf L (k : Int) n) := by
        unfold srt
        rw [if_pos (by have := row_len L (k : Int); omega), row_sorted hL]
      have s1 := tab_set (fun i => if i < k then nrf L (i : Int) n else rowOf L (i : Int)) (nrf L (k : Int) n) hk
      have s2 := tab_set (fun i => if i < k then ((nrf L (i : Int) n).length : Int) else 0) ((nrf L (k : Int) n).length : Int) hk
      have e1 : (tab n fun i => if i = k then nrf L (k : Int) n else if i < k then nrf L (i : Int) n else rowOf L (i : Int)) = tab n (fun i => if i < k + 1 then nrf L (i : Int) n else rowOf L (i : Int)) := tab_congr fun i _ => by
        by_cases q : i = k
        · subst q; rw [if_pos rfl, if_pos (by omega)]
        · rw [if_neg q]
          by_cases q2 : i < k
          · rw [if_pos q2, if_pos (by omega)]
          · rw [if_neg q2, if_neg (by omega)]
      have e2 : (tab n fun i => if i = k then ((nrf L (k : Int) n).length : Int) else if i < k then ((nrf L (i : Int) n).length : Int) else 0) = tab n (fun i => if i < k + 1 then ((nrf L (i : Int) n).length : Int) else 0) := tab_congr fun i _ => by
        by_cases q : i = k
        · subst q; rw [if_pos rfl, if_pos (by omega)]
        · rw [if_neg q]
          by_cases q2 : i < k
          · rw [if_pos q2, if_pos (by omega)]
          · rw [if_neg q2, if_neg (by omega)]
      simp only [F4_L1, hd, cond_true, i1, Option.bind_some, hs, i2, Int.toNat_natCast, s1, s2, e1, e2, w64_succ hk (show n ≤ 9223372036854775807 by omega)]
    · have hd : decide ((n : Int) < (y25.length : Int)) = false := by rw [hy]; simp
      have e1 : (tab n fun i => if i < n then nrf L (i : Int) n else rowOf L (i : Int)) = tab n (fun i => nrf L (i : Int) n) := tab_congr fun i hi => if_pos hi
      have e2 : (tab n fun i => if i < n then ((nrf L (i : Int) n).length : Int) else 0) = tab n (fun i => ((nrf L (i : Int) n).length : Int)) := tab_congr fun i hi => if_pos hi
      simp only [F4_L1, hd, cond_false, e1, e2]
  have h00 : (fun k : Nat => (tab n (fun i => if i < k then nrf L (i : Int) n else rowOf L (i : Int)), tab n (fun i => if i < k then ((nrf L (i : Int) n).length : Int) else 0), (k : Int))) 0 = (tab n (fun i => rowOf L (i : Int)), tab n (fun _ => (0 : Int)), (0 : Int)) := rfl
  rw [h00] at h0
  exact h0
abbrev Ms := Int × Int
def t3 (x : Ms) : Int × Int × Int := (x.1, x.2, 0)
theorem f13_val (way : List Ms) (s a b : Int) (h : way.length ≤ 5000) : F13 (way, s) a b = some (way ++ [(a, b)], w64 (s + 1)) := by
  unfold F13
  rw [show appl 16 (way, s).1 ([(a, b)] : List Ms) = some (way ++ [(a, b)]) from appS 16 (by omega) way [(a, b)] (by simp; omega)]
  rfl
theorem f16_val (way : List Ms) (s a b : Int) (h : way.length ≤ 5000) : F16 a b (way.map t3) s = some ((way ++ [(a, b)]).map t3, w64 (s + 1)) := by
  unfold F16
  rw [appS 24 (by omega) (way.map t3) [(a, b, 0)] (by simp; omega)]
  simp [t3]
theorem start_loop (t : Int) (xs : List Int) (hx : xs.length ≤ 5000) : ∀ (m k : Nat) (way : List Ms) (s : Int), k + m = xs.length → way.length + m ≤ 5000 →
    ∃ way' s', whileM (F4_L2 t xs) (way, s, (k : Int)) = some (.brk (way', s')) ∧ whileM (F7_L1 t xs) (way.map t3, s, (k : Int)) = some (.brk (way'.map t3, s')) ∧ way'.length ≤ way.length + m ∧ ∀ z ∈ way', z ∈ way ∨ (z.1 = t ∧ z.2 ∈ xs)
  | 0, k, way, s, hk, hw => by
    have hd : decide ((k : Int) < (xs.length : Int)) = false := by rw [decide_eq_false_iff_not]; omega
    refine ⟨way, s, whileM_brk ?_, whileM_brk ?_, Nat.le_refl _, fun z hz => .inl hz⟩
    · simp only [F4_L2, hd, cond_false]
    · simp only [F7_L1, hd, cond_false]
  | m + 1, k, way, s, hk, hw => by
    have hlt : k < xs.length := by omega
    have hd : decide ((k : Int) < (xs.length : Int)) = true := by rw [decide_eq_true_eq]; omega
    have hg := List.getElem?_eq_getElem hlt
    have hwk := w64_succ (k := k) (n := 5001) (by omega) (by omega)
    obtain ⟨way', s', r1, r2, r3, r4⟩ := start_loop t xs hx m (k + 1) (way ++ [(t, xs[k])]) (w64 (s + 1)) (by omega) (by simp; omega)
    refine ⟨way', s', ?_, ?_, by simp at r3; omega, fun z hz => ?_⟩
    · rw [whileM_nxt ?_, r1]
      simp only [F4_L2, hd, cond_true, idx_some hg, Option.bind_some, f13_val way s t xs[k] (by omega), hwk]
    · rw [whileM_nxt ?_, r2]
      simp only [F7_L1, hd, cond_true, idx_some hg, Option.bind_some, f16_val way s t xs[k] (by omega), hwk]
    · rcases r4 z hz with q | q
      · rcases List.mem_append.1 q with q | q
        · exact .inl q
        · rw [List.mem_singleton] at q; subst q; exact .inr ⟨rfl, List.getElem_mem hlt⟩
      · exact .inr q
theorem send_loop (f t : Int) (xs : List Int) (hx : xs.length ≤ 5000) : ∀ (m k : Nat) (way : List Ms) (s : Int), k + m = xs.length → way.length + m ≤ 5000 →
    ∃ way' s', whileM (F15_L0 f t xs) (way, s, (k : Int)) = some (.brk (way', s')) ∧ whileM (F7_L3 (f, t, 0) xs) (way.map t3, s, (k : Int)) = some (.brk (way'.map t3, s')) ∧ way'.length ≤ way.length + m ∧ ∀ z ∈ way', z ∈ way ∨ (z.1 = t ∧ z.2 ∈ xs)
  | 0, k, way, s, hk, hw => by
    have hd : decide ((k : Int) < (xs.length : Int)) = false := by rw [decide_eq_false_iff_not]; omega
    refine ⟨way, s, whileM_brk ?_, whileM_brk ?_, Nat.le_refl _, fun z hz => .inl hz⟩
    · simp only [F15_L0, hd, cond_false]
    · simp only [F7_L3, hd, cond_false]
  | m + 1, k, way, s, hk, hw => by
    have hlt : k < xs.length := by omega
    have hd : decide ((k : Int) < (xs.length : Int)) = true := by rw [decide_eq_true_eq]; omega
    have hg := List.getElem?_eq_getElem hlt
    have hwk := w64_succ (k := k) (n := 5001) (by omega) (by omega)
    cases c : (xs[k] != f) with
    | true =>
      obtain ⟨way', s', r1, r2, r3, r4⟩ := send_loop f t xs hx m (k + 1) (way ++ [(t, xs[k])]) (w64 (s + 1)) (by omega) (by simp; omega)
      refine ⟨way', s', ?_, ?_, by simp at r3; omega, fun z hz => ?_⟩
      · rw [whileM_nxt ?_, r1]
        simp only [F15_L0, hd, cond_true, idx_some hg, Option.bind_some, c, f13_val way s t xs[k] (by omega), hwk]
      · rw [whileM_nxt ?_, r2]
        simp only [F7_L3, hd, cond_true, idx_some hg, Option.bind_some, c, f16_val way s t xs[k] (by omega), hwk]
      · rcases r4 z hz with q | q
        · rcases List.mem_append.1 q with q | q
          · exact .inl q
          · rw [List.mem_singleton] at q; subst q; exact .inr ⟨rfl, List.getElem_mem hlt⟩
        · exact .inr q
    | false =>
      obtain ⟨way', s', r1, r2, r3, r4⟩ := send_loop f t xs hx m (k + 1) way s (by omega) (by omega)
      refine ⟨way', s', ?_, ?_, by omega, r4⟩
      · rw [whileM_nxt ?_, r1]
        simp only [F15_L0, hd, cond_true, cond_false, idx_some hg, Option.bind_some, c, hwk]
      · rw [whileM_nxt ?_, r2]
        simp only [F7_L3, hd, cond_true, cond_false, idx_some hg, Option.bind_some, c, hwk]
theorem del_val (way : List Ms) {k : Nat} (hk : k < way.length) (h : way.length ≤ 5000) : F14 way (k : Int) (w64 ((k : Int) + 1)) = some (way.take k ++ way.drop (k + 1)) := by
  rw [w64_succ hk (by omega)]
  unfold F14 delM slI
  rw [if_pos ⟨by omega, by omega, by omega⟩]
  have : ((k : Int) == ((k + 1 : Nat) : Int)) = false := by rw [beq_eq_false_iff_ne]; omega
  simp only [Option.bind_some, this, cond_false, Int.toNat_natCast]
theorem without_val (way : List Ms) {k : Nat} (hk : k < way.length) (h : way.length ≤ 5000) : F18 (way.map t3) (k : Int) = some ((way.take k ++ way.drop (k + 1)).map t3) := by
  have s1 : slI (way.map t3) 0 (k : Int) = some ((way.map t3).take k) := by unfold slI; rw [if_pos ⟨by omega, by omega, by rw [List.length_map]; omega⟩]; simp
  have s2 : slI (way.map t3) (w64 ((k : Int) + 1)) ((way.map t3).length : Int) = some ((way.map t3).drop (k + 1)) := by
    rw [w64_succ hk (by omega)]
    unfold slI
    rw [if_pos ⟨by omega, by rw [List.length_map]; omega, by omega⟩]
    simp only [Int.toNat_natCast, List.take_length]
  unfold F18
  simp only [s1, s2, Option.bind_some, appS 24 (by omega) ([] : List (Int × Int × Int)) ((way.map t3).take k) (by simp; omega), appS 24 (by omega) ([] ++ (way.map t3).take k) ((way.map t3).drop (k + 1)) (by simp; omega)]
  rw [List.nil_append, List.map_append, List.map_take, List.map_drop]
end Go.Proofs.Ytpeijfboikfcjaa
