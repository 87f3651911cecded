/-
  The plain law of TreePlays.
-/
import Derived.Test.YtadfgohglcglcaaDoorPDeed
import Derived.Test.YtadfgohglcglcaaDoorBk6
namespace Go.Proofs.YtadfgohglcglcaaDoor
open Go Go.Bk
set_option linter.unusedVariables false
set_option linter.unusedSimpArgs false
theorem sEq_self (x : ByteArray) : sEq x x = true := by rw [sEq_iff]; simp
theorem f16_self (t : Tl) (h : t.2.2.2.length ≤ 12) : F16 t t = some true := by
  have hw : whileM (F16_L0 t t) 0 = some (.brk ()) := by
    refine while_upto (fun (k : Nat) => (k : Int)) t.2.2.2.length (fun k hk => ?_) ?_ (fun s h => by cases h)
    · have hd : decide ((k : Int) < (t.2.2.2.length : Int)) = true := by simpa using hk
      simp only [F16_L0, hd, cond_true, idx_some (List.getElem?_eq_getElem hk), Option.bind_some, sEq_self, Bool.not_true, cond_false, w64_succ hk (show t.2.2.2.length ≤ 9223372036854775807 by omega)]
    · have hd : decide ((t.2.2.2.length : Int) < (t.2.2.2.length : Int)) = false := by simp
      simp only [F16_L0, hd, cond_false]
  have e : (((((t.1 != t.1) || (!sEq t.2.1 t.2.1)) || (t.2.2.1 != t.2.2.1)) || ((t.2.2.2.length : Int) != (t.2.2.2.length : Int)))) = false := by simp [sEq_self]
  unfold F16
  rw [e, cond_false, hw]
  rfl
theorem f13_self (ts : List Tl) (hl : ts.length ≤ 1000) (h : ∀ t ∈ ts, t.2.2.2.length ≤ 12) : F13 ts ts = some true := by
  have hw : whileM (F13_L0 ts ts) 0 = some (.brk ()) := by
    refine while_upto (fun (k : Nat) => (k : Int)) ts.length (fun k hk => ?_) ?_ (fun s h => by cases h)
    · have hd : decide ((k : Int) < (ts.length : Int)) = true := by simpa using hk
      have hs := f16_self ts[k] (h _ (List.getElem_mem hk))
      have hs' : F16 (ts[k].1, ts[k].2.1, ts[k].2.2.1, ts[k].2.2.2) (ts[k].1, ts[k].2.1, ts[k].2.2.1, ts[k].2.2.2) = some true := hs
      simp only [F13_L0, hd, cond_true, idx_some (List.getElem?_eq_getElem hk), Option.bind_some, hs', Bool.not_true, cond_false, w64_succ hk (show ts.length ≤ 9223372036854775807 by omega)]
    · have hd : decide ((ts.length : Int) < (ts.length : Int)) = false := by simp
      simp only [F13_L0, hd, cond_false]
  unfold F13
  rw [show ((ts.length : Int) != (ts.length : Int)) = false by simp, cond_false, hw]
  rfl
theorem app56 (ts : List Tl) (t : Tl) (h : ts.length ≤ 1000) : appl 56 ts [t] = some (ts ++ [t]) := by
  unfold appl; rw [if_pos]; simp; omega
theorem R.start : R (mupd mzero (ByteArray.mk #[47]) (ByteArray.empty, 0)) [(ByteArray.mk #[47], ByteArray.empty, 0)] := by
  have h0 : R (mzero : Mp) [] := ⟨Enum.zero, fun x hx => (by cases hx), by simp⟩
  exact h0.add rfl ⟨rfl, by decide⟩ (by simp)
/-- A script, by both. -/
theorem plays (ds : List Dd) (hl : ds.length ≤ 60) (hp : ∀ d ∈ ds, d.2.1.size ≤ 9223372036854775807) : ∀ (m k : Nat) (ts : List Tl) (M : Mp) (l : List Nd), k + m = ds.length → ts.length = k → (∀ t ∈ ts, t.2.2.2.length ≤ 12) → R M l →
    ∃ ts' M' l', whileM (F15_L0 ds) (ts, M, (k : Int)) = some (.brk (ts', M')) ∧ whileM (F19_L0 ds) (l, ts, (k : Int)) = some (.brk (l', ts')) ∧ R M' l' ∧ ts'.length = ds.length ∧ ∀ t ∈ ts', t.2.2.2.length ≤ 12
  | 0, k, ts, M, l, hk, ht, hb, hR => by
    have hd : decide ((k : Int) < (ds.length : Int)) = false := by rw [decide_eq_false_iff_not]; omega
    refine ⟨ts, M, l, whileM_brk ?_, whileM_brk ?_, hR, by omega, hb⟩
    · simp only [F15_L0, hd, cond_false]
    · simp only [F19_L0, hd, cond_false]
  | m + 1, k, ts, M, l, hk, ht, hb, hR => by
    have hlt : k < ds.length := by omega
    have hd : decide ((k : Int) < (ds.length : Int)) = true := by simpa using hlt
    have hg := List.getElem?_eq_getElem hlt
    obtain ⟨t, M', l', h1, h2, h3, h4⟩ := deed hR ds[k] (hp _ (List.getElem_mem hlt))
    have h1' : F29 M (ds[k].1, ds[k].2.1, ds[k].2.2.1, ds[k].2.2.2) = some (t, M') := h1
    have h2' : F30 l (ds[k].1, ds[k].2.1, ds[k].2.2.1, ds[k].2.2.2) = some (l', t) := h2
    have ha := app56 ts t (by omega)
    have ha' : appl 56 ts [(t.1, t.2.1, t.2.2.1, t.2.2.2)] = some (ts ++ [t]) := ha
    have hw := w64_succ hlt (show ds.length ≤ 9223372036854775807 by omega)
    obtain ⟨ts', M'', l'', r1, r2, r3, r4, r5⟩ := plays ds hl hp m (k + 1) (ts ++ [t]) M' l' (by omega) (by simp [ht]) (fun x hx => by
      rcases List.mem_append.1 hx with q | q
      · exact hb x q
      · rw [List.mem_singleton] at q; rw [q]; exact h4) h3
    refine ⟨ts', M'', l'', ?_, ?_, r3, r4, r5⟩
    · rw [whileM_nxt ?_, r1]
      simp only [F15_L0, hd, cond_true, idx_some hg, Option.bind_some, h1', ha', hw]
    · rw [whileM_nxt ?_, r2]
      simp only [F19_L0, hd, cond_true, idx_some hg, Option.bind_some, h2', ha', hw]
theorem law_TreePlays (a0 : List Dd) (h : a0.length ≤ 9223372036854775807) (wf : ∀ x ∈ a0, (i64 x.1) ∧ (x.2.1.size ≤ maxLen) ∧ (x.2.2.1.size ≤ maxLen) ∧ (i64 x.2.2.2)) : F6 a0 = some true := by
  unfold F6 F15
  by_cases c : a0.length > 60
  · have e : decide ((a0.length : Int) > 60) = true := by rw [decide_eq_true_eq]; omega
    simp only [e, cond_true, Option.bind_some]
    rfl
  · have e : decide ((a0.length : Int) > 60) = false := by rw [decide_eq_false_iff_not]; omega
    obtain ⟨ts, M, l, h1, h2, h3, h4, h5⟩ := plays a0 (by omega) (fun d hd => (wf d hd).2.1) a0.length 0 [] _ _ (by omega) rfl (fun t ht => by cases ht) R.start
    have h1' : whileM (F15_L0 a0) ([], mupd mzero (ByteArray.mk #[47]) (ByteArray.empty, 0), 0) = some (.brk (ts, M)) := h1
    have h2' : whileM (F19_L0 a0) ([(ByteArray.mk #[47], ByteArray.empty, 0)], [], 0) = some (.brk (l, ts)) := h2
    unfold F26 F20 F19
    simp only [e, cond_false, Option.bind_some, h1', h2', Ctl.on]
    rw [f13_self ts (by omega) h5]
    rfl
end Go.Proofs.YtadfgohglcglcaaDoor
