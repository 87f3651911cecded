/-
  One deed: the program's tree (a map) and the reference's (a list) tell the same.
-/
import Derived.Test.YtadfgohglcglcaaDoorPBelow
namespace Go.Proofs.YtadfgohglcglcaaDoor
open Go Go.Bk
set_option linter.unusedVariables false
set_option linter.unusedSimpArgs false
abbrev Nd := ByteArray × ByteArray × Int
abbrev Mp := ByteArray → Option (ByteArray × Int)
abbrev Tl := Int × ByteArray × Int × List ByteArray
abbrev Dd := Int × ByteArray × ByteArray × Int
/-- The program's tree and the reference's. -/
structure R (M : Mp) (l : List Nd) : Prop where
  en : Enum M l
  nm : ∀ x ∈ l, OkN x.1
  len : l.length ≤ 12
theorem R.mem {M : Mp} {l : List Nd} (h : R M l) {p : ByteArray} {v : ByteArray × Int} : M p = some v ↔ (p, v) ∈ l := (h.en.2 p v).symm
theorem R.absent {M : Mp} {l : List Nd} (h : R M l) {p : ByteArray} : M p = none ↔ ∀ x ∈ l, x.1 ≠ p := by
  constructor
  · intro hp x hx e
    have := h.mem.2 (show (x.1, x.2) ∈ l from hx)
    rw [e, hp] at this; cases this
  · intro hx
    cases hp : M p with
    | none => rfl
    | some v => exact (hx _ (h.mem.1 hp) rfl).elim
/-- Where a name stands. -/
theorem f40_val {l : List Nd} (hl : l.length ≤ 1000) (p : ByteArray) : F40 l p = some (match scan (fun k (x : Nd) => if x.1 = p then some (k : Int) else none) l 0 with
    | some i => i
    | none => -1) := by
  have h : whileM (F40_L0 l p) 0 = some (found () (scan (fun k (x : Nd) => if x.1 = p then some (k : Int) else none) l 0)) := by
    refine while_scan (by omega) _ (fun k e hk => ?_) (by simp [F40_L0])
    have hlt := lt_of_get hk
    have hd : decide ((k : Int) < (l.length : Int)) = true := by simpa using hlt
    simp only [F40_L0, hd, cond_true, idx_some hk, Option.bind_some, sEq_iff]
    by_cases c : e.1 = p
    · simp [c, going]
    · simp [c, going]
  unfold F40
  rw [h]
  cases scan (fun k (x : Nd) => if x.1 = p then some (k : Int) else none) l 0 <;> rfl
theorem where_some {M : Mp} {l : List Nd} (h : R M l) {p : ByteArray} {v : ByteArray × Int} (hp : M p = some v) : ∃ i : Nat, i < l.length ∧ l[i]? = some (p, v) ∧ F40 l p = some (i : Int) := by
  rw [f40_val (by have := h.len; omega)]
  cases hs : scan (fun k (x : Nd) => if x.1 = p then some (k : Int) else none) l 0 with
  | none =>
    exfalso
    have hm := h.mem.1 hp
    obtain ⟨i, hi⟩ := List.getElem?_of_mem hm
    have := scan_none.1 hs i _ hi
    simp at this
  | some r =>
    obtain ⟨i, e, hi, hv⟩ := scan_val hs
    by_cases c : e.1 = p
    · simp [c] at hv
      subst hv
      have h2 := h.mem.2 (show (e.1, e.2) ∈ l from List.mem_of_getElem? hi)
      rw [c, hp] at h2
      have h3 : v = e.2 := Option.some.inj h2
      refine ⟨i, lt_of_get hi, ?_, rfl⟩
      rw [hi, h3, ← c]
    · simp [c] at hv
theorem where_none {M : Mp} {l : List Nd} (h : R M l) {p : ByteArray} (hp : M p = none) : F40 l p = some (-1) := by
  rw [f40_val (by have := h.len; omega)]
  have : scan (fun k (x : Nd) => if x.1 = p then some (k : Int) else none) l 0 = none := scan_none.2 fun i e hi => by
    have := h.absent.1 hp e (List.mem_of_getElem? hi)
    simp [this]
  rw [this]
/-- What stands below. -/
noncomputable def pick (path : ByteArray) (x : Nd) : Option ByteArray := if (prt x.1).1 = path ∧ x.1 ≠ ByteArray.mk #[47] then some (prt x.1).2 else none
theorem app16 (l : List ByteArray) (z : ByteArray) (h : l.length ≤ 1000) : appl 16 l [z] = some (l ++ [z]) := by
  unfold appl; rw [if_pos]; simp; omega
theorem pick_len (path : ByteArray) (l : List Nd) : (l.filterMap (pick path)).length ≤ l.length := List.length_filterMap_le _ _
theorem f37_fold (path : ByteArray) : ∀ (q : List Nd) (y : List ByteArray), (∀ x ∈ q, OkN x.1) → y.length + q.length ≤ 1000 → foldR (F37_L0 path) q y = some (.nxt (y ++ q.filterMap (pick path)))
  | [], y, _, _ => by simp [foldR]
  | x :: q, y, hn, hl => by
    have hx := prt_val (hn x (List.mem_cons_self ..))
    have hl' : y.length + (q.length + 1) ≤ 1000 := hl
    rw [foldR_cons]
    have hb : F37_L0 path x.1 x.2 y = some (.nxt (match pick path x with
        | some z => y ++ [z]
        | none => y)) := by
      unfold F37_L0 pick
      rw [hx.1]
      simp only [Option.bind_some, sEq_iff]
      by_cases c1 : (prt x.1).1 = path <;> by_cases c2 : x.1 = ByteArray.mk #[47] <;> simp [c1, c2, app16 y _ (by omega)]
    rw [hb]
    simp only []
    rw [f37_fold path q _ (fun z hz => hn z (List.mem_cons_of_mem _ hz)) (by cases pick path x <;> simp <;> omega)]
    rw [List.filterMap_cons]
    cases pick path x <;> simp
theorem f37_val {M : Mp} {l : List Nd} (h : R M l) (path : ByteArray) : F37 M path = some (sortedS (l.filterMap (pick path)), M) := by
  have hl := h.len
  have hall : ∀ q, Enum M q → ∃ t, foldR (F37_L0 path) q [] = some (.nxt t) ∧ t.Perm (l.filterMap (pick path)) := fun q hq => by
    have hp := Enum.perm hq h.en
    refine ⟨q.filterMap (pick path), ?_, hp.filterMap _⟩
    have := f37_fold path q [] (fun x hx => h.nm x (hp.mem_iff.1 hx)) (by rw [hp.length_eq]; simp; omega)
    simpa using this
  obtain ⟨c, hc⟩ := rangeQ_of (R := List.Perm) (ρ := Unit) (β := Unit) ⟨l, h.en⟩ hall
  obtain ⟨_, hc2⟩ := rangeQ_spec hc
  obtain ⟨t, ht, htc⟩ := hc2 l h.en
  obtain ⟨t', ht', htl⟩ := hall l h.en
  rw [ht] at ht'
  obtain rfl : t = t' := by simpa using ht'
  have hcl : c.Perm (l.filterMap (pick path)) := htc.symm.trans htl
  unfold F37
  rw [hc, Option.bind_some]
  refine permK_of fun z hz => ?_
  have hzl : z.Perm (l.filterMap (pick path)) := hz.trans hcl
  have hlen : z.length < 4611686018427387904 := by rw [hzl.length_eq]; have := pick_len path l; omega
  unfold srtS
  rw [if_pos hlen, Option.bind_some, sortedS_perm hzl]
theorem f41_val {M : Mp} {l : List Nd} (h : R M l) (path : ByteArray) : F41 l path = some (sortedS (l.filterMap (pick path))) := by
  have hl := h.len
  have hw : whileM (F41_L0 l path) ([], 0) = some (.brk (l.filterMap (pick path))) := by
    have hst : ((fun (k : Nat) => ((l.take k).filterMap (pick path), (k : Int))) 0) = ([], 0) := rfl
    rw [← hst]
    refine while_upto (fun (k : Nat) => ((l.take k).filterMap (pick path), (k : Int))) l.length (fun k hk => ?_) ?_ (fun s h => by cases h)
    · have hg : l[k]? = some l[k] := List.getElem?_eq_getElem hk
      have ht : l.take (k + 1) = l.take k ++ [l[k]] := by rw [List.take_add_one, hg]; rfl
      have hx := prt_val (h.nm _ (List.getElem_mem hk))
      have hd : decide ((k : Int) < (l.length : Int)) = true := by simpa using hk
      have hpl : ((l.take k).filterMap (pick path)).length ≤ 1000 := by have := pick_len path (l.take k); rw [List.length_take] at this; omega
      rw [ht, List.filterMap_append]
      generalize l[k] = x at hg hx
      generalize (l.take k).filterMap (pick path) = Y at hpl
      simp only [F41_L0, hd, cond_true, idx_some hg, Option.bind_some, sEq_iff, w64_succ hk (show l.length ≤ 9223372036854775807 by omega), hx.2]
      unfold pick
      by_cases c2 : x.1 = ByteArray.mk #[47]
      · simp [c2]
      · by_cases c1 : (prt x.1).1 = path
        · simp [c1, c2]
          rw [app16 _ _ hpl]
          rfl
        · simp [c1, c2]
    · have hd : decide ((l.length : Int) < (l.length : Int)) = false := by simp
      simp only [F41_L0, hd, cond_false, List.take_length]
  unfold F41
  rw [hw]
  simp only [Option.bind_some, Ctl.on]
  rw [f41_sort (by have := pick_len path l; omega)]
  rfl
end Go.Proofs.YtadfgohglcglcaaDoor
