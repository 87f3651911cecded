import Derived.Test.YtadfgohglcglcaaDoorBk6
import Derived.SizedLaws
/-
  How long a slice that came in may be. Nothing of any program stands here.
-/
namespace Go.Bk
open Go
set_option linter.unusedVariables false
section
variable {H : Type} {enc : TypeId × Value → H} {P : Program} {W : World}
theorem open_len {t e sz bs : Nat} {α : Type} {cf : α → List Value} {v : Value} {d : DataW H} {ps : List MemPlace} {xs : List α} (hu : P.underlying t = some (.slice e)) (h : DataW.Trod enc P W 0 (fun _ => true) true t v d ps)
    (hw : ∀ n ∈ d.weights P t, n ≤ reachBytes) (en : Ent [Was W] (Rd sz v (xs.map cf))) (hb : P.bytesOf e = bs) (h1 : 1 ≤ bs) : xs.length ≤ 140737488351232 := by
  obtain ⟨g, _, _, hr⟩ := en _ (St.start W).sat
  rcases hr with ⟨⟨a, rfl⟩, hn⟩ | ⟨b, o, cap, arr, e', fz, rfl, _⟩
  · have : xs.length = 0 := by rw [← List.length_map (f := cf), hn]; rfl
    omega
  · obtain ⟨fuel, hf⟩ := h
    rcases Deep.open_slice hu hf with ⟨hcs, _⟩ | ⟨a, len, cap', m, n, D, Pl, hcs, _, hl, hm, hmm, hx, _⟩
    · simp [Value.cells] at hcs
    · simp [Value.cells] at hcs
      obtain ⟨_, hlen, _⟩ := hcs
      obtain ⟨hd, _⟩ := Prod.mk.inj hx
      subst hd
      have := hw (((List.range len).map D).length + ((List.range (m - len)).map fun j => D (len + j)).length |> (· * P.bytesOf e)) (by simp [DataW.weights, hu])
      simp only [List.length_map, List.length_range, hb] at this
      have hlx : xs.length = len := hlen
      have h2 : len * 1 ≤ (len + (m - len)) * bs := Nat.mul_le_mul (by omega) h1
      have h3 : reachBytes = 140737488351232 := rfl
      omega
/-- The same, in bytes. -/
theorem open_lenB {t e sz bs : Nat} {α : Type} {cf : α → List Value} {v : Value} {d : DataW H} {ps : List MemPlace} {xs : List α} (hu : P.underlying t = some (.slice e)) (h : DataW.Trod enc P W 0 (fun _ => true) true t v d ps)
    (hw : ∀ n ∈ d.weights P t, n ≤ reachBytes) (en : Ent [Was W] (Rd sz v (xs.map cf))) (hb : P.bytesOf e = bs) : xs.length * bs ≤ 140737488351232 := by
  obtain ⟨g, _, _, hr⟩ := en _ (St.start W).sat
  rcases hr with ⟨⟨a, rfl⟩, hn⟩ | ⟨b, o, cap, arr, e', fz, rfl, _⟩
  · have : xs.length = 0 := by rw [← List.length_map (f := cf), hn]; rfl
    rw [this]; omega
  · obtain ⟨fuel, hf⟩ := h
    rcases Deep.open_slice hu hf with ⟨hcs, _⟩ | ⟨a, len, cap', m, n, D, Pl, hcs, _, hl, hm, hmm, hx, _⟩
    · simp [Value.cells] at hcs
    · simp [Value.cells] at hcs
      obtain ⟨_, hlen, _⟩ := hcs
      obtain ⟨hd, _⟩ := Prod.mk.inj hx
      subst hd
      have := hw (((List.range len).map D).length + ((List.range (m - len)).map fun j => D (len + j)).length |> (· * P.bytesOf e)) (by simp [DataW.weights, hu])
      simp only [List.length_map, List.length_range, hb] at this
      have hlx : xs.length = len := hlen
      have h2 : len * bs ≤ (len + (m - len)) * bs := Nat.mul_le_mul (by omega) (Nat.le_refl _)
      have h3 : reachBytes = 140737488351232 := rfl
      rw [hlx]
      omega
/-- A struct that came in by value. -/
theorem open_agg {r : Reach} {b0 : Nat} {t : TypeId} {α : Type} {cf : α → List Value} {wf : α → Prop} {fs : Array Field} {v : Value} {d : DataW H} {ps : List MemPlace} (hu : P.underlying t = some (.struct fs)) (hval : Value.okWide P W r b0 t v)
    (h : DataW.Trod enc P W 0 (fun _ => true) true t v d ps) (ho : Opens P W enc t cf wf) : ∃ x, v = .agg (cf x).toArray ∧ wf x := by
  simp only [Value.okWide, hu] at hval
  obtain ⟨cs, rfl, _⟩ := hval
  obtain ⟨fuel, hf⟩ := h
  obtain ⟨y, e, w⟩ := ho _ _ _ hf
  have e : cs.toList = cf y := e
  exact ⟨y, by rw [← e], w⟩
end
end Go.Bk
