import Derived.Test.YtadfgohglcglcaaDoorBk6
import Derived.SizedLaws
/-
  How long a slice that came in may be. Nothing of any program stands here.
-/
namespace Go.Bk
open Go
set_option linter.unusedVariables false
section
variable {H : Type} {enc : TypeId × Value → H} {P : Program} {W : World}
theorem open_len {t e sz bs : Nat} {α : Type} {cf : α → List Value} {v : Value} {d : DataW H} {ps : List MemPlace} {xs : List α} (hu : P.underlying t = some (.slice e)) (h : DataW.Trod enc P W 0 (fun _ => true) true t v d ps)
    (hw : ∀ n ∈ d.weights P t, n ≤ reachBytes) (en : Ent [Was W] (Rd sz v (xs.map cf))) (hb : P.bytesOf e = bs) (h1 : 1 ≤ bs) : xs.length ≤ 140737488351232 := by
  obtain ⟨g, _, _, hr⟩ := en _ (St.start W).sat
  rcases hr with ⟨⟨a, rfl⟩, hn⟩ | ⟨b, o, cap, arr, e', fz, rfl, _⟩
  · have : xs.length = 0 := by rw [← List.length_map (f := cf), hn]; rfl
    omega
  · obtain ⟨fuel, hf⟩ := h
    rcases Deep.open_slice hu hf with ⟨hcs, _⟩ | ⟨a, len, cap', m, n, D, Pl, hcs, _, hl, hm, hmm, hx, _⟩
    · simp [Value.cells] at hcs
    · simp [Value.cells] at hcs
      obtain ⟨_, hlen, _⟩ := hcs
      obtain ⟨hd, _⟩ := Prod.mk.inj hx
      subst hd
      have := hw (((List.range len).map D).length + ((List.range (m - len)).map fun j => D (len + j)).length |> (· * P.bytesOf e)) (by simp [DataW.weights, hu])
      simp only [List.length_map, List.length_range, hb] at this
      have hlx : xs.length = len := hlen
      have h2 : len * 1 ≤ (len + (m - len)) * bs := Nat.mul_le_mul (by omega) h1
      have h3 : reachBytes = 140737488351232 := rfl
      omega
end
end Go.Bk
