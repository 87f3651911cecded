/-
  Results that lie in a variable of the callee. Nothing of any program stands here.
-/
import Derived.Test.YtgofkfhkolkfmaaBk15
namespace Go.Bk
open Go
set_option linter.unusedVariables false
set_option linter.unusedSimpArgs false
section
variable {P : Program} {N : Nat} {B : World} {E : Env} {L : List HP}

theorem run_loadVarB {ty n b bt : Nat} {cs : List Value} {w : World} (en : Ent L (Bx b bt cs)) (s : St B L w) (ht : aggB P ty n = true) (hn : cs.length = n) : (loadVar ty ⟨b, 0, none⟩).run P w = .ok (.agg cs.toArray) w := by
  subst hn
  obtain ⟨h, sh, hb⟩ := s.get en
  have hc : ∀ j v, cs[j]? = some v → w.cell? ((⟨b, 0, none⟩ : Addr).add j) = some v := fun j v hj => by
    rw [add_lit, cell_of (sh b _ hb)]; simpa using hj
  simp [loadVar, run_agg ht, run_sizeB (aggB_size ht), run_loadCells_list w ⟨b, 0, none⟩ cs hc]
theorem FRet.cell1 {fn : Func} {a : Act} {w : World} {R : Ending → World → Prop} (e : EnvOk N E a) (s : St B L w) {t ty n b bt : Nat} {cs : List Value} (hrs : fn.results = #[.cell t ty]) (hv : lk E t = some (.pointer (some ⟨b, 0, none⟩)))
    (en : Ent L (Bx b bt cs)) (ht : aggB P ty n = true) (hn : cs.length = n) (hR : R (.returned (.agg cs.toArray)) w) : FRet P fn R a w := by
  rw [FRet.eq]
  refine ⟨e.defers, _, ?_, hR⟩
  have h1 := run_loadVarB en s ht hn
  simp [results, hrs, e.env _ _ hv, asAddr, h1]
theorem FRet.cell2 {fn : Func} {a : Act} {w : World} {R : Ending → World → Prop} (e : EnvOk N E a) (s : St B L w) {t ty n b bt u : Nat} {x : Value} {cs : List Value} (hrs : fn.results = #[.cell t ty, .tmp u]) (hv : lk E t = some (.pointer (some ⟨b, 0, none⟩))) (hx : lk E u = some x)
    (en : Ent L (Bx b bt cs)) (ht : aggB P ty n = true) (hn : cs.length = n) (hR : R (.returned (.tuple #[.agg cs.toArray, x])) w) : FRet P fn R a w := by
  rw [FRet.eq]
  refine ⟨e.defers, .tuple #[.agg cs.toArray, a.tmps.getD u undef], ?_, by rw [e.getD hx]; exact hR⟩
  have h1 := run_loadVarB en s ht hn
  simp [results, hrs, e.env _ _ hv, asAddr, h1]
end
end Go.Bk
