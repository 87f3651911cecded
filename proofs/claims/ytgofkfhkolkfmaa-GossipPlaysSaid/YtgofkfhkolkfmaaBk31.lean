/-
  Regions whose operations come in an open order, with guards. Nothing of any program stands here.
-/
import Derived.Test.YtgofkfhkolkfmaaBk30
namespace Go.Bk
open Go
set_option linter.unusedVariables false
set_option linter.unusedSimpArgs false
section
variable {P : Program} {N : Nat} {B : World} {E : Env} {L : List HP} {ops : Array Oper} {Q : Act → World → Prop} {L0 : List HP} {fuel : Nat} {listed : Array Bool} {i : Nat} {o : Oper} {n : Nat}
/-- An operation that reads what L0 speaks of. -/
theorem TA.takeY {d : Nat} {v : Value} (i : Nat) (hi : ops[i]? = some o) (hdst : o.dst = some d) (hd : Nat.blt d N = true) (hy : ∀ a, EnvOk N E a → YieldsIf P ops (St B L0) o v a)
    (hsel : Region.noSelect ops = true) (hf : Region.free .any ops listed i = true) (hr : (Region.ready .any ops listed).contains i = true) (hw : (Nat.ble ops.size n || Region.waitsFor .any ops n i) = true) (hn : listed.getD n false = false)
    (hL : ∀ h, Sat L h → Sat L0 h) (h : TA P N B ops L0 n fuel (listed.setIfInBounds i true) ((d, v) :: E) L Q) : TA P N B ops L0 n (fuel + 1) listed E L Q := by
  intro a w e s
  refine wpAnyI_first (S := St B L0) (Ok := fun l => l.getD n false = false) (v := v) hi (Region.noSelect_spec hsel) (fun c a w h => absurd h.1 (by simp)) ?_ fuel listed a w (Region.free_spec hi hf) hn (by simpa using hr) (hy a e) (s.mono hL) (Inv.of (.inr hL) s) (by rw [hdst]; exact h _ _ (e.put hd v) s)
  intro l j hok hir hjr hji
  have hjn : j ≠ n := by
    intro hjn
    subst hjn
    rcases Bool.or_eq_true_iff.1 hw with hw | hw
    · obtain ⟨_, oj, hoj, _⟩ := mem_ready.1 hjr
      have := (Array.getElem?_eq_some_iff.1 hoj).1
      have := Nat.le_of_ble_eq_true hw
      omega
    · exact ready_after hir hjr hw
  have hs1 : (l.setIfInBounds j true).getD n false = false := by rw [getD_set_ne false hjn]; exact hok
  refine ⟨hs1, fun w' hI => ?_⟩
  by_cases hin : i = n
  · subst hin
    rcases Bool.or_eq_true_iff.1 hw with hw | hw
    · have := (Array.getElem?_eq_some_iff.1 hi).1
      have := Nat.le_of_ble_eq_true hw
      omega
    · exact (ready_after hir hir hw).elim
  · have hs2 : ((l.setIfInBounds i true).setIfInBounds j true).getD n false = false := by rw [getD_set_ne false hjn, getD_set_ne false hin]; exact hok
    have := hI.held hs2
    refine ⟨?_, this⟩
    unfold Inv; rw [if_neg (by simp [hs1])]; exact this
/-- An operation that reads no memory. -/
theorem TA.takeWY {d : Nat} {v : Value} (i : Nat) (hi : ops[i]? = some o) (hdst : o.dst = some d) (hd : Nat.blt d N = true) (hy : ∀ a, EnvOk N E a → YieldsIf P ops (St B []) o v a)
    (hsel : Region.noSelect ops = true) (hf : Region.free .any ops listed i = true) (hr : (Region.ready .any ops listed).contains i = true) (hin : Nat.beq i n = false)
    (hL : listed.getD n false = true ∨ ∀ h, Sat L h → Sat L0 h) (h : TA P N B ops L0 n fuel (listed.setIfInBounds i true) ((d, v) :: E) L Q) : TA P N B ops L0 n (fuel + 1) listed E L Q := by
  have hin' : i ≠ n := fun e => by subst e; simp at hin
  intro a w e s
  refine wpAnyI_first (S := St B []) (Ok := fun _ => True) (v := v) hi (Region.noSelect_spec hsel) (fun c a w h => absurd h.1 (by simp)) ?_ fuel listed a w (Region.free_spec hi hf) trivial (by simpa using hr) (hy a e) (s.mono fun _ _ => trivial) (Inv.of (by rw [getD_set_ne false hin']; exact hL) s) (by rw [hdst]; exact h _ _ (e.put hd v) s)
  intro l j _ hir hjr hji
  refine ⟨trivial, fun w' hI => ⟨?_, hI.free⟩⟩
  have : ((l.setIfInBounds i true).setIfInBounds j true).getD n false = (l.setIfInBounds j true).getD n false := by
    rw [Array.setIfInBounds_comm _ _ (Ne.symm hji), getD_set_ne false hin']
  unfold Inv at hI ⊢
  rw [this] at hI
  exact hI

theorem TA.takeG {d j dj : Nat} {want b : Bool} {v : Value} (i : Nat) (hi : ops[i]? = some o) (hg : o.guard = some (j, want)) (hj : (ops[j]?).bind (·.dst) = some dj) (hE : lk E dj = some (.bool b)) (hb : b = want) (hdst : o.dst = some d) (hd : Nat.blt d N = true) (hs : StepS P N B o E L0 v)
    (hsel : Region.noSelect ops = true) (hf : Region.free .any ops listed i = true) (hr : (Region.ready .any ops listed).contains i = true) (hw : (Nat.ble ops.size n || Region.waitsFor .any ops n i) = true) (hn : listed.getD n false = false)
    (hL : ∀ h, Sat L h → Sat L0 h) (h : TA P N B ops L0 n fuel (listed.setIfInBounds i true) ((d, v) :: E) L Q) : TA P N B ops L0 n (fuel + 1) listed E L Q :=
  TA.takeY i hi hdst hd (fun a e => .inl ⟨by subst hb; simp only [Region.wanted, hg, yielded, hj, Option.bind_some, e.env dj _ hE]; simp, fun w hw => hs a w e hw⟩) hsel hf hr hw hn hL h
theorem TA.takeGW {d j dj : Nat} {want b : Bool} {v : Value} (i : Nat) (hi : ops[i]? = some o) (hg : o.guard = some (j, want)) (hj : (ops[j]?).bind (·.dst) = some dj) (hE : lk E dj = some (.bool b)) (hb : b = want) (hdst : o.dst = some d) (hd : Nat.blt d N = true) (hs : StepS P N B o E [] v)
    (hsel : Region.noSelect ops = true) (hf : Region.free .any ops listed i = true) (hr : (Region.ready .any ops listed).contains i = true) (hin : Nat.beq i n = false)
    (hL : listed.getD n false = true ∨ ∀ h, Sat L h → Sat L0 h) (h : TA P N B ops L0 n fuel (listed.setIfInBounds i true) ((d, v) :: E) L Q) : TA P N B ops L0 n (fuel + 1) listed E L Q :=
  TA.takeWY i hi hdst hd (fun a e => .inl ⟨by subst hb; simp only [Region.wanted, hg, yielded, hj, Option.bind_some, e.env dj _ hE]; simp, fun w hw => hs a w e hw⟩) hsel hf hr hin hL h
theorem TA.skipG {d j dj : Nat} {want : Bool} {u : Value} (i : Nat) (hi : ops[i]? = some o) (hg : o.guard = some (j, want)) (hj : (ops[j]?).bind (·.dst) = some dj) (hE : lk E dj = some u) (hu : u ≠ .bool want) (hdst : o.dst = some d) (hd : Nat.blt d N = true)
    (hsel : Region.noSelect ops = true) (hf : Region.free .any ops listed i = true) (hr : (Region.ready .any ops listed).contains i = true) (hin : Nat.beq i n = false)
    (hL : listed.getD n false = true ∨ ∀ h, Sat L h → Sat L0 h) (h : TA P N B ops L0 n fuel (listed.setIfInBounds i true) ((d, undef) :: E) L Q) : TA P N B ops L0 n (fuel + 1) listed E L Q :=
  TA.takeWY i hi hdst hd (fun a e => .inr ⟨by
    simp only [Region.wanted, hg, yielded, hj, Option.bind_some, e.env dj _ hE]
    cases u <;> simp_all, rfl⟩) hsel hf hr hin hL h
end
end Go.Bk
