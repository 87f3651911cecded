/-
  Rules for maps as functions: make, look up, set, delete, count, go through. Nothing of any program stands here.
-/
import Derived.Test.YtgofkfhkolkfmaaBk22
namespace Go.Bk
open Go
open Go.ChangeMaps (setBlock)
set_option linter.unusedVariables false
set_option linter.unusedSimpArgs false

section
variable {κ ν : Type} {kf : κ → Value} {vf : ν → Value} {m : κ → Option ν} {l : List (κ × ν × Nat)} {c : Nat}
theorem key_one (h : IsM m l c) {i j : Nat} {x y : κ × ν × Nat} (hi : l[i]? = some x) (hj : l[j]? = some y) (e : x.1 = y.1) : i = j := by
  have hl : i < (l.map (·.1)).length := by simpa using (List.getElem?_eq_some_iff.1 hi).1
  refine (List.getElem?_inj hl h.keys).1 ?_
  simp [hi, hj, e]
theorem born_one (h : IsM m l c) {i j : Nat} {x y : κ × ν × Nat} (hi : l[i]? = some x) (hj : l[j]? = some y) (e : x.2.2 = y.2.2) : i = j := by
  have hl : i < (l.map (·.2.2)).length := by simpa using (List.getElem?_eq_some_iff.1 hi).1
  refine (List.getElem?_inj hl h.born).1 ?_
  simp [hi, hj, e]
theorem IsM.zero : IsM (mzero : κ → Option ν) [] 0 := ⟨List.nodup_nil, List.nodup_nil, fun _ h => (by cases h), fun k v => by simp [mzero]⟩
theorem IsM.push [DecidableEq κ] (h : IsM m l c) {k : κ} (hk : m k = none) (v : ν) : IsM (mupd m k v) (l ++ [(k, v, c)]) (c + 1) := by
  refine ⟨?_, ?_, ?_, ?_⟩
  · rw [List.map_append, List.nodup_append]
    refine ⟨h.keys, by simp, ?_⟩
    intro a ha b hb e
    simp at hb; subst hb; subst e
    rw [List.mem_map] at ha
    obtain ⟨x, hx, rfl⟩ := ha
    have := (h.get x.1 x.2.1).2 ⟨x.2.2, hx⟩
    rw [hk] at this; cases this
  · rw [List.map_append, List.nodup_append]
    refine ⟨h.born, by simp, ?_⟩
    intro a ha b hb e
    simp at hb; subst hb; subst e
    rw [List.mem_map] at ha
    obtain ⟨x, hx, e⟩ := ha
    have := h.old x hx
    omega
  · intro x hx
    rw [List.mem_append] at hx
    rcases hx with hx | hx
    · have := h.old x hx; omega
    · simp at hx; subst hx; simp
  · intro j w
    unfold mupd
    by_cases e : j = k
    · subst e
      simp only [if_true, Option.some.injEq, List.mem_append, List.mem_singleton, Prod.mk.injEq]
      constructor
      · rintro rfl; exact ⟨c, .inr (by simp)⟩
      · rintro ⟨b, hb | ⟨_, rfl, _⟩⟩
        · have := (h.get j w).2 ⟨b, hb⟩
          rw [hk] at this; cases this
        · rfl
    · simp only [e, if_false, List.mem_append, List.mem_singleton, Prod.mk.injEq, false_and, or_false]
      exact h.get j w
theorem IsM.set [DecidableEq κ] (h : IsM m l c) {i : Nat} {k : κ} {v0 : ν} {b : Nat} (hi : l[i]? = some (k, v0, b)) (v : ν) : IsM (mupd m k v) (l.set i (k, v, b)) c := by
  have hlt := (List.getElem?_eq_some_iff.1 hi).1
  have mem : ∀ x, x ∈ l.set i (k, v, b) ↔ x = (k, v, b) ∨ (x ∈ l ∧ x.1 ≠ k) := by
    intro x
    rw [List.mem_iff_getElem?]
    constructor
    · rintro ⟨n, hn⟩
      rw [List.getElem?_set] at hn
      by_cases e : i = n
      · subst e; simp [hlt] at hn; exact .inl hn.symm
      · rw [if_neg e] at hn
        exact .inr ⟨List.mem_iff_getElem?.2 ⟨n, hn⟩, fun q => e (key_one h hi hn (by rw [q]))⟩
    · rintro (rfl | ⟨hx, hne⟩)
      · exact ⟨i, by simp [hlt]⟩
      · obtain ⟨n, hn⟩ := List.mem_iff_getElem?.1 hx
        refine ⟨n, ?_⟩
        rw [List.getElem?_set, if_neg, hn]
        rintro rfl
        rw [hi] at hn
        obtain rfl := Option.some.inj hn
        exact hne rfl
  refine ⟨?_, ?_, ?_, ?_⟩
  · rw [List.map_set]
    rw [set_same (by simp [hi])]
    exact h.keys
  · rw [List.map_set]
    rw [set_same (by simp [hi])]
    exact h.born
  · intro x hx
    rcases (mem x).1 hx with rfl | ⟨hx, _⟩
    · exact h.old (k, v0, b) (List.mem_iff_getElem?.2 ⟨i, hi⟩)
    · exact h.old x hx
  · intro j w
    unfold mupd
    by_cases e : j = k
    · subst e
      simp only [if_true, Option.some.injEq]
      constructor
      · rintro rfl; exact ⟨b, (mem _).2 (.inl rfl)⟩
      · rintro ⟨b', hb⟩
        rcases (mem _).1 hb with hx | ⟨_, hx⟩
        · simp at hx; exact hx.1.symm
        · exact (hx rfl).elim
    · simp only [e, if_false]
      rw [h.get]
      constructor
      · rintro ⟨b', hb⟩; exact ⟨b', (mem _).2 (.inr ⟨hb, e⟩)⟩
      · rintro ⟨b', hb⟩
        rcases (mem _).1 hb with hx | ⟨hx, _⟩
        · simp at hx; exact (e hx.1).elim
        · exact ⟨b', hx⟩
theorem IsM.del [DecidableEq κ] (h : IsM m l c) {i : Nat} {k : κ} {v0 : ν} {b : Nat} (hi : l[i]? = some (k, v0, b)) : IsM (mdel m k) (l.eraseIdx i) c := by
  have hlt := (List.getElem?_eq_some_iff.1 hi).1
  have mem : ∀ x, x ∈ l.eraseIdx i ↔ (x ∈ l ∧ x.1 ≠ k) := by
    intro x
    rw [List.mem_eraseIdx_iff_getElem?]
    constructor
    · rintro ⟨n, hne, hn⟩
      exact ⟨List.mem_iff_getElem?.2 ⟨n, hn⟩, fun q => hne (key_one h hn hi q)⟩
    · rintro ⟨hx, hne⟩
      obtain ⟨n, hn⟩ := List.mem_iff_getElem?.1 hx
      refine ⟨n, ?_, hn⟩
      rintro rfl
      rw [hi] at hn
      obtain rfl := Option.some.inj hn
      exact hne rfl
  have sub := List.eraseIdx_sublist l i
  refine ⟨(sub.map _).nodup h.keys, (sub.map _).nodup h.born, fun x hx => h.old x (sub.subset hx), ?_⟩
  intro j w
  unfold mdel
  by_cases e : j = k
  · subst e
    simp only [if_true, reduceCtorEq, false_iff, not_exists]
    intro b' hb
    exact ((mem _).1 hb).2 rfl
  · simp only [e, if_false]
    rw [h.get]
    exact ⟨fun ⟨b', hb⟩ => ⟨b', (mem _).2 ⟨hb, e⟩⟩, fun ⟨b', hb⟩ => ⟨b', ((mem _).1 hb).1⟩⟩
theorem IsM.at [DecidableEq κ] (h : IsM m l c) {k : κ} {i : Nat} {v : ν} (hf : fndG k (l.map fun x => (x.1, x.2.1)) 0 = some (i, v)) : ∃ b, l[i]? = some (k, v, b) := by
  obtain ⟨_, hy⟩ := fndG_spec hf
  rw [Nat.sub_zero, List.getElem?_map] at hy
  cases hl : l[i]? with
  | none => rw [hl] at hy; cases hy
  | some x => rw [hl] at hy; simp at hy; obtain ⟨rfl, rfl⟩ := hy; exact ⟨_, rfl⟩

theorem erase_map {α β : Type} (f : α → β) : ∀ (l : List α) (i : Nat), (l.map f).eraseIdx i = (l.eraseIdx i).map f
  | [], _ => rfl
  | _ :: _, 0 => rfl
  | x :: l, i + 1 => by simp [erase_map f l i]
section
variable {P : Program} {N : Nat} {B : World} {E : Env} {L : List HP} {ops : Array Oper} {rest : List Oper} {Q : Act → World → Prop}
variable {d : Nat} {dd : Option Tmp} {ty : TypeId} {ps : String} {af : Array Edge} {gd : Option (Nat × Bool)}
theorem St.getM {w : World} {r : Nat} (s : St B L w) (en : Ent L (MF kf vf r m)) : ∃ l clock, IsM m l clock ∧ w.heap[r]? = some (.map (Ents kf vf l).toArray clock) := by
  obtain ⟨h, sh, l, c, hm, hh⟩ := s.get en
  exact ⟨l, c, hm, sh r _ hh⟩
theorem St.setM {w : World} {r kk : Nat} {m' : κ → Option ν} {l' : List (κ × ν × Nat)} {c' : Nat} (s : St B L w) (hk : L[kk]? = some (MF kf vf r m)) (hm : IsM m' l' c') {es : Array MapEntry} (he : es = (Ents kf vf l').toArray) :
    St B (L.set kk (MF kf vf r m')) { w with heap := w.heap.setIfInBounds r (.map es c') } := by
  subst he
  obtain ⟨l, c, _, hg⟩ := s.getM (Ent.at kk hk)
  refine ⟨s.os, s.tape, s.output, ?_⟩
  rw [hw_set w r _ _ hg]
  refine (Sat.upd kk hk s.sat fun h1 _ hb1 => ⟨?_, l', c', hm, put_same _ _ _⟩).1
  obtain ⟨_, _, _, q⟩ := hb1
  rw [q]; simp
theorem run_getM {w : World} {r : Nat} {es : Array MapEntry} {c : Nat} (hg : w.heap[r]? = some (.map es c)) : (getObj r).run P w = .ok (.map es c) w := by simp [getObj, Sem.run, hg]
theorem run_setM {w : World} {r : Nat} {es : Array MapEntry} {c : Nat} (hg : w.heap[r]? = some (.map es c)) (o : Obj) : (setObj r o).run P w = .ok () { w with heap := w.heap.setIfInBounds r o } := by simp [setObj, Sem.run, hg]
theorem run_zeroF {e : TypeId} {z : Value} (hz : (P.info? e).bind (·.zero) = some z) (w : World) : (zeroValue e).run P w = .ok z w := by
  cases hi : P.info? e with
  | none => rw [hi] at hz; cases hz
  | some i => rw [hi] at hz; have hz' : i.zero = some z := hz; simp [zeroValue, typeInfo, hi, hz']
theorem TO.mkMF {t : TypeId} (hd : Nat.blt d N = true) (h : ∀ r, TO P N B ops rest ((d, .map (some r)) :: E) (MF kf vf r mzero :: L) Q) : TO P N B ops (⟨some d, .makeMap t none, ty, ps, af, none⟩ :: rest) E L Q := by
  refine TO.step (R := fun v L' => ∃ r, v = .map (some r) ∧ L' = MF kf vf r mzero :: L) rfl rfl hd (StepW.of_run fun a w en s => ?_) (fun v L' ⟨r, hv, hL⟩ => by subst hv; subst hL; exact h r)
  have hr : (execOp a.eval ⟨some d, .makeMap t none, ty, ps, af, none⟩).run P w = .ok (.value (.map (some w.heap.size))) (w.alloc (.map #[] 0)) := by
    simp [execOp, Instr.makeMap]
  exact ⟨_, _, _, hr, ⟨_, rfl, rfl⟩, s.new ⟨[], 0, IsM.zero, put_same _ _ _⟩⟩
theorem run_lookF [DecidableEq κ] {t ke e : TypeId} {k : κ} {z : Value} {w : World} {r : Nat} (ht : mapGB P t ke e = true) (hK : KeyOk P ke kf) (hz : (P.info? e).bind (·.zero) = some z) (hm : IsM m l c) (hg : w.heap[r]? = some (.map (Ents kf vf l).toArray c)) (b : Bool) :
    (Instr.lookup t (.map (some r)) (kf k) b).run P w = .ok (if b then .tuple #[((m k).map vf).getD z, .bool (m k).isSome] else ((m k).map vf).getD z) w := by
  have hu := mapGB_spec ht
  have hfk := hK.find vf (Ents kf vf l).toArray.toList (l.map fun x => (x.1, x.2.1)) k w (by simpa using ents_map l)
  have hck' := fun b => hK.chk b k w
  rw [← hm.fnd k]
  simp only [Instr.lookup, Sem.run_bind, run_underlying hu, Result.andThen_ok]
  simp [run_getM hg, hck', hfk]
  cases fndG k (l.map fun x => (x.1, x.2.1)) 0 with
  | none => simp [run_zeroF hz]
  | some y => simp
theorem StepS.lookF [DecidableEq κ] {t ke e r : Nat} {x y : Operand} {k : κ} {z v : Value} (ht : mapGB P t ke e = true) (hK : KeyOk P ke kf) (hz : (P.info? e).bind (·.zero) = some z) (hx : opv E x = some (.map (some r))) (en : Ent L (MF kf vf r m)) (hy : opv E y = some (kf k)) (hv : ((m k).map vf).getD z = v) :
    StepS P N B ⟨dd, .lookup t x y false, ty, ps, af, gd⟩ E L v := by
  subst hv
  intro a w en' s
  obtain ⟨l, c, hm, hg⟩ := s.getM en
  simp [execOp, en'.eval hx, en'.eval hy, run_lookF ht hK hz hm hg]
theorem getD_vf {vf : ν → Value} (o : Option ν) (z : ν) : (o.map vf).getD (vf z) = vf (o.getD z) := by cases o <;> rfl
theorem StepS.lookF2 [DecidableEq κ] {t ke e r : Nat} {x y : Operand} {k : κ} {z : ν} (ht : mapGB P t ke e = true) (hK : KeyOk P ke kf) (hz : (P.info? e).bind (·.zero) = some (vf z)) (hx : opv E x = some (.map (some r))) (en : Ent L (MF kf vf r m)) (hy : opv E y = some (kf k)) :
    StepS P N B ⟨dd, .lookup t x y true, ty, ps, af, gd⟩ E L (.tuple #[vf ((m k).getD z), .bool (m k).isSome]) := by
  intro a w en' s
  obtain ⟨l, c, hm, hg⟩ := s.getM en
  simp [execOp, en'.eval hx, en'.eval hy, run_lookF ht hK hz hm hg, getD_vf]
theorem ents_set {l : List (κ × ν × Nat)} {i : Nat} {k : κ} {v0 v : ν} {b : Nat} (hi : l[i]? = some (k, v0, b)) : ((Ents kf vf l).toArray.modify i fun e => { e with key := kf k, val := vf v }) = (Ents kf vf (l.set i (k, v, b))).toArray := by
  apply Array.ext_getElem?
  intro j
  have hlt := (List.getElem?_eq_some_iff.1 hi).1
  rw [Array.getElem?_modify]
  simp only [Ents, List.getElem?_toArray, List.getElem?_map, List.getElem?_set]
  by_cases e : i = j
  · subst e
    have hq := (List.getElem?_eq_some_iff.1 hi).2
    simp [hi, hlt, hq]
  · simp [e]
theorem StepW.msetF [DecidableEq κ] {t ke e r kk : Nat} {x y z : Operand} {k : κ} {v : ν} (ht : mapGB P t ke e = true) (hK : KeyOk P ke kf) (hx : opv E x = some (.map (some r))) (hk : L[kk]? = some (MF kf vf r m)) (hy : opv E y = some (kf k)) (hz : opv E z = some (vf v)) :
    StepW P N B ⟨dd, .mapUpdate t x y z, ty, ps, af, gd⟩ E L (fun u L' => u = undef ∧ L' = L.set kk (MF kf vf r (mupd m k v))) := by
  refine StepW.of_skip fun a w en s => ?_
  have hu := mapGB_spec ht
  obtain ⟨l, clock, hm, hg⟩ := s.getM (Ent.at kk hk)
  have hck' := fun b => hK.chk b k w
  have hfk := hK.find vf (Ents kf vf l).toArray.toList (l.map fun x => (x.1, x.2.1)) k w (by simpa using ents_map l)
  have hsm := hK.same k
  have hfd := hm.fnd k
  have hrun : ∃ es' l' c', (Instr.mapUpdate t (.map (some r)) (kf k) (vf v)).run P w = .ok () { w with heap := w.heap.setIfInBounds r (.map es' c') } ∧ es' = (Ents kf vf l').toArray ∧ IsM (mupd m k v) l' c' := by
    cases hf : fndG k (l.map fun x => (x.1, x.2.1)) 0 with
    | none =>
      rw [hf] at hfk hfd
      refine ⟨(Ents kf vf l).toArray.push { key := kf k, val := vf v, born := clock }, l ++ [(k, v, clock)], clock + 1, ?_, by simp [Ents], hm.push hfd.symm v⟩
      simp only [Instr.mapUpdate, Sem.run_bind, run_underlying hu, Result.andThen_ok]
      simp [run_getM hg, run_setM hg, hck', hfk]
    | some y =>
      rw [hf] at hfk
      obtain ⟨b, hb⟩ := hm.at hf
      have hkey : (((Ents kf vf l).toArray[y.1]?).map (·.key)).getD (kf k) = kf k := by simp [Ents, hb]
      refine ⟨_, l.set y.1 (k, v, b), clock, ?_, ents_set hb, hm.set hb v⟩
      simp only [Instr.mapUpdate, Sem.run_bind, run_underlying hu, Result.andThen_ok]
      simp [run_getM hg, run_setM hg, hck', hfk, Instr.keyThatStays, hsm]
      have hkey' : (Option.map (fun x => x.key) (Ents kf vf l)[y.1]?).getD (kf k) = kf k := by simpa using hkey
      simp [hkey', hsm, run_setM hg]
  obtain ⟨es', l', c', hr, he, hm'⟩ := hrun
  have hr2 : (execOp a.eval ⟨dd, .mapUpdate t x y z, ty, ps, af, gd⟩).run P w = .ok .skip { w with heap := w.heap.setIfInBounds r (.map es' c') } := by
    simp only [execOp, en.eval hx, en.eval hy, en.eval hz, Sem.run_bind, hr, Result.andThen_ok, Sem.run_pure]
  exact ⟨_, _, hr2, ⟨rfl, rfl⟩, s.setM hk hm' he⟩
theorem TO.msetF [DecidableEq κ] {t ke e r : Nat} {x y z : Operand} {k : κ} {v : ν} (kk : Nat) (ht : mapGB P t ke e = true) (hK : KeyOk P ke kf) (hx : opv E x = some (.map (some r))) (hk : L[kk]? = some (MF kf vf r m)) (hy : opv E y = some (kf k)) (hz : opv E z = some (vf v))
    (h : TO P N B ops rest E (L.set kk (MF kf vf r (mupd m k v))) Q) : TO P N B ops (⟨none, .mapUpdate t x y z, ty, ps, af, none⟩ :: rest) E L Q :=
  TO.step0 rfl rfl (StepW.msetF ht hK hx hk hy hz) fun u L' ⟨_, hL⟩ => by subst hL; exact h
/-- delete(m, k) -/
theorem StepW.mdelF [DecidableEq κ] {t ke e r kk : Nat} {x y : Operand} {k : κ} {ts : Array TypeId} (hts : ts[0]? = some t) (ht : mapGB P t ke e = true) (hK : KeyOk P ke kf) (hx : opv E x = some (.map (some r))) (hk : L[kk]? = some (MF kf vf r m)) (hy : opv E y = some (kf k)) :
    StepW P N B ⟨dd, .call ⟨.builtin .delete, #[x, y], ts⟩, ty, ps, af, gd⟩ E L (fun u L' => u = .tuple #[] ∧ L' = L.set kk (MF kf vf r (mdel m k))) := by
  refine StepW.of_run fun a w en s => ?_
  have hu := mapGB_spec ht
  obtain ⟨l, clock, hm, hg⟩ := s.getM (Ent.at kk hk)
  have hck' := fun b => hK.chk b k w
  have hfk := hK.find vf (Ents kf vf l).toArray.toList (l.map fun x => (x.1, x.2.1)) k w (by simpa using ents_map l)
  have hfd := hm.fnd k
  have hrun : ∃ es' l' c', (Builtin.delete_ ts ty #[.map (some r), kf k]).run P w = .ok (.tuple #[]) { w with heap := w.heap.setIfInBounds r (.map es' c') } ∧ es' = (Ents kf vf l').toArray ∧ IsM (mdel m k) l' c' := by
    cases hf : fndG k (l.map fun x => (x.1, x.2.1)) 0 with
    | none =>
      rw [hf] at hfk hfd
      have : mdel m k = m := by
        funext j
        unfold mdel
        by_cases e : j = k
        · subst e; simpa using hfd
        · simp [e]
      refine ⟨(Ents kf vf l).toArray, l, clock, ?_, rfl, by rw [this]; exact hm⟩
      simp [Builtin.delete_, hts, run_underlying hu, run_getM hg, run_setM hg, hck', hfk]
    | some y =>
      rw [hf] at hfk
      obtain ⟨b, hb⟩ := hm.at hf
      refine ⟨(Ents kf vf l).toArray.eraseIdxIfInBounds y.1, l.eraseIdx y.1, clock, ?_, ?_, hm.del hb⟩
      · simp [Builtin.delete_, hts, run_underlying hu, run_getM hg, run_setM hg, hck', hfk]
      · simp [Ents, erase_map]
  obtain ⟨es', l', c', hr, he, hm'⟩ := hrun
  have hr2 : (execOp a.eval ⟨dd, .call ⟨.builtin .delete, #[x, y], ts⟩, ty, ps, af, gd⟩).run P w = .ok (.value (.tuple #[])) { w with heap := w.heap.setIfInBounds r (.map es' c') } := by
    simp [execOp, resolve, invoke, builtin, en.eval hx, en.eval hy, hr]
  exact ⟨_, _, _, hr2, ⟨rfl, rfl⟩, s.setM hk hm' he⟩
theorem TO.mdelF [DecidableEq κ] {t ke e r : Nat} {x y : Operand} {k : κ} {ts : Array TypeId} (kk : Nat) (hts : ts[0]? = some t) (ht : mapGB P t ke e = true) (hK : KeyOk P ke kf) (hx : opv E x = some (.map (some r))) (hk : L[kk]? = some (MF kf vf r m)) (hy : opv E y = some (kf k)) (hd : Nat.blt d N = true)
    (h : TO P N B ops rest ((d, .tuple #[]) :: E) (L.set kk (MF kf vf r (mdel m k))) Q) : TO P N B ops (⟨some d, .call ⟨.builtin .delete, #[x, y], ts⟩, ty, ps, af, none⟩ :: rest) E L Q :=
  TO.step rfl rfl hd (StepW.mdelF hts ht hK hx hk hy) fun u L' ⟨hu, hL⟩ => by subst hu; subst hL; exact h
theorem StepS.lenF {t ke e r : Nat} {x : Operand} (hx : opv E x = some (.map (some r))) (en : Ent L (MF kf vf r m)) (ht : mapGB P t ke e = true) {ts : Array TypeId} (hts : ts = #[t]) :
    StepS P N B ⟨dd, .call ⟨.builtin .len, #[x], ts⟩, ty, ps, af, gd⟩ E L (I (mlen m : Int)) := by
  subst hts
  intro a w en' s
  obtain ⟨l, c, hm, hg⟩ := s.getM en
  have hu := mapGB_spec ht
  rw [MF.len hm]
  simp [execOp, resolve, invoke, builtin, en'.eval hx, Builtin.len_, run_underlying hu, run_getM hg, goInt, Ents]

/-! m[k] op= v: the entry, then the store. -/
/-- A map of which the stamp of one key is known. -/
def MFS (kf : κ → Value) (vf : ν → Value) (r : Nat) (m : κ → Option ν) (k : κ) (b : Nat) : HP := fun h => ∃ l clock v, IsM m l clock ∧ (k, v, b) ∈ l ∧ h r = some (.map (Ents kf vf l).toArray clock)
theorem ents_key {l : List (κ × ν × Nat)} {i : Nat} {k : κ} {v0 : ν} {b : Nat} (hi : l[i]? = some (k, v0, b)) : ((Ents kf vf l).toArray.modify i fun e => { e with key := kf k }) = (Ents kf vf l).toArray := by
  apply Array.ext_getElem?
  intro j
  rw [Array.getElem?_modify]
  simp only [Ents, List.getElem?_toArray, List.getElem?_map]
  by_cases e : i = j
  · subst e; simp [hi]
  · simp [e]
theorem mupd_same [DecidableEq κ] {k : κ} {v : ν} (h : m k = some v) : mupd m k v = m := by
  funext j; unfold mupd; by_cases e : j = k
  · subst e; simp [h]
  · simp [e]
theorem StepW.ment [DecidableEq κ] {t ke e r kk : Nat} {x y : Operand} {k : κ} {z : ν} (ht : mapGB P t ke e = true) (hK : KeyOk P ke kf) (hz : (P.info? e).bind (·.zero) = some (vf z)) (hx : opv E x = some (.map (some r))) (hk : L[kk]? = some (MF kf vf r m)) (hy : opv E y = some (kf k)) :
    StepW P N B ⟨dd, .mapEntry t x y, ty, ps, af, gd⟩ E L (fun u L' => ∃ b : Nat, u = .tuple #[vf ((m k).getD z), I (b : Int)] ∧ L' = L.set kk (MFS kf vf r (mupd m k ((m k).getD z)) k b)) := by
  refine StepW.of_run fun a w en s => ?_
  have hu := mapGB_spec ht
  obtain ⟨l, clock, hm, hg⟩ := s.getM (Ent.at kk hk)
  have hck' := fun b => hK.chk b k w
  have hfk := hK.find vf (Ents kf vf l).toArray.toList (l.map fun x => (x.1, x.2.1)) k w (by simpa using ents_map l)
  have hsm := hK.same k
  have hfd := hm.fnd k
  have hrun : ∃ es' l' c' b, (Instr.mapEntry t (.map (some r)) (kf k)).run P w = .ok (.tuple #[vf ((m k).getD z), I (b : Nat)]) { w with heap := w.heap.setIfInBounds r (.map es' c') } ∧ es' = (Ents kf vf l').toArray ∧ IsM (mupd m k ((m k).getD z)) l' c' ∧ (k, (m k).getD z, b) ∈ l' := by
    cases hf : fndG k (l.map fun x => (x.1, x.2.1)) 0 with
    | none =>
      rw [hf] at hfk hfd
      have hn : m k = none := hfd.symm
      refine ⟨(Ents kf vf l).toArray.push { key := kf k, val := vf z, born := clock }, l ++ [(k, z, clock)], clock + 1, clock, ?_, by simp [Ents], by rw [hn]; exact hm.push hn z, by rw [hn]; simp⟩
      rw [hn]
      simp only [Instr.mapEntry, Sem.run_bind, run_underlying hu, Result.andThen_ok]
      simp [run_getM hg, run_setM hg, hck', hfk, run_zeroF hz, goInt]
    | some y =>
      rw [hf] at hfk hfd
      have hn : m k = some y.2 := hfd.symm
      obtain ⟨b, hb⟩ := hm.at hf
      refine ⟨(Ents kf vf l).toArray, l, clock, b, ?_, rfl, by rw [hn]; simp only [Option.getD_some]; rw [mupd_same hn]; exact hm, by rw [hn]; exact List.mem_iff_getElem?.2 ⟨y.1, hb⟩⟩
      rw [hn]
      have hkey' : (Option.map (fun x => x.key) (Ents kf vf l)[y.1]?).getD (kf k) = kf k := by simp [Ents, hb]
      have hborn : (Option.map (fun x => x.born) (Ents kf vf l)[y.1]?).getD 0 = b := by simp [Ents, hb]
      have hke : ((Ents kf vf l).modify y.1 fun e => { e with key := kf k }) = Ents kf vf l := by have := congrArg Array.toList (ents_key (kf := kf) (vf := vf) hb); simpa using this
      simp only [Instr.mapEntry, Sem.run_bind, run_underlying hu, Result.andThen_ok]
      simp [run_getM hg, hck', hfk, Instr.keyThatStays, hkey', hsm, hborn, goInt]
      rw [hke]
      have hborn' : (Option.map (fun x => (x.born : Int)) (Ents kf vf l)[y.fst]?).getD 0 = (b : Int) := by simp [Ents, hb]
      simp [run_setM hg, hborn']
  obtain ⟨es', l', c', b, hr, he, hm', hb⟩ := hrun
  subst he
  refine ⟨_, _, { w with heap := w.heap.setIfInBounds r (.map (Ents kf vf l').toArray c') }, ?_, ⟨b, rfl, rfl⟩, s.os, s.tape, s.output, ?_⟩
  · simp only [execOp, en.eval hx, en.eval hy, Sem.run_bind, hr, Result.andThen_ok, Sem.run_pure]
  · rw [hw_set w r _ _ hg]
    refine (Sat.upd kk hk s.sat fun h1 _ hb1 => ⟨?_, l', c', _, hm', hb, put_same _ _ _⟩).1
    obtain ⟨_, _, _, q⟩ := hb1
    rw [q]; simp
theorem TO.ment [DecidableEq κ] {t ke e r : Nat} {x y : Operand} {k : κ} {z : ν} (kk : Nat) (ht : mapGB P t ke e = true) (hK : KeyOk P ke kf) (hz : (P.info? e).bind (·.zero) = some (vf z)) (hx : opv E x = some (.map (some r))) (hk : L[kk]? = some (MF kf vf r m)) (hy : opv E y = some (kf k)) (hd : Nat.blt d N = true)
    (h : ∀ b : Nat, TO P N B ops rest ((d, .tuple #[vf ((m k).getD z), I (b : Int)]) :: E) (L.set kk (MFS kf vf r (mupd m k ((m k).getD z)) k b)) Q) : TO P N B ops (⟨some d, .mapEntry t x y, ty, ps, af, none⟩ :: rest) E L Q :=
  TO.step rfl rfl hd (StepW.ment ht hK hz hx hk hy) fun u L' ⟨b, hu, hL⟩ => by subst hu; subst hL; exact h b
theorem find_born {l : List (κ × ν × Nat)} {clock : Nat} (hm : IsM m l clock) {k : κ} {v : ν} {b : Nat} (hb : (k, v, b) ∈ l) : ∃ i, l[i]? = some (k, v, b) ∧ (Ents kf vf l).findIdx? (fun e => (e.born : Int) == (b : Int)) = some i := by
  obtain ⟨i, hi⟩ := List.mem_iff_getElem?.1 hb
  refine ⟨i, hi, ?_⟩
  have hlt := (List.getElem?_eq_some_iff.1 hi).1
  rw [List.findIdx?_eq_some_iff_getElem]
  refine ⟨by simpa [Ents] using hlt, ?_, ?_⟩
  · have : l[i] = (k, v, b) := (List.getElem?_eq_some_iff.1 hi).2
    simp [Ents, this]
  · intro j hj
    have hjl : j < l.length := by omega
    have : l[j].2.2 ≠ b := fun e => by
      have := born_one hm (List.getElem?_eq_getElem hjl) hi e
      omega
    simp [Ents]
    intro e
    exact this (by omega)
theorem StepW.mest [DecidableEq κ] {t r kk b : Nat} {x y z : Operand} {k : κ} {v : ν} (hx : opv E x = some (.map (some r))) (hk : L[kk]? = some (MFS kf vf r m k b)) (hy : opv E y = some (I (b : Int))) (hz : opv E z = some (vf v)) :
    StepW P N B ⟨dd, .entryStore t x y z, ty, ps, af, gd⟩ E L (fun u L' => u = undef ∧ L' = L.set kk (MF kf vf r (mupd m k v))) := by
  refine StepW.of_skip fun a w en s => ?_
  obtain ⟨h, sh, l, clock, v0, hm, hb, hh⟩ := s.get (Ent.at kk hk)
  have hg : w.heap[r]? = some (.map (Ents kf vf l).toArray clock) := sh r _ hh
  obtain ⟨i, hi, hfi⟩ := find_born (kf := kf) (vf := vf) hm hb
  have hmod : ((Ents kf vf l).toArray.modify i fun e => { e with val := vf v }) = (Ents kf vf (l.set i (k, v, b))).toArray := by
    apply Array.ext_getElem?
    intro j
    have hlt := (List.getElem?_eq_some_iff.1 hi).1
    rw [Array.getElem?_modify]
    simp only [Ents, List.getElem?_toArray, List.getElem?_map, List.getElem?_set]
    by_cases e : i = j
    · subst e
      have hq := (List.getElem?_eq_some_iff.1 hi).2
      simp [hi, hlt, hq]
    · simp [e]
  have hr : (Instr.entryStore t (.map (some r)) (I (b : Int)) (vf v)).run P w = .ok () { w with heap := w.heap.setIfInBounds r (.map (Ents kf vf (l.set i (k, v, b))).toArray clock) } := by
    rw [← hmod]
    simp [Instr.entryStore, run_getM hg, asInt, asIntOf, hfi, run_setM hg]
  refine ⟨_, { w with heap := w.heap.setIfInBounds r (.map (Ents kf vf (l.set i (k, v, b))).toArray clock) }, ?_, ⟨rfl, rfl⟩, s.os, s.tape, s.output, ?_⟩
  · simp only [execOp, en.eval hx, en.eval hy, en.eval hz, Sem.run_bind, hr, Result.andThen_ok, Sem.run_pure]
  · rw [hw_set w r _ _ hg]
    refine (Sat.upd kk hk s.sat fun h1 _ hb1 => ⟨?_, _, _, hm.set hi v, put_same _ _ _⟩).1
    obtain ⟨_, _, _, _, _, q⟩ := hb1
    rw [q]; simp
theorem TO.mest [DecidableEq κ] {t r b : Nat} {x y z : Operand} {k : κ} {v : ν} (kk : Nat) (hx : opv E x = some (.map (some r))) (hk : L[kk]? = some (MFS kf vf r m k b)) (hy : opv E y = some (I (b : Int))) (hz : opv E z = some (vf v))
    (h : TO P N B ops rest E (L.set kk (MF kf vf r (mupd m k v))) Q) : TO P N B ops (⟨none, .entryStore t x y z, ty, ps, af, none⟩ :: rest) E L Q :=
  TO.step0 rfl rfl (StepW.mest hx hk hy hz) fun u L' ⟨_, hL⟩ => by subst hL; exact h
theorem mupd_mupd [DecidableEq κ] (m : κ → Option ν) (k : κ) (u v : ν) : mupd (mupd m k u) k v = mupd m k v := by
  funext j; unfold mupd; by_cases e : j = k <;> simp [e]

/-! Going through. -/
/-- A map that is gone through: q has come so far. -/
def MFR (kf : κ → Value) (vf : ν → Value) (it r : Nat) (m : κ → Option ν) (q : List (κ × ν)) : HP := fun h => ∃ (l qs : List (κ × ν × Nat)) (clock : Nat), IsM m l clock ∧ (∀ x ∈ qs, x ∈ l) ∧ q = qs.map (fun x => (x.1, x.2.1)) ∧
  h r = some (.map (Ents kf vf l).toArray clock) ∧ h it = some (.mapIter (some r) clock (qs.map (·.2.2)).toArray clock)
theorem Sat.unrange {it r : Nat} {q : List (κ × ν)} {h : PH} (s : Sat (MFR kf vf it r m q :: L) h) : Sat (MF kf vf r m :: L) h :=
  Sat.imp1 (fun g ⟨l, qs, c, hm, _, _, hr, _⟩ => ⟨g, Sub.refl g, l, c, hm, hr⟩) s
theorem StepW.range {t ke e r : Nat} {x : Operand} (ht : mapGB P t ke e = true) (hx : opv E x = some (.map (some r))) :
    StepW P N B ⟨dd, .range t x, ty, ps, af, gd⟩ E (MF kf vf r m :: L) (fun u L' => ∃ it : Nat, u = .pointer (some ⟨it, 0, none⟩) ∧ L' = MFR kf vf it r m [] :: L) := by
  refine StepW.of_run fun a w en s => ?_
  have hu := mapGB_spec ht
  obtain ⟨l, clock, hm, hg⟩ := s.getM Ent.hd
  have hr := run_range_map w t ke e r _ clock hu hg
  refine ⟨_, _, w.alloc (.mapIter (some r) clock #[] clock), ?_, ⟨w.heap.size, rfl, rfl⟩, s.os, s.tape, s.output, ?_⟩
  · simp [execOp, en.eval hx, hr]
  · have hs := s.sat
    obtain ⟨h1, h2, dj, s1, s2, ⟨l', c', hm', hh⟩, rr⟩ := hs
    have e1 := s1 r _ hh
    have e2 : hw w r = some (.map (Ents kf vf l).toArray clock) := hg
    rw [e2] at e1
    obtain ⟨_, rfl⟩ := Obj.map.inj (Option.some.inj e1)
    rw [hw_alloc]
    have hn := hw_new w
    have h1n : h1 w.heap.size = none := by
      cases y : h1 w.heap.size with
      | none => rfl
      | some u => rw [s1 _ _ y] at hn; cases hn
    have h2n : h2 w.heap.size = none := by
      cases y : h2 w.heap.size with
      | none => rfl
      | some u => rw [s2 _ _ y] at hn; cases hn
    refine ⟨put h1 w.heap.size (.mapIter (some r) clock #[] clock), h2, ?_, s1.put _ _, s2.put_none h2n _, ⟨l', [], clock, hm', fun _ h => (by cases h), rfl, ?_, by simp [put_same]⟩, rr⟩
    · intro b
      by_cases hb : b = w.heap.size
      · subst hb; exact .inr h2n
      · rw [put_ne _ _ hb]; exact dj b
    · rw [put_ne]; exact hh
      rintro rfl
      rw [h1n] at hh; cases hh
theorem TO.range {t ke e r : Nat} {x : Operand} (ht : mapGB P t ke e = true) (hx : opv E x = some (.map (some r))) (hd : Nat.blt d N = true)
    (h : ∀ it, TO P N B ops rest ((d, .pointer (some ⟨it, 0, none⟩)) :: E) (MFR kf vf it r m [] :: L) Q) : TO P N B ops (⟨some d, .range t x, ty, ps, af, none⟩ :: rest) E (MF kf vf r m :: L) Q :=
  TO.step rfl rfl hd (StepW.range ht hx) fun u L' ⟨it, hu, hL⟩ => by subst hu; subst hL; exact h it
theorem TO.next {it r : Nat} {x : Operand} {q : List (κ × ν)} (kk : Nat) (hx : opv E x = some (.pointer (some ⟨it, 0, none⟩))) (hk : L[kk]? = some (MFR kf vf it r m q)) (hd : Nat.blt d N = true)
    (h0 : (∀ k v, m k = some v → (k, v) ∈ q) → TO P N B ops rest ((d, .tuple #[.bool false]) :: E) L Q)
    (h1 : ∀ k v, m k = some v → k ∉ q.map (·.1) → TO P N B ops rest ((d, .tuple #[.bool true, kf k, vf v]) :: E) (L.set kk (MFR kf vf it r m (q ++ [(k, v)]))) Q) :
    TO P N B ops (⟨some d, .next x false, ty, ps, af, none⟩ :: rest) E L Q := by
  refine TO.step (R := fun u L' => ((∀ k v, m k = some v → (k, v) ∈ q) ∧ u = .tuple #[.bool false] ∧ L' = L) ∨ ∃ k v, m k = some v ∧ k ∉ q.map (·.1) ∧ u = .tuple #[.bool true, kf k, vf v] ∧ L' = L.set kk (MFR kf vf it r m (q ++ [(k, v)]))) rfl rfl hd
    (StepW.of_run fun a w en s => ?_) (fun u L' hR => ?_)
  · obtain ⟨h, sh, l, qs, clock, hm, hin, hq, hr, hit⟩ := s.get (Ent.at kk hk)
    have gr : w.heap[r]? = some (.map (Ents kf vf l).toArray clock) := sh r _ hr
    have gi : w.heap[it]? = some (.mapIter (some r) clock (qs.map (·.2.2)).toArray clock) := sh it _ hit
    have hold : ∀ x ∈ (Ents kf vf l).toArray.toList, x.born < clock := fun x hx => by
      simp [Ents] at hx
      obtain ⟨k, v, b, hx, rfl⟩ := hx
      exact hm.old _ hx
    rcases run_next_at (P := P) w ty it r clock clock (qs.map (·.2.2)).toArray (Ents kf vf l).toArray clock gi gr hold (Nat.le_refl _) with ⟨h0, hrun⟩ | ⟨e, he, w1, hw1, hrun⟩
    · refine ⟨_, _, w, by simp [execOp, en.eval hx, hrun], .inl ⟨?_, rfl, rfl⟩, s⟩
      intro k v hkv
      obtain ⟨b, hb⟩ := (hm.get k v).1 hkv
      have hall : ∀ e ∈ (Ents kf vf l).toArray, (qs.map (·.2.2)).toArray.contains e.born = true := by
        intro e he
        have h00 : leftOf (Ents kf vf l).toArray (qs.map (·.2.2)).toArray = #[] := Array.eq_empty_of_size_eq_zero h0
        unfold leftOf at h00
        rw [Array.filter_eq_empty_iff] at h00
        have := h00 e he
        simpa using this
      have h3 := hall ⟨kf k, vf v, b⟩ (by simp [Ents]; exact ⟨k, v, b, hb, rfl, rfl, rfl⟩)
      simp at h3
      obtain ⟨k2, v2, h3⟩ := h3
      rw [hq]
      have h4 := hin _ h3
      obtain ⟨i, hi⟩ := List.mem_iff_getElem?.1 hb
      obtain ⟨j, hj⟩ := List.mem_iff_getElem?.1 h4
      have := born_one hm hi hj rfl
      subst this
      rw [hi] at hj
      obtain ⟨rfl, rfl⟩ : k = k2 ∧ v = v2 := by simpa using hj
      exact List.mem_map.2 ⟨_, h3, rfl⟩
    · have he' : ∃ k v b, (k, v, b) ∈ l ∧ e = ⟨kf k, vf v, b⟩ ∧ ¬ b ∈ qs.map (·.2.2) := by
        unfold leftOf at he
        simp [Ents] at he
        obtain ⟨⟨k, v, b, hb, rfl⟩, hn⟩ := he
        exact ⟨k, v, b, hb, rfl, by simpa using hn⟩
      obtain ⟨k, v, b, hb, rfl, hn⟩ := he'
      have hw1' : hw w1 = hw w ∧ (w1.os = B.os ∧ DrawnOk B w1) ∧ w1.tape = w.tape ∧ w1.output = w.output ∧ w1.heap = w.heap := by
        rcases hw1 with rfl | rfl
        · exact ⟨rfl, s.os, rfl, rfl, rfl⟩
        · exact ⟨rfl, s.drew.os, rfl, rfl, rfl⟩
      refine ⟨_, _, setBlock w1 it (.mapIter (some r) clock ((qs.map (·.2.2)).toArray.push b) clock), by simp [execOp, en.eval hx, hrun], .inr ⟨k, v, (hm.get k v).2 ⟨b, hb⟩, ?_, rfl, rfl⟩, ?_, ?_, ?_, ?_⟩
      · rw [hq, List.map_map, List.mem_map]
        rintro ⟨x, hx, e⟩
        have h4 := hin _ hx
        obtain ⟨i, hi⟩ := List.mem_iff_getElem?.1 hb
        obtain ⟨j, hj⟩ := List.mem_iff_getElem?.1 h4
        have := key_one hm hj hi (by simpa using e)
        subst this
        rw [hi] at hj
        obtain rfl := Option.some.inj hj
        exact hn (List.mem_map.2 ⟨_, hx, rfl⟩)
      · exact hw1'.2.1
      · exact hw1'.2.2.1.trans s.tape
      · exact hw1'.2.2.2.1.trans s.output
      · have : hw (setBlock w1 it (.mapIter (some r) clock ((qs.map (·.2.2)).toArray.push b) clock)) = put (hw w) it (.mapIter (some r) clock ((qs.map (·.2.2)).toArray.push b) clock) := by
          rw [← hw1'.1]
          exact hw_set w1 it _ _ (by rw [hw1'.1]; exact gi)
        rw [this]
        refine (Sat.upd kk hk s.sat fun h1 sh1 hb1 => ?_).1
        obtain ⟨l', qs', c', hm', hin', hq', hr', hit'⟩ := hb1
        have e1 := sh1 r _ hr'
        have e2 := sh1 it _ hit'
        have g1 : hw w r = some (.map (Ents kf vf l).toArray clock) := gr
        have g2 : hw w it = some (.mapIter (some r) clock (qs.map (·.2.2)).toArray clock) := gi
        refine ⟨by rw [hit']; simp, l, qs ++ [(k, v, b)], clock, hm, ?_, by simp [hq], ?_, by simp [put_same]⟩
        · intro x hx
          rw [List.mem_append] at hx
          rcases hx with hx | hx
          · exact hin x hx
          · simp at hx; subst hx; exact hb
        · rw [g1] at e1
          rw [put_ne, hr']; exact e1.symm
          rintro rfl
          rw [hit'] at hr'; cases hr'
  · rcases hR with ⟨hd0, rfl, rfl⟩ | ⟨k, v, hk1, hn, rfl, rfl⟩
    · exact h0 hd0
    · exact h1 k v hk1 hn
theorem StepS.entryF {it r : Nat} {x : Operand} {q : List (κ × ν)} {k : κ} {v : ν} (hx : opv E x = some (.pointer (some ⟨it, 0, none⟩))) (en : Ent L (MFR kf vf it r m (q ++ [(k, v)]))) :
    StepS P N B ⟨dd, .entry x, ty, ps, af, gd⟩ E L (.tuple #[kf k, vf v]) := by
  intro a w en' s
  obtain ⟨h, sh, l, qs, clock, hm, hin, hq, hr, hit⟩ := s.get en
  have gr : w.heap[r]? = some (.map (Ents kf vf l).toArray clock) := sh r _ hr
  have gi : w.heap[it]? = some (.mapIter (some r) clock (qs.map (·.2.2)).toArray clock) := sh it _ hit
  obtain ⟨qs', y, rfl⟩ : ∃ qs' y, qs = qs' ++ [y] := by
    have : qs ≠ [] := by rintro rfl; simp at hq
    exact ⟨qs.dropLast, qs.getLast this, (List.dropLast_concat_getLast this).symm⟩
  rw [List.map_append, List.map_singleton] at hq
  have hy : (k, v) = (y.1, y.2.1) := by
    have := List.append_inj_right' hq rfl
    simpa using this
  obtain ⟨rfl, rfl⟩ := Prod.mk.inj hy
  have hyl := hin y (by simp)
  have := run_entry_at (P := P) w it r clock (qs'.map (·.2.2)).toArray (Ents kf vf l).toArray clock ⟨kf y.1, vf y.2.1, y.2.2⟩ (by rw [gi]; simp) gr (by simp [Ents]; exact ⟨y.1, y.2.1, y.2.2, hyl, rfl, rfl, rfl⟩) (by simp [Ents]; exact hm.born)
  simp [execOp, en'.eval hx, this]

variable {X : Post}
/-- A loop over a map, in its block. -/
theorem TC.rangeM [DecidableEq κ] {σ ρ : Type} {id : Nat} {cd : Code} {body : κ → ν → σ → Option (Ctl σ Unit ρ)} {s0 : σ} {o : Ctl σ Unit ρ} (hm : Bk.rangeM m body s0 = some o) (Pre : List (κ × ν) → σ → Act → World → Prop) (Aft : σ → Act → World → Prop) (Ret : ρ → Act → World → Prop)
    (hb : ∀ q s, (∀ k v, m k = some v → k ∉ q.map (·.1) → ∃ c, body k v s = some c) → ∀ a w, Pre q s a w → cd.wp P
      (Post.q { nrm := fun a w => ∃ k v s', m k = some v ∧ k ∉ q.map (·.1) ∧ body k v s = some (.nxt s') ∧ Pre (q ++ [(k, v)]) s' a w
                ret := fun a w => ∃ k v r, m k = some v ∧ k ∉ q.map (·.1) ∧ body k v s = some (.ret r) ∧ Ret r a w
                ex := [(id, fun a w => (∀ k v, m k = some v → (k, v) ∈ q) ∧ Aft s a w)] }) a w)
    (h0 : ∀ a w, EnvOk N E a → St B L w → Pre [] s0 a w) (hnxt : ∀ s, o = .nxt s → ∀ a w, Aft s a w → X.nrm a w) (hret : ∀ r, o = .ret r → ∀ a w, Ret r a w → X.ret a w) : TC P N B (.block id (.loop cd)) E L X := by
  obtain ⟨⟨p, hp⟩, hall⟩ := rangeM_spec hm
  refine TC.block fun a w e st => ?_
  have key : ∀ (n : Nat) (q : List (κ × ν)) (s : σ), RInv m body s0 o q s → p.length + 1 ≤ q.length + n → ∀ a w, Pre q s a w → Code.rounds P cd (fun e a w => match e with
      | .ret => ∃ r, o = .ret r ∧ Ret r a w
      | .exit i => i = id ∧ ∃ s, o = .nxt s ∧ Aft s a w
      | _ => False) n a w := by
    intro n
    induction n with
    | zero =>
      intro q s hi hn a w hpre
      have := hi.sub.len hp
      omega
    | succ n ih =>
      intro q s hi hn a w hpre
      rw [rounds_succ]
      refine wp_mono (hb q s (fun k v hk hq => by obtain ⟨c, hc, _⟩ := hi.more hk hq; exact ⟨c, hc⟩) a w hpre) ?_
      intro ex a w hq
      cases ex with
      | normal =>
        obtain ⟨k, v, s', hk, hn', hbd, hpre'⟩ := hq
        obtain ⟨c, hc, hc2⟩ := hi.more hk hn'
        rw [hbd] at hc
        obtain rfl := Option.some.inj hc
        exact ih (q ++ [(k, v)]) s' hc2 (by simp; omega) a w hpre'
      | exit i =>
        obtain ⟨M, hM, hMa⟩ := hq
        simp only [lkx] at hM
        cases hi' : Nat.beq i id with
        | false => rw [hi'] at hM; cases hM
        | true =>
          rw [hi'] at hM
          simp at hM
          subst hM
          obtain rfl := Nat.eq_of_beq_eq_true hi'
          exact ⟨rfl, s, hi.done hMa.1, hMa.2⟩
      | ret =>
        obtain ⟨k, v, r, hk, hn', hbd, hr⟩ := hq
        obtain ⟨c, hc, hc2⟩ := hi.more hk hn'
        rw [hbd] at hc
        obtain rfl := Option.some.inj hc
        exact ⟨r, hc2, hr⟩
      | goto l => exact hq
      | panic c => exact hq
      | outgrown => exact hq
  refine wp_mono (wp_loop_rounds (p.length + 1) (key (p.length + 1) [] s0 (RInv.start hm) (by simp) a w (h0 a w e st))) ?_
  intro ex a w hq
  cases ex with
  | exit i =>
    obtain ⟨rfl, s, hs, ha⟩ := hq
    exact ⟨_, by simp [lkx], hnxt s hs a w ha⟩
  | ret => obtain ⟨r, hr, h⟩ := hq; exact hret r hr a w h
  | normal => exact hq.elim
  | goto l => exact hq.elim
  | panic c => exact hq.elim
  | outgrown => exact hq.elim
/-- In a round, once the entry is known. -/
theorem TC.rmore {σ ρ : Type} (id : Nat) {cd : Code} {body : κ → ν → σ → Option (Ctl σ Unit ρ)} {q : List (κ × ν)} {s : σ} {c : Ctl σ Unit ρ} {Pre : List (κ × ν) → σ → Act → World → Prop} {Ret : ρ → Act → World → Prop} {Ex : List (Nat × (Act → World → Prop))} {k : κ} {v : ν}
    (hk : m k = some v) (hn : k ∉ q.map (·.1)) (hb : body k v s = some c) (h : TC P N B cd E L (loopPost id (Pre (q ++ [(k, v)])) (fun _ _ _ => False) Ret c)) :
    TC P N B cd E L { nrm := fun a w => ∃ k v s', m k = some v ∧ k ∉ q.map (·.1) ∧ body k v s = some (.nxt s') ∧ Pre (q ++ [(k, v)]) s' a w
                      ret := fun a w => ∃ k v r, m k = some v ∧ k ∉ q.map (·.1) ∧ body k v s = some (.ret r) ∧ Ret r a w
                      ex := Ex } := by
  intro a w e st
  refine wp_mono (h a w e st) ?_
  intro ex a w hq
  cases c with
  | brk b =>
    cases ex with
    | exit i =>
      obtain ⟨M, hM, m⟩ := hq
      simp only [loopPost, lkx] at hM
      cases hi : Nat.beq i id with
      | false => rw [hi] at hM; cases hM
      | true => rw [hi] at hM; simp at hM; subst hM; exact m.elim
    | normal => exact hq.elim
    | ret => exact hq.elim
    | goto l => exact hq.elim
    | panic c => exact hq.elim
    | outgrown => exact hq.elim
  | nxt s' =>
    cases ex with
    | normal => exact ⟨k, v, s', hk, hn, hb, hq⟩
    | exit i => obtain ⟨M, hM, _⟩ := hq; simp [loopPost, lkx] at hM
    | ret => exact hq.elim
    | goto l => exact hq.elim
    | panic c => exact hq.elim
    | outgrown => exact hq.elim
  | ret r =>
    cases ex with
    | normal => exact hq.elim
    | exit i => obtain ⟨M, hM, _⟩ := hq; simp [loopPost, lkx] at hM
    | ret => exact ⟨k, v, r, hk, hn, hb, hq⟩
    | goto l => exact hq.elim
    | panic c => exact hq.elim
    | outgrown => exact hq.elim
end
end
end Go.Bk
