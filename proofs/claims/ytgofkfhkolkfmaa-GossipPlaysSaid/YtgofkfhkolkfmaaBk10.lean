/-
  Rules for maps from int to int. Nothing of any program stands here.
-/
import Derived.Test.YtgofkfhkolkfmaaBk9
namespace Go.Bk
open Go
set_option linter.unusedVariables false
set_option linter.unusedSimpArgs false

/-- A map that the call owns: its entries, in the order in which they came. -/
def Mp (r : Nat) (m : List (Int × Int)) : HP := fun h => ∃ es clock, h r = some (.map es clock) ∧ es.toList.map (fun e => (e.key, e.val)) = m.map (fun x => (I x.1, I x.2))
def fnd (k : Int) : List (Int × Int) → Nat → Option (Nat × Int)
  | [], _ => none
  | x :: m, i => if x.1 = k then some (i, x.2) else fnd k m (i + 1)
def mget (m : List (Int × Int)) (k : Int) : Int := match fnd k m 0 with | some (_, v) => v | none => 0
def mset (m : List (Int × Int)) (k v : Int) : List (Int × Int) := match fnd k m 0 with | some (i, _) => m.set i (k, v) | none => m ++ [(k, v)]
theorem fnd_spec {k : Int} : ∀ {m : List (Int × Int)} {i j : Nat} {v : Int}, fnd k m i = some (j, v) → i ≤ j ∧ m[j - i]? = some (k, v)
  | [], i, j, v, h => by simp [fnd] at h
  | x :: m, i, j, v, h => by
    rw [fnd] at h
    split at h
    · rename_i hx
      simp only [Option.some.injEq, Prod.mk.injEq] at h
      obtain ⟨rfl, rfl⟩ := h
      subst hx
      simp
    · obtain ⟨h1, h2⟩ := fnd_spec h
      refine ⟨by omega, ?_⟩
      rw [show j - i = (j - (i + 1)) + 1 by omega]
      simpa using h2
theorem fnd_shift {k : Int} : ∀ (m : List (Int × Int)) (i : Nat), fnd k m (i + 1) = (fnd k m i).map (fun x => (x.1 + 1, x.2))
  | [], i => rfl
  | x :: m, i => by
    rw [fnd, fnd]
    split
    · rfl
    · exact fnd_shift m (i + 1)
theorem mget_set (m : List (Int × Int)) (k v j : Int) : mget (mset m k v) j = if j = k then v else mget m j := by
  have key : ∀ (m : List (Int × Int)), (∀ i w, fnd k m 0 = some (i, w) → (match fnd j (m.set i (k, v)) 0 with | some (_, v) => v | none => 0) = if j = k then v else mget m j) ∧
      (fnd k m 0 = none → (match fnd j (m ++ [(k, v)]) 0 with | some (_, v) => v | none => 0) = if j = k then v else mget m j) := by
    intro m
    induction m with
    | nil =>
      refine ⟨fun i w h => by simp [fnd] at h, fun _ => ?_⟩
      by_cases e : j = k
      · subst e; simp [fnd]
      · have : ¬ k = j := fun q => e q.symm
        simp [fnd, this, e, mget]
    | cons x m ih =>
      obtain ⟨ih1, ih2⟩ := ih
      constructor
      · intro i w h
        rw [fnd] at h
        split at h
        · rename_i hx
          simp only [Option.some.injEq, Prod.mk.injEq] at h
          obtain ⟨rfl, rfl⟩ := h
          by_cases e : j = k
          · subst e; simp [fnd]
          · have : ¬ k = j := fun q => e q.symm
            have h2 : ¬ x.1 = j := fun q => e (by rw [← q, hx])
            simp [fnd, this, e, mget, h2]
        · rename_i hx
          rw [fnd_shift] at h
          cases hf : fnd k m 0 with
          | none => rw [hf] at h; cases h
          | some y =>
            rw [hf] at h
            simp only [Option.map_some, Option.some.injEq, Prod.mk.injEq] at h
            obtain ⟨rfl, rfl⟩ := h
            have := ih1 y.1 y.2 hf
            rw [List.set_cons_succ, fnd]
            by_cases e2 : x.1 = j
            · have : ¬ j = k := fun q => hx (by rw [e2, q])
              simp [e2, this, mget, fnd]
            · rw [if_neg e2, fnd_shift]
              unfold mget at this ⊢
              rw [fnd, if_neg e2, fnd_shift]
              revert this
              cases fnd j (m.set y.1 (k, v)) 0 <;> cases fnd j m 0 <;> simp
      · intro h
        rw [fnd] at h
        split at h
        · cases h
        · rename_i hx
          rw [fnd_shift] at h
          have h' : fnd k m 0 = none := by simpa using h
          have := ih2 h'
          rw [List.cons_append, fnd]
          by_cases e2 : x.1 = j
          · have : ¬ j = k := fun q => hx (by rw [e2, q])
            simp [e2, this, mget, fnd]
          · rw [if_neg e2, fnd_shift]
            unfold mget at this ⊢
            rw [fnd, if_neg e2, fnd_shift]
            revert this
            cases fnd j (m ++ [(k, v)]) 0 <;> cases fnd j m 0 <;> simp
  unfold mset
  cases h : fnd k m 0 with
  | none => exact (key m).2 h
  | some y => exact (key m).1 y.1 y.2 h

def mapB (P : Program) (t ke e : TypeId) : Bool := (match P.underlying t with | some (.map k' e') => Nat.beq k' ke && Nat.beq e' e | _ => false) && intB P ke .i64 && (match (P.info? e).bind (·.zero) with | some (.int .i64 0) => true | _ => false)
theorem mapB_spec {P : Program} {t ke e : TypeId} (h : mapB P t ke e = true) : P.underlying t = some (.map ke e) ∧ P.underlying ke = some (.int .i64) ∧ (P.info? e).bind (·.zero) = some (I 0) := by
  unfold mapB at h
  simp only [Bool.and_eq_true] at h
  refine ⟨?_, intB_spec h.1.2, ?_⟩
  · have h1 := h.1.1
    cases x : P.underlying t with
    | none => rw [x] at h1; cases h1
    | some d =>
      rw [x] at h1
      cases d with
      | map k' e' => simp only [Bool.and_eq_true] at h1; rw [Nat.eq_of_beq_eq_true h1.1, Nat.eq_of_beq_eq_true h1.2]
      | _ => exact absurd h1 (by simp)
  · have h2 := h.2
    split at h2
    · rename_i q; exact q
    · cases h2
theorem findNow_int (k : Int) : ∀ (es : List MapEntry) (m : List (Int × Int)) (i : Nat), es.map (fun e => (e.key, e.val)) = m.map (fun x => (I x.1, I x.2)) → Instr.findNow (.int .i64) (I k) es i = some ((fnd k m i).map fun x => (x.1, I x.2))
  | [], m, i, h => by
    have : m = [] := by simpa using h.symm
    subst this
    simp [Instr.findNow, fnd]
  | e :: es, [], i, h => by simp at h
  | e :: es, x :: m, i, h => by
    simp only [List.map_cons, List.cons.injEq, Prod.mk.injEq] at h
    obtain ⟨⟨h1, h2⟩, h3⟩ := h
    have ih := findNow_int k es m (i + 1) h3
    rw [Instr.findNow, h1, fnd]
    simp only [Instr.sameNow, if_true]
    by_cases e : x.1 = k
    · subst e; simp [h2]
    · have : (k == x.1) = false := by simpa using fun q => e q.symm
      rw [this]
      simp [e, ih]

section
variable {P : Program} {N : Nat} {B : World} {E : Env} {L : List HP} {ops : Array Oper} {rest : List Oper} {Q : Act → World → Prop}
variable {d : Nat} {dd : Option Tmp} {ty : TypeId} {ps : String} {af : Array Edge} {gd : Option (Nat × Bool)}

theorem TO.mkM {t : TypeId} (hd : Nat.blt d N = true) (h : ∀ r, TO P N B ops rest ((d, .map (some r)) :: E) (Mp r [] :: L) Q) : TO P N B ops (⟨some d, .makeMap t none, ty, ps, af, none⟩ :: rest) E L Q := by
  refine TO.step (R := fun v L' => ∃ r, v = .map (some r) ∧ L' = Mp r [] :: L) rfl rfl hd (StepW.of_run fun a w en s => ?_) (fun v L' ⟨r, hv, hL⟩ => by subst hv; subst hL; exact h r)
  have hr : (execOp a.eval ⟨some d, .makeMap t none, ty, ps, af, none⟩).run P w = .ok (.value (.map (some w.heap.size))) (w.alloc (.map #[] 0)) := by
    simp [execOp, Instr.makeMap]
  exact ⟨_, _, _, hr, ⟨_, rfl, rfl⟩, s.new ⟨#[], 0, put_same _ _ _, rfl⟩⟩
theorem run_checkKey {ke : TypeId} (h : P.underlying ke = some (.int .i64)) (b : Bool) (n : Nat) (k : Int) (w : World) : (Instr.checkKey b (n + 1) ke (I k)).run P w = .ok () w := by
  simp [Instr.checkKey, run_underlying h]
theorem run_findKey {ke : TypeId} (h : P.underlying ke = some (.int .i64)) {es : List MapEntry} {m : List (Int × Int)} (hm : es.map (fun e => (e.key, e.val)) = m.map (fun x => (I x.1, I x.2))) (k : Int) (w : World) :
    (Instr.findKey ke (I k) es).run P w = .ok ((fnd k m 0).map fun x => (x.1, I x.2)) w := by
  simp [Instr.findKey, run_underlying h, findNow_int k es m 0 hm]
theorem StepS.look {t ke e r : Nat} {x y : Operand} {m : List (Int × Int)} {k : Int} (ht : mapB P t ke e = true) (hx : opv E x = some (.map (some r))) (en : Ent L (Mp r m)) (hy : opv E y = some (I k)) :
    StepS P N B ⟨dd, .lookup t x y false, ty, ps, af, gd⟩ E L (I (mget m k)) := by
  intro a w en' s
  obtain ⟨hu, hk, hz⟩ := mapB_spec ht
  obtain ⟨h, sh, es, clock, hh, hm⟩ := s.get en
  have hg : w.heap[r]? = some (.map es clock) := sh r _ hh
  have hget : (getObj r).run P w = .ok (.map es clock) w := by simp [getObj, Sem.run, hg]
  have hck := fun b => run_checkKey (P := P) hk b 9999 k w
  have hfk := run_findKey (P := P) hk hm k w
  have hzv : (zeroValue e).run P w = .ok (I 0) w := by
    cases hi : P.info? e with
    | none => rw [hi] at hz; cases hz
    | some i => rw [hi] at hz; have hz' : i.zero = some (I 0) := hz; simp [zeroValue, typeInfo, hi, hz']
  have hck' : ∀ b, (Instr.checkKey b 10000 ke (I k)).run P w = .ok () w := hck
  have hl : (Instr.lookup t (.map (some r)) (I k) false).run P w = .ok (I (mget m k)) w := by
    simp only [Instr.lookup, Sem.run_bind, run_underlying hu, Result.andThen_ok]
    simp [hget, hck', hfk]
    unfold mget
    cases fnd k m 0 with
    | none => simp [hzv]
    | some y => simp
  simp only [execOp, en'.eval hx, en'.eval hy, Sem.run_bind, hl, Result.andThen_ok, Sem.run_pure]
theorem StepW.mset {t ke e r kk : Nat} {x y z : Operand} {m : List (Int × Int)} {k v : Int} (ht : mapB P t ke e = true) (hx : opv E x = some (.map (some r))) (hk : L[kk]? = some (Mp r m)) (hy : opv E y = some (I k)) (hz : opv E z = some (I v)) :
    StepW P N B ⟨dd, .mapUpdate t x y z, ty, ps, af, gd⟩ E L (fun u L' => u = undef ∧ L' = L.set kk (Mp r (mset m k v))) := by
  refine StepW.of_skip fun a w en s => ?_
  obtain ⟨hu, hki, _⟩ := mapB_spec ht
  obtain ⟨h, sh, es, clock, hh, hm⟩ := s.get (Ent.at kk hk)
  have hg : w.heap[r]? = some (.map es clock) := sh r _ hh
  have hg' : hw w r = some (.map es clock) := hg
  have hget : (getObj r).run P w = .ok (.map es clock) w := by simp [getObj, Sem.run, hg]
  have hset : ∀ o, (setObj r o).run P w = .ok () { w with heap := w.heap.setIfInBounds r o } := fun o => by simp [setObj, Sem.run, hg]
  have hck' : (Instr.checkKey false 10000 ke (I k)).run P w = .ok () w := run_checkKey (P := P) hki false 9999 k w
  have hfk := run_findKey (P := P) hki hm k w
  have hrun : ∃ es' c', (Instr.mapUpdate t (.map (some r)) (I k) (I v)).run P w = .ok () { w with heap := w.heap.setIfInBounds r (.map es' c') } ∧ es'.toList.map (fun e => (e.key, e.val)) = (Bk.mset m k v).map (fun x => (I x.1, I x.2)) := by
    unfold Bk.mset
    cases hf : fnd k m 0 with
    | none =>
      rw [hf] at hfk
      refine ⟨es.push { key := I k, val := I v, born := clock }, clock + 1, ?_, by simp [hm]⟩
      simp only [Instr.mapUpdate, Sem.run_bind, run_underlying hu, Result.andThen_ok]
      simp [hget, hset, hck', hfk]
    | some y =>
      rw [hf] at hfk
      obtain ⟨_, hy⟩ := fnd_spec hf
      rw [Nat.sub_zero] at hy
      have hlen : es.toList.length = m.length := by have := congrArg List.length hm; simpa using this
      have hlt : y.1 < es.toList.length := by rw [hlen]; exact (List.getElem?_eq_some_iff.1 hy).1
      have hel : ((es.toList[y.1]).key, (es.toList[y.1]).val) = (I k, I y.2) := by
        have h1 : (es.toList.map (fun e => (e.key, e.val)))[y.1]? = some (I k, I y.2) := by rw [hm, List.getElem?_map, hy]; rfl
        rw [List.getElem?_map, List.getElem?_eq_getElem hlt] at h1
        exact Option.some.inj h1
      have hkey : ((es[y.1]?).map (·.key)).getD (I k) = I k := by
        have : es[y.1]? = some es.toList[y.1] := by rw [← Array.getElem?_toList, List.getElem?_eq_getElem hlt]
        rw [this]
        exact (Prod.mk.inj hel).1
      refine ⟨es.modify y.1 fun e => { e with key := I k, val := I v }, clock, ?_, ?_⟩
      · simp only [Instr.mapUpdate, Sem.run_bind, run_underlying hu, Result.andThen_ok]
        simp [hget, hset, hck', hfk, hkey, Instr.keyThatStays, Instr.sameBits]
      · apply List.ext_getElem?
        intro j
        have hmj : (es.toList.map (fun e => (e.key, e.val)))[j]? = (m.map (fun x => (I x.1, I x.2)))[j]? := by rw [hm]
        simp only [List.getElem?_map, Array.getElem?_toList, Array.getElem?_modify, List.getElem?_set] at hmj ⊢
        by_cases e : y.1 = j
        · subst e
          have h1 : y.1 < m.length := by omega
          have : es[y.1]? = some es.toList[y.1] := by rw [← Array.getElem?_toList, List.getElem?_eq_getElem hlt]
          simp [h1, this]
        · rw [if_neg e, if_neg e]; exact hmj
  obtain ⟨es', c', hr, hm'⟩ := hrun
  have hr2 : (execOp a.eval ⟨dd, .mapUpdate t x y z, ty, ps, af, gd⟩).run P w = .ok .skip { w with heap := w.heap.setIfInBounds r (.map es' c') } := by
    simp only [execOp, en.eval hx, en.eval hy, en.eval hz, Sem.run_bind, hr, Result.andThen_ok, Sem.run_pure]
  refine ⟨_, _, hr2, ⟨rfl, rfl⟩, s.os, s.tape, s.output, ?_⟩
  rw [hw_set w r _ _ hg']
  refine (Sat.upd kk hk s.sat fun h1 _ hb1 => ⟨?_, es', c', put_same _ _ _, hm'⟩).1
  obtain ⟨_, _, q, _⟩ := hb1
  rw [q]; simp
theorem TO.mset {t ke e r : Nat} {x y z : Operand} {m : List (Int × Int)} {k v : Int} (kk : Nat) (ht : mapB P t ke e = true) (hx : opv E x = some (.map (some r))) (hk : L[kk]? = some (Mp r m)) (hy : opv E y = some (I k)) (hz : opv E z = some (I v))
    (h : TO P N B ops rest E (L.set kk (Mp r (Bk.mset m k v))) Q) : TO P N B ops (⟨none, .mapUpdate t x y z, ty, ps, af, none⟩ :: rest) E L Q :=
  TO.step0 rfl rfl (StepW.mset ht hx hk hy hz) fun u L' ⟨_, hL⟩ => by subst hL; exact h
end
end Go.Bk
