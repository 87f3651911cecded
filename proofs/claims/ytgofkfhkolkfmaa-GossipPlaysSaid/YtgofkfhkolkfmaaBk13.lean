/-
  Rules for maps of any keys that can be compared, and any values. Nothing of any program stands here.
-/
import Derived.Test.YtgofkfhkolkfmaaBk12
namespace Go.Bk
open Go
set_option linter.unusedVariables false
set_option linter.unusedSimpArgs false

section maps
variable {κ ν : Type} [DecidableEq κ]
/-- A map that the call owns: its entries, in the order in which they came. -/
def MpG (kf : κ → Value) (vf : ν → Value) (r : Nat) (m : List (κ × ν)) : HP := fun h => ∃ es clock, h r = some (.map es clock) ∧ es.toList.map (fun e => (e.key, e.val)) = m.map (fun x => (kf x.1, vf x.2))
def fndG (k : κ) : List (κ × ν) → Nat → Option (Nat × ν)
  | [], _ => none
  | x :: m, i => if x.1 = k then some (i, x.2) else fndG k m (i + 1)
def mgetG (z : ν) (m : List (κ × ν)) (k : κ) : ν := match fndG k m 0 with | some (_, v) => v | none => z
def msetG (m : List (κ × ν)) (k : κ) (v : ν) : List (κ × ν) := match fndG k m 0 with | some (i, _) => m.set i (k, v) | none => m ++ [(k, v)]
theorem fndG_spec {k : κ} : ∀ {m : List (κ × ν)} {i j : Nat} {v : ν}, fndG k m i = some (j, v) → i ≤ j ∧ m[j - i]? = some (k, v)
  | [], i, j, v, h => by simp [fndG] at h
  | x :: m, i, j, v, h => by
    rw [fndG] at h
    split at h
    · rename_i hx
      simp only [Option.some.injEq, Prod.mk.injEq] at h
      obtain ⟨rfl, rfl⟩ := h
      subst hx
      simp
    · obtain ⟨h1, h2⟩ := fndG_spec h
      refine ⟨by omega, ?_⟩
      rw [show j - i = (j - (i + 1)) + 1 by omega]
      simpa using h2
theorem fndG_shift {k : κ} : ∀ (m : List (κ × ν)) (i : Nat), fndG k m (i + 1) = (fndG k m i).map (fun x => (x.1 + 1, x.2))
  | [], i => rfl
  | x :: m, i => by
    rw [fndG, fndG]
    split
    · rfl
    · exact fndG_shift m (i + 1)
/-- The first entry of a key. -/
def val? (m : List (κ × ν)) (k : κ) : Option ν := (m.find? (fun x => x.1 = k)).map (·.2)
theorem fndG_val (k : κ) : ∀ (m : List (κ × ν)) (i : Nat), (fndG k m i).map (·.2) = val? m k
  | [], i => rfl
  | x :: m, i => by
    rw [fndG, val?, List.find?_cons]
    by_cases h : x.1 = k
    · simp [h]
    · simp only [h, if_false, decide_false]
      exact fndG_val k m (i + 1)
theorem mgetG_val (z : ν) (m : List (κ × ν)) (k : κ) : mgetG z m k = (val? m k).getD z := by
  rw [← fndG_val k m 0]; unfold mgetG; cases fndG k m 0 <;> rfl
theorem val_set (m : List (κ × ν)) (k : κ) (v : ν) (j : κ) : val? (msetG m k v) j = if j = k then some v else val? m j := by
  have key : ∀ (m : List (κ × ν)), (∀ i w, fndG k m 0 = some (i, w) → val? (m.set i (k, v)) j = if j = k then some v else val? m j) ∧
      (fndG k m 0 = none → val? (m ++ [(k, v)]) j = if j = k then some v else val? m j) := by
    intro m
    induction m with
    | nil =>
      refine ⟨fun i w h => by simp [fndG] at h, fun _ => ?_⟩
      by_cases e : j = k
      · subst e; simp [val?]
      · have : ¬ k = j := fun q => e q.symm
        simp [val?, this, e]
    | cons x m ih =>
      obtain ⟨ih1, ih2⟩ := ih
      have hc : ∀ l : List (κ × ν), val? (x :: l) j = if x.1 = j then some x.2 else val? l j := fun l => by
        unfold val?; rw [List.find?_cons]; by_cases q : x.1 = j <;> simp [q]
      constructor
      · intro i w h
        rw [fndG] at h
        split at h
        · rename_i hx
          simp only [Option.some.injEq, Prod.mk.injEq] at h
          obtain ⟨rfl, rfl⟩ := h
          have hc2 : val? ((k, v) :: m) j = if k = j then some v else val? m j := by
            unfold val?; rw [List.find?_cons]; by_cases q : k = j <;> simp [q]
          rw [List.set_cons_zero, hc2, hc]
          by_cases e : j = k
          · subst e; simp
          · have : ¬ k = j := fun q => e q.symm
            have h2 : ¬ x.1 = j := fun q => e (by rw [← q, hx])
            simp [this, e, h2]
        · rename_i hx
          rw [fndG_shift] at h
          cases hf : fndG k m 0 with
          | none => rw [hf] at h; cases h
          | some y =>
            rw [hf] at h
            simp only [Option.map_some, Option.some.injEq, Prod.mk.injEq] at h
            obtain ⟨rfl, rfl⟩ := h
            rw [List.set_cons_succ, hc, hc, ih1 y.1 y.2 hf]
            by_cases e2 : x.1 = j
            · have : ¬ j = k := fun q => hx (by rw [e2, q])
              simp [e2, this]
            · simp [e2]
      · intro h
        rw [fndG] at h
        split at h
        · cases h
        · rename_i hx
          rw [fndG_shift] at h
          have h' : fndG k m 0 = none := by simpa using h
          rw [List.cons_append, hc, hc, ih2 h']
          by_cases e2 : x.1 = j
          · have : ¬ j = k := fun q => hx (by rw [e2, q])
            simp [e2, this]
          · simp [e2]
  unfold msetG
  cases h : fndG k m 0 with
  | none => exact (key m).2 h
  | some y => exact (key m).1 y.1 y.2 h
theorem mgetG_set (z : ν) (m : List (κ × ν)) (k : κ) (v : ν) (j : κ) : mgetG z (msetG m k v) j = if j = k then v else mgetG z m j := by
  rw [mgetG_val, mgetG_val, val_set]; by_cases e : j = k <;> simp [e]
theorem mgetG_nil (z : ν) (j : κ) : mgetG z ([] : List (κ × ν)) j = z := rfl

/-- Keys that the machine compares as they are. -/
structure KeyOk (P : Program) (ke : TypeId) (kf : κ → Value) : Prop where
  chk : ∀ b k w, (Instr.checkKey b 10000 ke (kf k)).run P w = .ok () w
  find : ∀ {ν : Type} (vf : ν → Value) (es : List MapEntry) (m : List (κ × ν)) (k : κ) (w : World), es.map (fun e => (e.key, e.val)) = m.map (fun x => (kf x.1, vf x.2)) → (Instr.findKey ke (kf k) es).run P w = .ok ((fndG k m 0).map fun x => (x.1, vf x.2)) w
  same : ∀ k, Instr.sameBits 10000 (kf k) (kf k) = true
end maps

theorem findNow_intG {ν : Type} (vf : ν → Value) (j : IntKind) (k : Int) : ∀ (es : List MapEntry) (m : List (Int × ν)) (i : Nat), es.map (fun e => (e.key, e.val)) = m.map (fun x => (.int j x.1, vf x.2)) → Instr.findNow (.int j) (.int j k) es i = some ((fndG k m i).map fun x => (x.1, vf x.2))
  | [], m, i, h => by
    have : m = [] := by simpa using h.symm
    subst this
    simp [Instr.findNow, fndG]
  | e :: es, [], i, h => by simp at h
  | e :: es, x :: m, i, h => by
    simp only [List.map_cons, List.cons.injEq, Prod.mk.injEq] at h
    obtain ⟨⟨h1, h2⟩, h3⟩ := h
    have ih := findNow_intG vf j k es m (i + 1) h3
    rw [Instr.findNow, h1, fndG]
    simp only [Instr.sameNow, if_true]
    by_cases e : x.1 = k
    · subst e; simp [h2]
    · have : (k == x.1) = false := by simpa using fun q => e q.symm
      rw [this]
      simp [e, ih]
theorem KeyOk.int {P : Program} {ke : TypeId} (h : P.underlying ke = some (.int .i64)) : KeyOk P ke (fun k : Int => I k) where
  chk := fun b k w => run_checkKey (P := P) h b 9999 k w
  find := fun vf es m k w hm => by simp [Instr.findKey, run_underlying h, findNow_intG vf .i64 k es m 0 hm]
  same := fun k => by simp [Instr.sameBits]

theorem run_part {P : Program} {t : TypeId} (hs : sizeB P t 1 = true) (ha : scalB P t = true) (m n : Int) (w : World) :
    (part t #[.int .i64 m, .int .i64 n] 0).run P w = .ok (.int .i64 m) w ∧ (part t #[.int .i64 m, .int .i64 n] 1).run P w = .ok (.int .i64 n) w := by
  constructor <;> simp [part, run_sizeB hs, run_scal ha]
theorem run_askPair {P : Program} {t e : TypeId} (ht : P.underlying t = some (.array 2 e)) (he : P.underlying e = some (.int .i64)) (hs : sizeB P e 1 = true) (ha : scalB P e = true) {ν : Type} (vf : ν → Value) (k : Int × Int) (w : World) :
    ∀ (es : List MapEntry) (m : List ((Int × Int) × ν)) (i : Nat), es.map (fun e => (e.key, e.val)) = m.map (fun x => (.agg #[I x.1.1, I x.1.2], vf x.2)) →
      (Instr.findAsking t (.agg #[I k.1, I k.2]) es i).run P w = .ok ((fndG k m i).map fun x => (x.1, vf x.2)) w
  | [], m, i, h => by
    have : m = [] := by simpa using h.symm
    subst this
    simp [Instr.findAsking, fndG]
  | e' :: es, [], i, h => by simp at h
  | e' :: es, x :: m, i, h => by
    simp only [List.map_cons, List.cons.injEq, Prod.mk.injEq] at h
    obtain ⟨⟨h1, h2⟩, h3⟩ := h
    have ih := run_askPair ht he hs ha vf k w es m (i + 1) h3
    have hq : (Op.equal t (.agg #[I k.1, I k.2]) e'.key).run P w = .ok (k.1 == x.1.1 && k.2 == x.1.2) w := by
      rw [h1]; exact run_eq2 ht he hs ha k.1 k.2 x.1.1 x.1.2 w
    rw [Instr.findAsking, fndG]
    simp only [Sem.run_bind, hq, Result.andThen_ok]
    by_cases c : x.1 = k
    · subst c; simp [h2]
    · have : (k.1 == x.1.1 && k.2 == x.1.2) = false := by
        cases q : (k.1 == x.1.1 && k.2 == x.1.2) with
        | false => rfl
        | true =>
          exfalso; apply c
          simp only [Bool.and_eq_true, beq_iff_eq] at q
          exact Prod.ext q.1.symm q.2.symm
      rw [this]
      simp [c, ih]
theorem KeyOk.pair {P : Program} {t e : TypeId} (ht : P.underlying t = some (.array 2 e)) (he : P.underlying e = some (.int .i64)) (hs : sizeB P e 1 = true) (ha : scalB P e = true) : KeyOk P t (fun k : Int × Int => .agg #[I k.1, I k.2]) where
  chk := fun b k w => by
    have h1 : ∀ a, (Instr.checkKey b 9999 e (I a)).run P w = .ok () w := fun a => run_checkKey (P := P) he b 9998 a w
    have h0 : ∀ n, (∀ a, (Instr.checkKey b n e (I a)).run P w = .ok () w) → (Instr.checkKey b (n + 1) t (.agg #[I k.1, I k.2])).run P w = .ok () w := fun n hn => by
      rw [Instr.checkKey]
      simp only [Sem.run_bind, run_underlying ht, Result.andThen_ok, run_sizeB hs]
      generalize hf : Instr.checkKey b n e = f at *
      simp [Std.Legacy.Range.forIn_eq_forIn_range', Std.Legacy.Range.size, List.range', part, run_sizeB hs, run_scal ha, hn]
    exact h0 9999 h1
  find := fun vf es m k w hm => by
    have hf : Instr.findKey t (.agg #[I k.1, I k.2]) es = (do match Instr.findNow (← underlying t) (.agg #[I k.1, I k.2]) es 0 with | some r => pure r | none => Instr.findAsking t (.agg #[I k.1, I k.2]) es) := rfl
    have ha' := run_askPair ht he hs ha vf k w es m 0 hm
    rw [hf]
    simp only [Sem.run_bind, run_underlying ht, Result.andThen_ok]
    cases es with
    | nil =>
      have : m = [] := by simpa using hm.symm
      subst this
      simp [Instr.findNow, fndG]
    | cons x es =>
      have : Instr.findNow (.array 2 e) (.agg #[I k.1, I k.2]) (x :: es) 0 = none := by rw [Instr.findNow]; simp [Instr.sameNow]
      rw [this]
      exact ha'
  same := fun k => by
    have : ∀ n, Instr.sameBits (n + 1) (.agg #[I k.1, I k.2]) (.agg #[I k.1, I k.2]) = true := fun n => by simp [Instr.sameBits]
    exact this 9999

def mapGB (P : Program) (t ke e : TypeId) : Bool := (match P.underlying t with | some (.map k' e') => Nat.beq k' ke && Nat.beq e' e | _ => false)
theorem mapGB_spec {P : Program} {t ke e : TypeId} (h : mapGB P t ke e = true) : P.underlying t = some (.map ke e) := by
  unfold mapGB at h
  cases x : P.underlying t with
  | none => rw [x] at h; cases h
  | some d =>
    rw [x] at h
    cases d with
    | map k' e' => simp only [Bool.and_eq_true] at h; rw [Nat.eq_of_beq_eq_true h.1, Nat.eq_of_beq_eq_true h.2]
    | _ => exact absurd h (by simp)

section
variable {P : Program} {N : Nat} {B : World} {E : Env} {L : List HP} {ops : Array Oper} {rest : List Oper} {Q : Act → World → Prop}
variable {d : Nat} {dd : Option Tmp} {ty : TypeId} {ps : String} {af : Array Edge} {gd : Option (Nat × Bool)}
variable {κ ν : Type} {kf : κ → Value} {vf : ν → Value}
theorem TO.mkMG {t : TypeId} (hd : Nat.blt d N = true) (h : ∀ r, TO P N B ops rest ((d, .map (some r)) :: E) (MpG kf vf r [] :: L) Q) : TO P N B ops (⟨some d, .makeMap t none, ty, ps, af, none⟩ :: rest) E L Q := by
  refine TO.step (R := fun v L' => ∃ r, v = .map (some r) ∧ L' = MpG kf vf r [] :: L) rfl rfl hd (StepW.of_run fun a w en s => ?_) (fun v L' ⟨r, hv, hL⟩ => by subst hv; subst hL; exact h r)
  have hr : (execOp a.eval ⟨some d, .makeMap t none, ty, ps, af, none⟩).run P w = .ok (.value (.map (some w.heap.size))) (w.alloc (.map #[] 0)) := by
    simp [execOp, Instr.makeMap]
  exact ⟨_, _, _, hr, ⟨_, rfl, rfl⟩, s.new ⟨#[], 0, put_same _ _ _, rfl⟩⟩
variable [DecidableEq κ]

theorem StepS.lookG {t ke e r : Nat} {x y : Operand} {m : List (κ × ν)} {k : κ} {z : ν} {v : Value} (ht : mapGB P t ke e = true) (hK : KeyOk P ke kf) (hz : (P.info? e).bind (·.zero) = some (vf z)) (hx : opv E x = some (.map (some r))) (en : Ent L (MpG kf vf r m)) (hy : opv E y = some (kf k)) (hv : vf (mgetG z m k) = v) :
    StepS P N B ⟨dd, .lookup t x y false, ty, ps, af, gd⟩ E L v := by
  subst hv
  intro a w en' s
  have hu := mapGB_spec ht
  obtain ⟨h, sh, es, clock, hh, hm⟩ := s.get en
  have hg : w.heap[r]? = some (.map es clock) := sh r _ hh
  have hget : (getObj r).run P w = .ok (.map es clock) w := by simp [getObj, Sem.run, hg]
  have hfk := hK.find vf es.toList m k w hm
  have hzv : (zeroValue e).run P w = .ok (vf z) w := by
    cases hi : P.info? e with
    | none => rw [hi] at hz; cases hz
    | some i => rw [hi] at hz; have hz' : i.zero = some (vf z) := hz; simp [zeroValue, typeInfo, hi, hz']
  have hck' := fun b => hK.chk b k w
  have hl : (Instr.lookup t (.map (some r)) (kf k) false).run P w = .ok (vf (mgetG z m k)) w := by
    simp only [Instr.lookup, Sem.run_bind, run_underlying hu, Result.andThen_ok]
    simp [hget, hck', hfk]
    unfold mgetG
    cases fndG k m 0 with
    | none => simp [hzv]
    | some y => simp
  simp only [execOp, en'.eval hx, en'.eval hy, Sem.run_bind, hl, Result.andThen_ok, Sem.run_pure]
theorem StepW.msetG {t ke e r kk : Nat} {x y z : Operand} {m : List (κ × ν)} {k : κ} {v : ν} (ht : mapGB P t ke e = true) (hK : KeyOk P ke kf) (hx : opv E x = some (.map (some r))) (hk : L[kk]? = some (MpG kf vf r m)) (hy : opv E y = some (kf k)) (hz : opv E z = some (vf v)) :
    StepW P N B ⟨dd, .mapUpdate t x y z, ty, ps, af, gd⟩ E L (fun u L' => u = undef ∧ L' = L.set kk (MpG kf vf r (Bk.msetG m k v))) := by
  refine StepW.of_skip fun a w en s => ?_
  have hu := mapGB_spec ht
  obtain ⟨h, sh, es, clock, hh, hm⟩ := s.get (Ent.at kk hk)
  have hg : w.heap[r]? = some (.map es clock) := sh r _ hh
  have hg' : hw w r = some (.map es clock) := hg
  have hget : (getObj r).run P w = .ok (.map es clock) w := by simp [getObj, Sem.run, hg]
  have hset : ∀ o, (setObj r o).run P w = .ok () { w with heap := w.heap.setIfInBounds r o } := fun o => by simp [setObj, Sem.run, hg]
  have hck' := fun b => hK.chk b k w
  have hfk := hK.find vf es.toList m k w hm
  have hsm := hK.same k
  have hrun : ∃ es' c', (Instr.mapUpdate t (.map (some r)) (kf k) (vf v)).run P w = .ok () { w with heap := w.heap.setIfInBounds r (.map es' c') } ∧ es'.toList.map (fun e => (e.key, e.val)) = (Bk.msetG m k v).map (fun x => (kf x.1, vf x.2)) := by
    unfold Bk.msetG
    cases hf : fndG k m 0 with
    | none =>
      rw [hf] at hfk
      refine ⟨es.push { key := kf k, val := vf v, born := clock }, clock + 1, ?_, by simp [hm]⟩
      simp only [Instr.mapUpdate, Sem.run_bind, run_underlying hu, Result.andThen_ok]
      simp [hget, hset, hck', hfk]
    | some y =>
      rw [hf] at hfk
      obtain ⟨_, hy⟩ := fndG_spec hf
      rw [Nat.sub_zero] at hy
      have hlen : es.toList.length = m.length := by have := congrArg List.length hm; simpa using this
      have hlt : y.1 < es.toList.length := by rw [hlen]; exact (List.getElem?_eq_some_iff.1 hy).1
      have hel : ((es.toList[y.1]).key, (es.toList[y.1]).val) = (kf k, vf y.2) := by
        have h1 : (es.toList.map (fun e => (e.key, e.val)))[y.1]? = some (kf k, vf y.2) := by rw [hm, List.getElem?_map, hy]; rfl
        rw [List.getElem?_map, List.getElem?_eq_getElem hlt] at h1
        exact Option.some.inj h1
      have hkey : ((es[y.1]?).map (·.key)).getD (kf k) = kf k := by
        have : es[y.1]? = some es.toList[y.1] := by rw [← Array.getElem?_toList, List.getElem?_eq_getElem hlt]
        rw [this]
        exact (Prod.mk.inj hel).1
      refine ⟨es.modify y.1 fun e => { e with key := kf k, val := vf v }, clock, ?_, ?_⟩
      · simp only [Instr.mapUpdate, Sem.run_bind, run_underlying hu, Result.andThen_ok]
        simp [hget, hset, hck', hfk, hkey, Instr.keyThatStays, hsm]
      · apply List.ext_getElem?
        intro j
        have hmj : (es.toList.map (fun e => (e.key, e.val)))[j]? = (m.map (fun x => (kf x.1, vf x.2)))[j]? := by rw [hm]
        simp only [List.getElem?_map, Array.getElem?_toList, Array.getElem?_modify, List.getElem?_set] at hmj ⊢
        by_cases e : y.1 = j
        · subst e
          have h1 : y.1 < m.length := by omega
          have : es[y.1]? = some es.toList[y.1] := by rw [← Array.getElem?_toList, List.getElem?_eq_getElem hlt]
          simp [h1, this]
        · rw [if_neg e, if_neg e]; exact hmj
  obtain ⟨es', c', hr, hm'⟩ := hrun
  have hr2 : (execOp a.eval ⟨dd, .mapUpdate t x y z, ty, ps, af, gd⟩).run P w = .ok .skip { w with heap := w.heap.setIfInBounds r (.map es' c') } := by
    simp only [execOp, en.eval hx, en.eval hy, en.eval hz, Sem.run_bind, hr, Result.andThen_ok, Sem.run_pure]
  refine ⟨_, _, hr2, ⟨rfl, rfl⟩, s.os, s.tape, s.output, ?_⟩
  rw [hw_set w r _ _ hg']
  refine (Sat.upd kk hk s.sat fun h1 _ hb1 => ⟨?_, es', c', put_same _ _ _, hm'⟩).1
  obtain ⟨_, _, q, _⟩ := hb1
  rw [q]; simp
theorem TO.msetG {t ke e r : Nat} {x y z : Operand} {m : List (κ × ν)} {k : κ} {v : ν} (kk : Nat) (ht : mapGB P t ke e = true) (hK : KeyOk P ke kf) (hx : opv E x = some (.map (some r))) (hk : L[kk]? = some (MpG kf vf r m)) (hy : opv E y = some (kf k)) (hz : opv E z = some (vf v))
    (h : TO P N B ops rest E (L.set kk (MpG kf vf r (Bk.msetG m k v))) Q) : TO P N B ops (⟨none, .mapUpdate t x y z, ty, ps, af, none⟩ :: rest) E L Q :=
  TO.step0 rfl rfl (StepW.msetG ht hK hx hk hy hz) fun u L' ⟨_, hL⟩ => by subst hL; exact h
end
end Go.Bk
