/-
  Maps whose keys are structs of two numbers. Nothing of any program stands here.
-/
import Derived.Test.YtgofkfhkolkfmaaBk31
namespace Go.Bk
open Go
set_option linter.unusedVariables false
set_option linter.unusedSimpArgs false
section
variable {P : Program}
theorem run_eqS' (d : Nat) {t e : TypeId} {f0 f1 : Field} (ht : P.underlying t = some (.struct #[f0, f1])) (q0 : f0.type = e ∧ f0.offset = 0 ∧ f0.name ≠ "_") (q1 : f1.type = e ∧ f1.offset = 1 ∧ f1.name ≠ "_") (he : P.underlying e = some (.int .i64)) (hs : sizeB P e 1 = true) (ha : scalB P e = true) (hh : P.stoodInHeld t = false) (m n p q : Int) (w : World) :
    (Op.equalIn (d + 1 + 1) t (.agg #[.int .i64 m, .int .i64 n]) (.agg #[.int .i64 p, .int .i64 q])).run P w = .ok (m == p && n == q) w := by
  have h1 := fun a b => run_equalIn_int (P := P) w d e .i64 .i64 a b he
  rw [Op.equalIn]
  simp only [Sem.run_bind, run_underlying ht, Result.andThen_ok]
  obtain ⟨a1, a2, a3⟩ := q0
  obtain ⟨b1, b2, b3⟩ := q1
  generalize hf : Op.equalIn (d + 1) = f at *
  cases h2 : (m == p) <;> simp [hh, a1, a2, a3, b1, b2, b3, part, run_sizeB hs, run_scal ha, h1, h2]
  all_goals (try (by_cases h3 : n = q <;> simp [h3]))
theorem run_eqS {t e : TypeId} {f0 f1 : Field} (ht : P.underlying t = some (.struct #[f0, f1])) (q0 : f0.type = e ∧ f0.offset = 0 ∧ f0.name ≠ "_") (q1 : f1.type = e ∧ f1.offset = 1 ∧ f1.name ≠ "_") (he : P.underlying e = some (.int .i64)) (hs : sizeB P e 1 = true) (ha : scalB P e = true) (hh : P.stoodInHeld t = false) (m n p q : Int) (w : World) :
    (Op.equal t (.agg #[.int .i64 m, .int .i64 n]) (.agg #[.int .i64 p, .int .i64 q])).run P w = .ok (m == p && n == q) w := run_eqS' 9998 ht q0 q1 he hs ha hh m n p q w
end
theorem run_askS {P : Program} {t e : TypeId} {f0 f1 : Field} (ht : P.underlying t = some (.struct #[f0, f1])) (q0 : f0.type = e ∧ f0.offset = 0 ∧ f0.name ≠ "_") (q1 : f1.type = e ∧ f1.offset = 1 ∧ f1.name ≠ "_") (he : P.underlying e = some (.int .i64)) (hs : sizeB P e 1 = true) (ha : scalB P e = true) (hh : P.stoodInHeld t = false) {ν : Type} (vf : ν → Value) (k : Int × Int) (w : World) :
    ∀ (es : List MapEntry) (m : List ((Int × Int) × ν)) (i : Nat), es.map (fun e => (e.key, e.val)) = m.map (fun x => (.agg #[I x.1.1, I x.1.2], vf x.2)) →
      (Instr.findAsking t (.agg #[I k.1, I k.2]) es i).run P w = .ok ((fndG k m i).map fun x => (x.1, vf x.2)) w
  | [], m, i, h => by
    have : m = [] := by simpa using h.symm
    subst this
    simp [Instr.findAsking, fndG]
  | e' :: es, [], i, h => by simp at h
  | e' :: es, x :: m, i, h => by
    simp only [List.map_cons, List.cons.injEq, Prod.mk.injEq] at h
    obtain ⟨⟨h1, h2⟩, h3⟩ := h
    have ih := run_askS ht q0 q1 he hs ha hh vf k w es m (i + 1) h3
    have hq : (Op.equal t (.agg #[I k.1, I k.2]) e'.key).run P w = .ok (k.1 == x.1.1 && k.2 == x.1.2) w := by
      rw [h1]; exact run_eqS ht q0 q1 he hs ha hh k.1 k.2 x.1.1 x.1.2 w
    rw [Instr.findAsking, fndG]
    simp only [Sem.run_bind, hq, Result.andThen_ok]
    by_cases c : x.1 = k
    · subst c; simp [h2]
    · have : (k.1 == x.1.1 && k.2 == x.1.2) = false := by
        cases q : (k.1 == x.1.1 && k.2 == x.1.2) with
        | false => rfl
        | true =>
          exfalso; apply c
          simp only [Bool.and_eq_true, beq_iff_eq] at q
          exact Prod.ext q.1.symm q.2.symm
      rw [this]
      simp [c, ih]
theorem KeyOk.tag {P : Program} {t e : TypeId} {f0 f1 : Field} (ht : P.underlying t = some (.struct #[f0, f1])) (q0 : f0.type = e ∧ f0.offset = 0 ∧ f0.name ≠ "_") (q1 : f1.type = e ∧ f1.offset = 1 ∧ f1.name ≠ "_") (he : P.underlying e = some (.int .i64)) (hs : sizeB P e 1 = true) (ha : scalB P e = true) (hh : P.stoodInHeld t = false) : KeyOk P t (fun k : Int × Int => .agg #[I k.1, I k.2]) where
  chk := fun b k w => by
    have h1 : ∀ a, (Instr.checkKey b 9999 e (I a)).run P w = .ok () w := fun a => run_checkKey (P := P) he b 9998 a w
    have h0 : ∀ n, (∀ a, (Instr.checkKey b n e (I a)).run P w = .ok () w) → (Instr.checkKey b (n + 1) t (.agg #[I k.1, I k.2])).run P w = .ok () w := fun n hn => by
      rw [Instr.checkKey]
      simp only [Sem.run_bind, run_underlying ht, Result.andThen_ok, run_sizeB hs]
      generalize hf : Instr.checkKey b n e = f at *
      simp [q0.1, q0.2.1, q0.2.2, q1.1, q1.2.1, q1.2.2, hf, part, run_sizeB hs, run_scal ha, hn]
    exact h0 9999 h1
  find := fun vf es m k w hm => by
    have hf : Instr.findKey t (.agg #[I k.1, I k.2]) es = (do match Instr.findNow (← underlying t) (.agg #[I k.1, I k.2]) es 0 with | some r => pure r | none => Instr.findAsking t (.agg #[I k.1, I k.2]) es) := rfl
    have ha' := run_askS ht q0 q1 he hs ha hh vf k w es m 0 hm
    rw [hf]
    simp only [Sem.run_bind, run_underlying ht, Result.andThen_ok]
    cases es with
    | nil =>
      have : m = [] := by simpa using hm.symm
      subst this
      simp [Instr.findNow, fndG]
    | cons x es =>
      have : Instr.findNow (.struct #[f0, f1]) (.agg #[I k.1, I k.2]) (x :: es) 0 = none := by rw [Instr.findNow]; simp [Instr.sameNow]
      rw [this]
      exact ha'
  same := fun k => by
    have : ∀ n, Instr.sameBits (n + 1) (.agg #[I k.1, I k.2]) (.agg #[I k.1, I k.2]) = true := fun n => by simp [Instr.sameBits]
    exact this 9999


def tagB (P : Program) (t e : TypeId) : Bool :=
  match P.underlying t with
  | some (.struct fs) =>
    match fs.toList with
    | [f0, f1] => (Nat.beq f0.type e && Nat.beq f0.offset 0 && decide (f0.name ≠ "_")) && (Nat.beq f1.type e && Nat.beq f1.offset 1 && decide (f1.name ≠ "_"))
    | _ => false
  | _ => false
theorem tagB_spec {P : Program} {t e : TypeId} (h : tagB P t e = true) : ∃ f0 f1 : Field, P.underlying t = some (.struct #[f0, f1]) ∧ (f0.type = e ∧ f0.offset = 0 ∧ f0.name ≠ "_") ∧ (f1.type = e ∧ f1.offset = 1 ∧ f1.name ≠ "_") := by
  unfold tagB at h
  split at h
  · rename_i fs hf
    split at h
    · rename_i f0 f1 hl
      have : fs = #[f0, f1] := by rw [← Array.toArray_toList (xs := fs), hl]
      subst this
      simp only [Bool.and_eq_true, decide_eq_true_eq] at h
      exact ⟨f0, f1, hf, ⟨Nat.eq_of_beq_eq_true h.1.1.1, Nat.eq_of_beq_eq_true h.1.1.2, h.1.2⟩, ⟨Nat.eq_of_beq_eq_true h.2.1.1, Nat.eq_of_beq_eq_true h.2.1.2, h.2.2⟩⟩
    · cases h
  · cases h
theorem KeyOk.tagOf {P : Program} {t e : TypeId} (h : tagB P t e = true) (he : P.underlying e = some (.int .i64)) (hs : sizeB P e 1 = true) (ha : scalB P e = true) (hh : P.stoodInHeld t = false) : KeyOk P t (fun k : Int × Int => .agg #[I k.1, I k.2]) := by
  obtain ⟨f0, f1, h1, h2, h3⟩ := tagB_spec h
  exact KeyOk.tag h1 h2 h3 he hs ha hh
end Go.Bk
