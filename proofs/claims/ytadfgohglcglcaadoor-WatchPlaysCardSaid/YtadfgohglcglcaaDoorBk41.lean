/-
  Maps whose keys are structs of two numbers and a string. Nothing of any program stands here.
-/
import Derived.Test.YtadfgohglcglcaaDoorBk36
namespace Go.Bk
open Go
set_option linter.unusedVariables false
set_option linter.unusedSimpArgs false
theorem run_askT {P : Program} {t : TypeId} {κ ν : Type} [DecidableEq κ] {xs : κ → Array Value} (ht : P.underlying t = some (.struct (P.fieldsOf t))) (hh : P.stoodInHeld t = false)
    (heq : ∀ a b : κ, eqFs P (xs a) (xs b) (P.fieldsOf t).toList = some (decide (b = a))) (vf : ν → Value) (k : κ) (w : World) :
    ∀ (es : List MapEntry) (m : List (κ × ν)) (i : Nat), es.map (fun e => (e.key, e.val)) = m.map (fun x => (.agg (xs x.1), vf x.2)) →
      (Instr.findAsking t (.agg (xs k)) es i).run P w = .ok ((fndG k m i).map fun x => (x.1, vf x.2)) w
  | [], m, i, h => by
    have : m = [] := by simpa using h.symm
    subst this
    simp [Instr.findAsking, fndG]
  | e' :: es, [], i, h => by simp at h
  | e' :: es, x :: m, i, h => by
    simp only [List.map_cons, List.cons.injEq, Prod.mk.injEq] at h
    obtain ⟨⟨h1, h2⟩, h3⟩ := h
    have ih := run_askT ht hh heq vf k w es m (i + 1) h3
    have hq : (Op.equal t (.agg (xs k)) e'.key).run P w = .ok (decide (x.1 = k)) w := by
      rw [h1]; exact run_eqSt ht hh (heq k x.1) w
    rw [Instr.findAsking, fndG]
    simp only [Sem.run_bind, hq, Result.andThen_ok]
    by_cases c : x.1 = k
    · subst c; simp [h2]
    · simp [c, ih]
def key3B (P : Program) (t e s : TypeId) : Bool :=
  match P.underlying t with
  | some (.struct fs) =>
    match fs.toList with
    | [f0, f1, f2] => (Nat.beq f0.type e && Nat.beq f0.offset 0 && decide (f0.name ≠ "_")) && (Nat.beq f1.type e && Nat.beq f1.offset 1 && decide (f1.name ≠ "_")) && (Nat.beq f2.type s && Nat.beq f2.offset 2 && decide (f2.name ≠ "_"))
    | _ => false
  | _ => false
theorem key3B_spec {P : Program} {t e s : TypeId} (h : key3B P t e s = true) : ∃ f0 f1 f2 : Field, P.underlying t = some (.struct #[f0, f1, f2]) ∧ (f0.type = e ∧ f0.offset = 0 ∧ f0.name ≠ "_") ∧ (f1.type = e ∧ f1.offset = 1 ∧ f1.name ≠ "_") ∧ (f2.type = s ∧ f2.offset = 2 ∧ f2.name ≠ "_") := by
  unfold key3B at h
  split at h
  · rename_i fs hf
    split at h
    · rename_i f0 f1 f2 hl
      have : fs = #[f0, f1, f2] := by rw [← Array.toArray_toList (xs := fs), hl]
      subst this
      simp only [Bool.and_eq_true, decide_eq_true_eq] at h
      exact ⟨f0, f1, f2, hf, ⟨Nat.eq_of_beq_eq_true h.1.1.1.1, Nat.eq_of_beq_eq_true h.1.1.1.2, h.1.1.2⟩, ⟨Nat.eq_of_beq_eq_true h.1.2.1.1, Nat.eq_of_beq_eq_true h.1.2.1.2, h.1.2.2⟩, ⟨Nat.eq_of_beq_eq_true h.2.1.1, Nat.eq_of_beq_eq_true h.2.1.2, h.2.2⟩⟩
    · cases h
  · cases h
theorem KeyOk.key3 {P : Program} {t e s : TypeId} (h : key3B P t e s = true) (hf : P.underlying t = some (.struct (P.fieldsOf t))) (he : P.underlying e = some (.int .i64)) (hes : sizeB P e 1 = true) (hea : scalB P e = true)
    (hs : P.underlying s = some .string) (hss : sizeB P s 1 = true) (hsa : scalB P s = true) (hh : P.stoodInHeld t = false) : KeyOk P t (fun k : Int × Int × ByteArray => .agg #[I k.1, I k.2.1, .string k.2.2]) := by
  obtain ⟨f0, f1, f2, ht, q0, q1, q2⟩ := key3B_spec h
  have hF : P.fieldsOf t = #[f0, f1, f2] := by
    rw [ht] at hf
    injection hf with hf
    injection hf with hf
    exact hf.symm
  have heq : ∀ a b : Int × Int × ByteArray, eqFs P #[I a.1, I a.2.1, .string a.2.2] #[I b.1, I b.2.1, .string b.2.2] (P.fieldsOf t).toList = some (decide (b = a)) := by
    rintro ⟨a1, a2, a3⟩ ⟨b1, b2, b3⟩
    have e1 : decide (((b1, b2, b3) : Int × Int × ByteArray) = (a1, a2, a3)) = (decide (a1 = b1) && (decide (a2 = b2) && decide (a3 = b3))) := by
      rw [Bool.eq_iff_iff]
      simp only [decide_eq_true_eq, Bool.and_eq_true, Prod.mk.injEq]
      constructor <;> rintro ⟨rfl, rfl, rfl⟩ <;> exact ⟨rfl, rfl, rfl⟩
    rw [hF, e1]
    simp only [eqFs, q0.1, q0.2.1, q1.1, q1.2.1, q2.1, q2.2.1, he, hs, hes, hea, hss, hsa]
    simp [q0.2.2, q1.2.2, q2.2.2, leafEq, bytes_eq]
    try rfl
  exact {
    chk := fun b k w => by
      have h1 : ∀ a, (Instr.checkKey b 9999 e (I a)).run P w = .ok () w := fun a => run_checkKey (P := P) he b 9998 a w
      have h2 : ∀ a, (Instr.checkKey b 9999 s (.string a)).run P w = .ok () w := fun a => run_checkKey2 (P := P) hs rfl b 9998 (.string a) w
      have h0 : ∀ n, (∀ a, (Instr.checkKey b n e (I a)).run P w = .ok () w) → (∀ a, (Instr.checkKey b n s (.string a)).run P w = .ok () w) → (Instr.checkKey b (n + 1) t (.agg #[I k.1, I k.2.1, .string k.2.2])).run P w = .ok () w := fun n hn hm => by
        rw [Instr.checkKey]
        simp only [Sem.run_bind, run_underlying ht, Result.andThen_ok]
        generalize hf : Instr.checkKey b n = f at *
        simp [q0.1, q0.2.1, q0.2.2, q1.1, q1.2.1, q1.2.2, q2.1, q2.2.1, q2.2.2, part, run_sizeB hes, run_scal hea, run_sizeB hss, run_scal hsa, hn, hm]
      exact h0 9999 h1 h2
    find := fun vf es m k w hm => by
      have hfk : Instr.findKey t (.agg #[I k.1, I k.2.1, .string k.2.2]) es = (do match Instr.findNow (← underlying t) (.agg #[I k.1, I k.2.1, .string k.2.2]) es 0 with | some r => pure r | none => Instr.findAsking t (.agg #[I k.1, I k.2.1, .string k.2.2]) es) := rfl
      have ha' := run_askT (xs := fun k : Int × Int × ByteArray => #[I k.1, I k.2.1, .string k.2.2]) hf hh heq vf k w es m 0 hm
      rw [hfk]
      simp only [Sem.run_bind, run_underlying ht, Result.andThen_ok]
      cases es with
      | nil =>
        have : m = [] := by simpa using hm.symm
        subst this
        simp [Instr.findNow, fndG]
      | cons x es =>
        have : Instr.findNow (.struct #[f0, f1, f2]) (.agg #[I k.1, I k.2.1, .string k.2.2]) (x :: es) 0 = none := by rw [Instr.findNow]; simp [Instr.sameNow]
        rw [this]
        exact ha'
    same := fun k => by
      have : ∀ n, Instr.sameBits (n + 1) (.agg #[I k.1, I k.2.1, .string k.2.2]) (.agg #[I k.1, I k.2.1, .string k.2.2]) = true := fun n => by simp [Instr.sameBits, bytes_eq]
      exact this 9999 }
end Go.Bk
