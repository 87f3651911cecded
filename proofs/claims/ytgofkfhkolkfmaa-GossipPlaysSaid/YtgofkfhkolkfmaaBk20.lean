/-
  Functions that call themselves; results of unknown place; keys that are pairs of words; function values in structs. Nothing of any program stands here.
-/
import Derived.Test.YtgofkfhkolkfmaaBk19
namespace Go.Bk
open Go
set_option linter.unusedVariables false
set_option linter.unusedSimpArgs false

/-! Functions that call themselves: the model says something if it does for some depth. -/
open Classical in
noncomputable def fixO {α : Type} (f : Nat → Option α) : Option α := if h : ∃ n r, f n = some r then some (Classical.choose (Classical.choose_spec h)) else none
theorem fixO_spec {α : Type} {f : Nat → Option α} {r : α} (h : fixO f = some r) : ∃ n, f n = some r := by
  unfold fixO at h
  split at h
  · rename_i hc
    obtain rfl := Option.some.inj h
    exact ⟨_, Classical.choose_spec (Classical.choose_spec hc)⟩
  · cases h
theorem fixO_of {α : Type} {f : Nat → Option α} {r : α} (n : Nat) (h : f n = some r) (u : ∀ m q, f m = some q → q = r) : fixO f = some r := by
  have hc : ∃ n r, f n = some r := ⟨n, r, h⟩
  have : fixO f = some (Classical.choose (Classical.choose_spec hc)) := by unfold fixO; rw [dif_pos hc]
  rw [this, u _ _ (Classical.choose_spec (Classical.choose_spec hc))]

/-! A list of assertions as one. -/
def G (M : List HP) : HP := fun h => Sat M h
theorem Sat.gather {M L : List HP} : ∀ {h : PH}, Sat (M ++ L) h → Sat (G M :: L) h := by
  induction M with
  | nil => intro h s; exact ⟨fun _ => none, h, fun _ => .inl rfl, fun _ _ e => (by cases e), Sub.refl h, trivial, s⟩
  | cons A M ih =>
    intro h s
    obtain ⟨h1, h2, d, s1, s2, a, r⟩ := s
    obtain ⟨g1, g2, d', t1, t2, b, r'⟩ := ih r
    have d1 : Dj h1 g1 := d.sub (Sub.refl _) t1
    have d2 : Dj h1 g2 := d.sub (Sub.refl _) t2
    exact ⟨un h1 g1, g2, d2.un d', s1.un (t1.trans s2), t2.trans s2, ⟨h1, g1, d1, sub_un_left _ _, sub_un_right d1, a, b⟩, r'⟩
theorem Sat.spread {M L : List HP} : ∀ {h : PH}, Sat (G M :: L) h → Sat (M ++ L) h := by
  induction M with
  | nil => intro h s; obtain ⟨h1, h2, _, _, s2, _, r⟩ := s; exact Sat.mono s2 r
  | cons A M ih =>
    intro h s
    obtain ⟨h1, h2, d, s1, s2, ⟨g1, g2, e, t1, t2, a, k⟩, r⟩ := s
    have hk : Sub g2 h1 := t2
    have dk : Dj g2 h2 := d.sub hk (Sub.refl _)
    have : Sat (M ++ L) (un g2 h2) := ih ⟨g2, h2, dk, sub_un_left _ _, sub_un_right dk, k, r⟩
    exact ⟨g1, un g2 h2, (e.symm.un (d.sub t1 (Sub.refl _)).symm).symm, t1.trans s1, (hk.trans s1).un s2, a, this⟩
theorem Ent.gather {M L : List HP} {A : HP} (e : Ent (M ++ L) A) : Ent (G M :: L) A := fun h s => e h (Sat.spread s)

/-- A function value is one cell. -/
theorem FOk.one {P : Program} {B : World} {L : List HP} {fv : Value} {α β : Type} {va : α → List Value} {vr : β → Value} {f : α → Option β} (h : FOk P B L fv va vr f) : fv.oneCell' = true ∧ fv.cells = #[fv] := by
  obtain ⟨k, fs, cs, rfl, _⟩ := h
  exact ⟨rfl, rfl⟩

section
variable {P : Program}
theorem run_checkKeyU {ke : TypeId} (h : P.underlying ke = some (.int .u32)) (b : Bool) (n : Nat) (k : BitVec 32) (w : World) : (Instr.checkKey b (n + 1) ke (U k)).run P w = .ok () w := by
  rw [Instr.checkKey]; simp [run_underlying h]
theorem run_eq2U' (d : Nat) {t e : TypeId} (ht : P.underlying t = some (.array 2 e)) (he : P.underlying e = some (.int .u32)) (hs : sizeB P e 1 = true) (ha : scalB P e = true) (m n p q : Int) (w : World) :
    (Op.equalIn (d + 1 + 1) t (.agg #[.int .u32 m, .int .u32 n]) (.agg #[.int .u32 p, .int .u32 q])).run P w = .ok (m == p && n == q) w := by
  have h1 := fun a b => run_equalIn_int (P := P) w d e .u32 .u32 a b he
  rw [Op.equalIn]
  simp only [Sem.run_bind, run_underlying ht, Result.andThen_ok, run_sizeB hs]
  generalize hf : Op.equalIn (d + 1) e = f at *
  cases h2 : (m == p) <;> simp [Std.Legacy.Range.forIn_eq_forIn_range', Std.Legacy.Range.size, List.range', part, run_sizeB hs, run_scal ha, h1, h2]
  all_goals (cases h3 : (n == q) <;> simp [h3] <;> simpa using h3)
theorem run_eq2U {t e : TypeId} (ht : P.underlying t = some (.array 2 e)) (he : P.underlying e = some (.int .u32)) (hs : sizeB P e 1 = true) (ha : scalB P e = true) (m n p q : Int) (w : World) :
    (Op.equalIn 10000 t (.agg #[.int .u32 m, .int .u32 n]) (.agg #[.int .u32 p, .int .u32 q])).run P w = .ok (m == p && n == q) w := run_eq2U' 9998 ht he hs ha m n p q w
theorem uinj (a b : BitVec 32) : ((a.toNat : Int) == (b.toNat : Int)) = (a == b) := by
  rw [Bool.eq_iff_iff]; simp; rw [← BitVec.toNat_inj]; omega
theorem run_askPairU {t e : TypeId} (ht : P.underlying t = some (.array 2 e)) (he : P.underlying e = some (.int .u32)) (hs : sizeB P e 1 = true) (ha : scalB P e = true) {ν : Type} (vf : ν → Value) (k : BitVec 32 × BitVec 32) (w : World) :
    ∀ (es : List MapEntry) (m : List ((BitVec 32 × BitVec 32) × ν)) (i : Nat), es.map (fun e => (e.key, e.val)) = m.map (fun x => (.agg #[U x.1.1, U x.1.2], vf x.2)) →
      (Instr.findAsking t (.agg #[U k.1, U k.2]) es i).run P w = .ok ((fndG k m i).map fun x => (x.1, vf x.2)) w
  | [], m, i, h => by
    have : m = [] := by simpa using h.symm
    subst this
    simp [Instr.findAsking, fndG]
  | e' :: es, [], i, h => by simp at h
  | e' :: es, x :: m, i, h => by
    simp only [List.map_cons, List.cons.injEq, Prod.mk.injEq] at h
    obtain ⟨⟨h1, h2⟩, h3⟩ := h
    have ih := run_askPairU ht he hs ha vf k w es m (i + 1) h3
    have hq : (Op.equal t (.agg #[U k.1, U k.2]) e'.key).run P w = .ok (k.1 == x.1.1 && k.2 == x.1.2) w := by
      rw [h1, ← uinj, ← uinj]; exact run_eq2U ht he hs ha k.1.toNat k.2.toNat x.1.1.toNat x.1.2.toNat w
    rw [Instr.findAsking, fndG]
    simp only [Sem.run_bind, hq, Result.andThen_ok]
    by_cases c : x.1 = k
    · subst c; simp [h2]
    · have : (k.1 == x.1.1 && k.2 == x.1.2) = false := by
        cases q : (k.1 == x.1.1 && k.2 == x.1.2) with
        | false => rfl
        | true =>
          exfalso; apply c
          simp only [Bool.and_eq_true, beq_iff_eq] at q
          exact Prod.ext q.1.symm q.2.symm
      rw [this]
      simp [c, ih]
theorem KeyOk.pairU {t e : TypeId} (ht : P.underlying t = some (.array 2 e)) (he : P.underlying e = some (.int .u32)) (hs : sizeB P e 1 = true) (ha : scalB P e = true) : KeyOk P t (fun k : BitVec 32 × BitVec 32 => .agg #[U k.1, U k.2]) where
  chk := fun b k w => by
    have h1 : ∀ a, (Instr.checkKey b 9999 e (U a)).run P w = .ok () w := fun a => run_checkKeyU (P := P) he b 9998 a w
    have h0 : ∀ n, (∀ a, (Instr.checkKey b n e (U a)).run P w = .ok () w) → (Instr.checkKey b (n + 1) t (.agg #[U k.1, U k.2])).run P w = .ok () w := fun n hn => by
      rw [Instr.checkKey]
      simp only [Sem.run_bind, run_underlying ht, Result.andThen_ok, run_sizeB hs]
      generalize hf : Instr.checkKey b n e = f at *
      simp [Std.Legacy.Range.forIn_eq_forIn_range', Std.Legacy.Range.size, List.range', part, run_sizeB hs, run_scal ha, hn]
    exact h0 9999 h1
  find := fun vf es m k w hm => by
    have hf : Instr.findKey t (.agg #[U k.1, U k.2]) es = (do match Instr.findNow (← underlying t) (.agg #[U k.1, U k.2]) es 0 with | some r => pure r | none => Instr.findAsking t (.agg #[U k.1, U k.2]) es) := rfl
    have ha' := run_askPairU ht he hs ha vf k w es m 0 hm
    rw [hf]
    simp only [Sem.run_bind, run_underlying ht, Result.andThen_ok]
    cases es with
    | nil =>
      have : m = [] := by simpa using hm.symm
      subst this
      simp [Instr.findNow, fndG]
    | cons x es =>
      have : Instr.findNow (.array 2 e) (.agg #[U k.1, U k.2]) (x :: es) 0 = none := by rw [Instr.findNow]; simp [Instr.sameNow]
      rw [this]
      exact ha'
  same := fun k => by
    have : ∀ n, Instr.sameBits (n + 1) (.agg #[U k.1, U k.2]) (.agg #[U k.1, U k.2]) = true := fun n => by simp [Instr.sameBits]
    exact this 9999
end
end Go.Bk
