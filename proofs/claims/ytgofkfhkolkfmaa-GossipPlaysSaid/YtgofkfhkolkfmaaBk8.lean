/-
  Rules for struct and array values. Nothing of any program stands here.
-/
import Derived.Test.YtgofkfhkolkfmaaBk7
import Derived.Laws.StructEq
namespace Go.Bk
open Go
set_option linter.unusedVariables false
set_option linter.unusedSimpArgs false
section
variable {P : Program} {N : Nat} {B : World} {E : Env} {L : List HP} {ops : Array Oper} {rest : List Oper} {Q : Act → World → Prop}
variable {d : Nat} {dd : Option Tmp} {ty : TypeId} {ps : String} {af : Array Edge} {gd : Option (Nat × Bool)}

theorem StepS.build {t : TypeId} {parts : List (Nat × Operand)} {vs : List (Nat × Value)} {cs : List Value} (hp : opvp E parts = some vs) (h : P.built t vs = some cs.toArray) :
    StepS P N B ⟨dd, .build t parts.toArray, ty, ps, af, gd⟩ E L (.agg cs.toArray) := by
  intro a w en s
  have hm : (Array.map (fun (i, x) => (i, a.eval x)) parts.toArray).toList = vs := by rw [List.map_toArray, en.evalp hp]
  have hr := run_build (P := P) w t (Array.map (fun (i, x) => (i, a.eval x)) parts.toArray) cs.toArray (by rw [hm]; exact h)
  simp only [execOp, Sem.run_bind, hr, Result.andThen_ok, Sem.run_pure]

/-- A slice's header in a box. -/
theorem TO.boxS {t sz : Nat} {x : Operand} {v : Value} {css : List (List Value)} (hx : opv E x = some v) (en : Ent L (Rd sz v css)) (hd : Nat.blt d N = true)
    (h : ∀ b, TO P N B ops rest ((d, .pointer (some ⟨b, 0, none⟩)) :: E) (Bx b t [v] :: L) Q) : TO P N B ops (⟨some d, .box t x, ty, ps, af, none⟩ :: rest) E L Q := by
  intro a w e s
  have hc : v.cells = [v].toArray := by
    obtain ⟨h1, _, _, hr⟩ := s.get en
    rcases hr with ⟨⟨ad, rfl⟩, _⟩ | ⟨b, o, cap, arr, el, fz, rfl, _⟩ <;> rfl
  exact TO.box hx hc hd h a w e s
theorem run_eq2' (d : Nat) {t e : TypeId} (ht : P.underlying t = some (.array 2 e)) (he : P.underlying e = some (.int .i64)) (hs : sizeB P e 1 = true) (ha : scalB P e = true) (m n p q : Int) (w : World) :
    (Op.equalIn (d + 1 + 1) t (.agg #[.int .i64 m, .int .i64 n]) (.agg #[.int .i64 p, .int .i64 q])).run P w = .ok (m == p && n == q) w := by
  have h1 := fun a b => run_equalIn_int (P := P) w d e .i64 .i64 a b he
  rw [Op.equalIn]
  simp only [Sem.run_bind, run_underlying ht, Result.andThen_ok, run_sizeB hs]
  generalize hf : Op.equalIn (d + 1) e = f at *
  cases h2 : (m == p) <;> simp [Std.Legacy.Range.forIn_eq_forIn_range', Std.Legacy.Range.size, List.range', part, run_sizeB hs, run_scal ha, h1, h2]
  all_goals (cases h3 : (n == q) <;> simp [h3] <;> simpa using h3)
theorem run_eq2 {t e : TypeId} (ht : P.underlying t = some (.array 2 e)) (he : P.underlying e = some (.int .i64)) (hs : sizeB P e 1 = true) (ha : scalB P e = true) (m n p q : Int) (w : World) :
    (Op.equalIn 10000 t (.agg #[.int .i64 m, .int .i64 n]) (.agg #[.int .i64 p, .int .i64 q])).run P w = .ok (m == p && n == q) w := run_eq2' 9998 ht he hs ha m n p q w
theorem StepS.eq2 {x y : Operand} {t u e : TypeId} {m n p q : Int} (ht : P.underlying t = some (.array 2 e)) (he : P.underlying e = some (.int .i64)) (hs : sizeB P e 1 = true) (ha : scalB P e = true) (hg : P.eqGuardType P.depth t = false)
    (hx : opv E x = some (.agg #[I m, I n])) (hy : opv E y = some (.agg #[I p, I q])) : StepS P N B ⟨dd, .binOp .eql t x y u, ty, ps, af, gd⟩ E L (.bool (m == p && n == q)) :=
  fun a w e' _ => by simp [execOp, e'.eval hx, e'.eval hy, run_eqGuard_agg (P := P) w .eql t x y _ _ hg, run_eql_struct, run_eq2 ht he hs ha]
theorem StepS.ne2 {x y : Operand} {t u e : TypeId} {m n p q : Int} (ht : P.underlying t = some (.array 2 e)) (he : P.underlying e = some (.int .i64)) (hs : sizeB P e 1 = true) (ha : scalB P e = true) (hg : P.eqGuardType P.depth t = false)
    (hx : opv E x = some (.agg #[I m, I n])) (hy : opv E y = some (.agg #[I p, I q])) : StepS P N B ⟨dd, .binOp .neq t x y u, ty, ps, af, gd⟩ E L (.bool (!(m == p && n == q))) :=
  fun a w e' _ => by simp [execOp, e'.eval hx, e'.eval hy, run_eqGuard_agg (P := P) w .neq t x y _ _ hg, run_neq_struct, run_eq2 ht he hs ha]
end
end Go.Bk
