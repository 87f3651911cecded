/-
  Rules for the operations that only compute or read: numbers, bools, words of 32 bits, tuples, boxes, slices that are read. Nothing of any program stands here.
-/
import Derived.Test.YtgofkfhkolkfmaaBk2
namespace Go.Bk
open Go
set_option linter.unusedVariables false
set_option linter.unusedSimpArgs false

/-! Numbers as the models have them. -/
/-- int: what does not fit is cut. -/
def w64 (n : Int) : Int := IntKind.i64.wrap n
def u64 (n : Int) : Int := IntKind.u64.wrap n
theorem w64_of {n : Int} (h0 : -9223372036854775808 ≤ n) (h1 : n ≤ 9223372036854775807) : w64 n = n := by
  have h2 : n % 18446744073709551616 = n ∨ n % 18446744073709551616 = n + 18446744073709551616 := by omega
  have e : w64 n = if n % 18446744073709551616 ≥ 9223372036854775808 then n % 18446744073709551616 - 18446744073709551616 else n % 18446744073709551616 := by
    simp [w64, IntKind.wrap, IntKind.bits, IntKind.signed]
  rw [e]
  split <;> omega
theorem u64_of {n : Int} (h0 : 0 ≤ n) (h1 : n ≤ 18446744073709551615) : u64 n = n := by
  simp [u64, IntKind.wrap, IntKind.bits, IntKind.signed]; omega
theorem u64_nonneg (n : Int) : 0 ≤ u64 n := by
  simp [u64, IntKind.wrap, IntKind.bits, IntKind.signed]; omega
/-- uint32 -/
@[reducible] def U (x : BitVec 32) : Value := .int .u32 (x.toNat : Int)
@[reducible] def I (n : Int) : Value := .int .i64 n

theorem wrap_u32 (m : Int) : IntKind.u32.wrap m = ((BitVec.ofInt 32 m).toNat : Int) := by
  simp [IntKind.wrap, IntKind.bits, IntKind.signed, BitVec.toNat_ofInt]; omega
theorem ofInt_toNat (x : BitVec 32) : BitVec.ofInt 32 (x.toNat : Int) = x := by
  apply BitVec.eq_of_toNat_eq; simp

/-! What stands behind a test that may fail. -/
theorem bind_some {α β : Type} {x : Option α} {f : α → Option β} {r : β} (h : x.bind f = some r) : ∃ a, x = some a ∧ f a = some r := by
  cases x with
  | none => cases h
  | some a => exact ⟨a, rfl, h⟩
/-- The element at an index, as Go has it: none stands for a panic. -/
def idx {α : Type} (l : List α) (i : Int) : Option α := if 0 ≤ i then l[i.toNat]? else none
theorem idx_spec {α : Type} {l : List α} {i : Int} {x : α} (h : idx l i = some x) : 0 ≤ i ∧ l[i.toNat]? = some x := by
  unfold idx at h; split at h
  · exact ⟨‹_›, h⟩
  · cases h
theorem idx_lt {α : Type} {l : List α} {i : Int} {x : α} (h : idx l i = some x) : i < l.length := by
  obtain ⟨h0, h⟩ := idx_spec h
  have := (List.getElem?_eq_some_iff.1 h).1
  omega
theorem idx_nat {α : Type} (l : List α) (k : Nat) : idx l (k : Int) = l[k]? := by simp [idx]
def setI {α : Type} (l : List α) (i : Int) (x : α) : Option (List α) := if 0 ≤ i ∧ i < l.length then some (l.set i.toNat x) else none
theorem setI_spec {α : Type} {l l' : List α} {i : Int} {x : α} (h : setI l i x = some l') : 0 ≤ i ∧ i < l.length ∧ l' = l.set i.toNat x := by
  unfold setI at h; split at h
  · rename_i hc; exact ⟨hc.1, hc.2, (Option.some.inj h).symm⟩
  · cases h
/-- A shift count: none stands for a panic. -/
def shc (n : Int) : Option Nat := if 0 ≤ n then some n.toNat else none
theorem shc_spec {n : Int} {k : Nat} (h : shc n = some k) : 0 ≤ n ∧ k = n.toNat := by
  unfold shc at h; split at h
  · exact ⟨‹_›, (Option.some.inj h).symm⟩
  · cases h

section
variable {P : Program} {N : Nat} {B : World} {E : Env} {L : List HP}
theorem StepS.mk {o : Oper} {v : Value} (h : ∀ a w, EnvOk N E a → St B L w → (execOp a.eval o).run P w = .ok (.value v) w) : StepS P N B o E L v := h

variable {d : Option Tmp} {ty : TypeId} {ps : String} {af : Array Edge} {gd : Option (Nat × Bool)}

theorem StepS.move {x : Operand} {v : Value} (h : opv E x = some v) : StepS P N B ⟨d, .move x, ty, ps, af, gd⟩ E L v :=
  fun a w e _ => by simp [execOp, e.eval h]
theorem StepS.assign {x : Operand} {v : Value} (h : opv E x = some v) : StepS P N B ⟨d, .assign x, ty, ps, af, gd⟩ E L v :=
  fun a w e _ => by simp [execOp, e.eval h]
theorem StepS.pickT {c x y : Operand} {b : Bool} {v : Value} (hc : opv E c = some (.bool b)) (hb : b = true) (h : opv E x = some v) : StepS P N B ⟨d, .pick c x y, ty, ps, af, gd⟩ E L v :=
  fun a w e _ => by subst hb; simp [execOp, e.eval h, e.eval hc, asBool]
theorem StepS.pickF {c x y : Operand} {b : Bool} {v : Value} (hc : opv E c = some (.bool b)) (hb : b = false) (h : opv E y = some v) : StepS P N B ⟨d, .pick c x y, ty, ps, af, gd⟩ E L v :=
  fun a w e _ => by subst hb; simp [execOp, e.eval h, e.eval hc, asBool]
theorem StepS.not {x : Operand} {t : TypeId} {b : Bool} (h : opv E x = some (.bool b)) : StepS P N B ⟨d, .unOp .not t x, ty, ps, af, gd⟩ E L (.bool (!b)) :=
  fun a w e _ => by simp [execOp, e.eval h, Op.unary]
theorem StepS.neg {x : Operand} {t : TypeId} {k : IntKind} {n : Int} (h : opv E x = some (.int k n)) : StepS P N B ⟨d, .unOp .neg t x, ty, ps, af, gd⟩ E L (.int k (k.wrap (0 - n))) :=
  fun a w e _ => by simp [execOp, e.eval h, Op.unary, Op.intArith]
theorem StepS.extract {x : Operand} {i : Nat} {vs : Array Value} {v : Value} (h : opv E x = some (.tuple vs)) (hv : vs[i]? = some v) : StepS P N B ⟨d, .extract x i, ty, ps, af, gd⟩ E L v :=
  fun a w e _ => by simp [execOp, e.eval h, Instr.extract, hv]

/-- A comparison, a sum, a difference, a product of two integers of one kind. -/
def cmpI : BinOp → Int → Int → Option Bool
  | .eql, a, b => some (a == b)
  | .neq, a, b => some (a != b)
  | .lss, a, b => some (decide (a < b))
  | .leq, a, b => some (decide (a ≤ b))
  | .gtr, a, b => some (decide (a > b))
  | .geq, a, b => some (decide (a ≥ b))
  | _, _, _ => none
theorem StepS.cmp {op : BinOp} {x y : Operand} {t u : TypeId} {k : IntKind} {m n : Int} {r : Bool} (hx : opv E x = some (.int k m)) (hy : opv E y = some (.int k n)) (hr : cmpI op m n = some r) :
    StepS P N B ⟨d, .binOp op t x y u, ty, ps, af, gd⟩ E L (.bool r) :=
  fun a w e _ => by
    cases op <;> simp only [cmpI, Option.some.injEq, reduceCtorEq] at hr <;> subst hr <;> simp [execOp, e.eval hx, e.eval hy, eqGuard, binOp, Op.intCmp]
def ariI : BinOp → Int → Int → Option Int
  | .add, a, b => some (a + b)
  | .sub, a, b => some (a - b)
  | .mul, a, b => some (a * b)
  | _, _, _ => none
theorem StepS.ari {op : BinOp} {x y : Operand} {t u : TypeId} {m n r : Int} (hx : opv E x = some (.int .i64 m)) (hy : opv E y = some (.int .i64 n)) (hr : ariI op m n = some r) :
    StepS P N B ⟨d, .binOp op t x y u, ty, ps, af, gd⟩ E L (.int .i64 (w64 r)) :=
  fun a w e _ => by
    cases op <;> simp only [ariI, Option.some.injEq, reduceCtorEq] at hr <;> subst hr <;> simp [execOp, e.eval hx, e.eval hy, eqGuard, binOp, Op.intArith, w64]
/-- The rest of a division: of a number that is not 0. -/
theorem StepS.rem {x y : Operand} {t u : TypeId} {m n : Int} (hx : opv E x = some (.int .i64 m)) (hy : opv E y = some (.int .i64 n)) (hn : n ≠ 0) :
    StepS P N B ⟨d, .binOp .rem t x y u, ty, ps, af, gd⟩ E L (.int .i64 (m.tmod n)) :=
  fun a w e _ => by simp [execOp, e.eval hx, e.eval hy, eqGuard, binOp, Op.intDiv, hn]
theorem StepS.quo {x y : Operand} {t u : TypeId} {m n : Int} (hx : opv E x = some (.int .i64 m)) (hy : opv E y = some (.int .i64 n)) (hn : n ≠ 0) :
    StepS P N B ⟨d, .binOp .quo t x y u, ty, ps, af, gd⟩ E L (.int .i64 (w64 (m.tdiv n))) :=
  fun a w e _ => by simp [execOp, e.eval hx, e.eval hy, eqGuard, binOp, Op.intDiv, hn, w64]
theorem StepS.eqB {x y : Operand} {t u : TypeId} {m n : Bool} (ht : P.underlying t = some .bool) (hx : opv E x = some (.bool m)) (hy : opv E y = some (.bool n)) :
    StepS P N B ⟨d, .binOp .eql t x y u, ty, ps, af, gd⟩ E L (.bool (m == n)) :=
  fun a w e _ => by simp [execOp, e.eval hx, e.eval hy, eqGuard, run_eql_bool w t m n ht]
theorem StepS.neB {x y : Operand} {t u : TypeId} {m n : Bool} (ht : P.underlying t = some .bool) (hx : opv E x = some (.bool m)) (hy : opv E y = some (.bool n)) :
    StepS P N B ⟨d, .binOp .neq t x y u, ty, ps, af, gd⟩ E L (.bool (m != n)) :=
  fun a w e _ => by simp [execOp, e.eval hx, e.eval hy, eqGuard, run_neq_bool w t m n ht, bne]

/-! Words of 32 bits. -/
def cmpU : BinOp → BitVec 32 → BitVec 32 → Option Bool
  | .eql, a, b => some (a == b)
  | .neq, a, b => some (a != b)
  | .lss, a, b => some (decide (a < b))
  | .leq, a, b => some (decide (a ≤ b))
  | .gtr, a, b => some (decide (b < a))
  | .geq, a, b => some (decide (b ≤ a))
  | _, _, _ => none
theorem StepS.cmpU {op : BinOp} {x y : Operand} {t u : TypeId} {m n : BitVec 32} {r : Bool} (hx : opv E x = some (U m)) (hy : opv E y = some (U n)) (hr : Bk.cmpU op m n = some r) :
    StepS P N B ⟨d, .binOp op t x y u, ty, ps, af, gd⟩ E L (.bool r) := by
  refine StepS.cmp hx hy ?_
  have inj : (m == n) = ((m.toNat : Int) == (n.toNat : Int)) := by
    rw [Bool.eq_iff_iff]; simp; rw [← BitVec.toNat_inj]; omega
  have inj2 : (m != n) = ((m.toNat : Int) != (n.toNat : Int)) := by
    rw [Bool.eq_iff_iff]; simp; rw [← BitVec.toNat_inj]; omega
  cases op <;> simp only [Bk.cmpU, Option.some.injEq, reduceCtorEq] at hr <;> subst hr <;> simp [cmpI, inj, inj2, BitVec.lt_def, BitVec.le_def]
def bitU : BinOp → BitVec 32 → BitVec 32 → Option (BitVec 32)
  | .and, a, b => some (a &&& b)
  | .or, a, b => some (a ||| b)
  | .xor, a, b => some (a ^^^ b)
  | .andNot, a, b => some (a &&& ~~~b)
  | .add, a, b => some (a + b)
  | .sub, a, b => some (a - b)
  | .mul, a, b => some (a * b)
  | _, _, _ => none
theorem StepS.bitU {op : BinOp} {x y : Operand} {t u : TypeId} {m n r : BitVec 32} (hx : opv E x = some (U m)) (hy : opv E y = some (U n)) (hr : Bk.bitU op m n = some r) :
    StepS P N B ⟨d, .binOp op t x y u, ty, ps, af, gd⟩ E L (U r) := by
  intro a w e _
  have back : ∀ z : BitVec 32, IntKind.u32.wrap (z.toNat : Int) = (z.toNat : Int) := fun z => by rw [wrap_u32, ofInt_toNat]
  have ar : ∀ (k : Int) (z : BitVec 32), BitVec.ofInt 32 k = z → IntKind.u32.wrap k = (z.toNat : Int) := fun k z h => by rw [wrap_u32, h]
  have e1 : BitVec.ofInt IntKind.u32.bits (m.toNat : Int) = m := ofInt_toNat m
  have e2 : BitVec.ofInt IntKind.u32.bits (n.toNat : Int) = n := ofInt_toNat n
  cases op <;> simp only [Bk.bitU, Option.some.injEq, reduceCtorEq] at hr <;> subst hr
  case add => simp [execOp, e.eval hx, e.eval hy, eqGuard, binOp, Op.intArith]; exact ar ((m.toNat : Int) + n.toNat) (m + n) (by rw [BitVec.ofInt_add, ofInt_toNat, ofInt_toNat])
  case sub =>
    simp [execOp, e.eval hx, e.eval hy, eqGuard, binOp, Op.intArith]
    exact ar ((m.toNat : Int) - n.toNat) (m - n) (by rw [Int.sub_eq_add_neg, BitVec.ofInt_add, BitVec.ofInt_neg, ofInt_toNat, ofInt_toNat, BitVec.sub_eq_add_neg])
  case mul => simp [execOp, e.eval hx, e.eval hy, eqGuard, binOp, Op.intArith]; exact ar ((m.toNat : Int) * n.toNat) (m * n) (by rw [BitVec.ofInt_mul, ofInt_toNat, ofInt_toNat])
  all_goals
    have hk : ∀ z : BitVec 32, (pure (.int .u32 (IntKind.u32.wrap (z.toNat : Int))) : Sem Value) = pure (U z) := fun z => by rw [back]
    simp only [execOp, e.eval hx, e.eval hy, eqGuard, binOp, Op.intBits, e1, e2]
    simp only [IntKind.bits] at *
    simp only [hk]
    simp [-BitVec.toNat_and, -BitVec.toNat_or, -BitVec.toNat_xor, -BitVec.toNat_not]
    try rfl
theorem StepS.shl {x y : Operand} {t u : TypeId} {k : IntKind} {m : BitVec 32} {n : Int} (hx : opv E x = some (U m)) (hy : opv E y = some (.int k n)) (hn : 0 ≤ n) :
    StepS P N B ⟨d, .binOp .shl t x y u, ty, ps, af, gd⟩ E L (U (m <<< n.toNat)) := by
  intro a w e _
  have h : ¬ n < 0 := by omega
  have key : IntKind.u32.wrap ((m.toNat : Int) * 2 ^ min n.toNat IntKind.u32.bits) = ((m <<< n.toNat).toNat : Int) := by
    rw [wrap_u32]
    congr 1
    rw [BitVec.toNat_ofInt, BitVec.toNat_shiftLeft, Nat.shiftLeft_eq]
    have e1 : ((m.toNat : Int) * 2 ^ min n.toNat IntKind.u32.bits) = ((m.toNat * 2 ^ min n.toNat 32 : Nat) : Int) := by
      push_cast; rfl
    rw [e1]
    have e2 : (((m.toNat * 2 ^ min n.toNat 32 : Nat) : Int) % ((2 ^ 32 : Nat) : Int)).toNat = (m.toNat * 2 ^ min n.toNat 32) % 2 ^ 32 := by
      rw [← Int.natCast_emod]; rfl
    rw [e2]
    rcases Nat.le_total n.toNat 32 with q | q
    · rw [Nat.min_eq_left q]
    · rw [Nat.min_eq_right q]
      obtain ⟨j, hj⟩ := Nat.exists_eq_add_of_le q
      rw [hj, Nat.pow_add, ← Nat.mul_assoc, Nat.mul_right_comm, Nat.mul_mod_left, Nat.mul_mod_left]
  simp only [execOp, e.eval hx, e.eval hy, eqGuard, binOp, Op.shift, if_neg h]
  simp [key]
theorem StepS.shr {x y : Operand} {t u : TypeId} {k : IntKind} {m : BitVec 32} {n : Int} (hx : opv E x = some (U m)) (hy : opv E y = some (.int k n)) (hn : 0 ≤ n) :
    StepS P N B ⟨d, .binOp .shr t x y u, ty, ps, af, gd⟩ E L (U (m >>> n.toNat)) := by
  intro a w e _
  have h : ¬ n < 0 := by omega
  have key : (m.toNat : Int).fdiv (2 ^ min n.toNat IntKind.u32.bits) = ((m >>> n.toNat).toNat : Int) := by
    rw [BitVec.toNat_ushiftRight, Nat.shiftRight_eq_div_pow]
    have e1 : (2 : Int) ^ min n.toNat IntKind.u32.bits = ((2 ^ min n.toNat 32 : Nat) : Int) := by push_cast; rfl
    rw [e1, Int.fdiv_eq_ediv_of_nonneg _ (Int.natCast_nonneg _), ← Int.natCast_ediv]
    congr 1
    rcases Nat.le_total n.toNat 32 with q | q
    · rw [Nat.min_eq_left q]
    · rw [Nat.min_eq_right q]
      have hm := m.isLt
      rw [Nat.div_eq_of_lt hm, Nat.div_eq_of_lt]
      exact Nat.lt_of_lt_of_le hm (Nat.pow_le_pow_right (by decide) q)
  simp only [execOp, e.eval hx, e.eval hy, eqGuard, binOp, Op.shift, if_neg h]
  simp [key]
end
end Go.Bk
