/-
  The table of how many bits a byte has. Nothing of any program stands here.
-/
import Derived.Test.YtgofkfhkolkfmaaBk17
namespace Go.Bk
open Go
set_option linter.unusedVariables false
set_option linter.unusedSimpArgs false
/-- How many bits of a byte are set. -/
def popB (n : Nat) : Int := (((List.range 8).countP fun i => n.testBit i : Nat) : Int)
def tb (i : Int) : Option Int := if 0 ≤ i ∧ i < 256 then some (popB i.toNat) else none
def tabOk (s : ByteArray) : Bool := Nat.beq s.size 256 && (List.range 256).all fun n => match s[n]? with | some b => decide ((b.toNat : Int) = popB n) | none => false
def w8 (n : Int) : Int := IntKind.u8.wrap n
section
variable {P : Program} {N : Nat} {B : World} {E : Env} {L : List HP}
variable {dd : Option Tmp} {ty : TypeId} {ps : String} {af : Array Edge} {gd : Option (Nat × Bool)}

theorem StepS.idxTab {t : TypeId} {s : ByteArray} {y : Operand} {k : IntKind} {i r : Int} (hy : opv E y = some (.int k i)) (ht : P.underlying t = some .string) (hs : tabOk s = true) (hr : tb i = some r) :
    StepS P N B ⟨dd, .index t (.const (.string s)) y, ty, ps, af, gd⟩ E L (.int .u8 r) := by
  intro a w e st
  unfold tb at hr
  split at hr
  · rename_i c
    obtain rfl := Option.some.inj hr
    unfold tabOk at hs
    rw [Bool.and_eq_true] at hs
    have h1 := List.all_eq_true.1 hs.2 i.toNat (by simp; omega)
    have hx : a.eval (.const (.string s)) = .string s := rfl
    cases hb : s[i.toNat]? with
    | none => rw [hb] at h1; cases h1
    | some b =>
      rw [hb] at h1
      have h2 : (b.toNat : Int) = popB i.toNat := of_decide_eq_true h1
      simp [execOp, hx, e.eval hy, Instr.index, asIntOf, run_underlying ht, c.1, hb, h2]
  · cases hr
theorem StepS.addB {x y : Operand} {t u : TypeId} {m n : Int} (hx : opv E x = some (.int .u8 m)) (hy : opv E y = some (.int .u8 n)) :
    StepS P N B ⟨dd, .binOp .add t x y u, ty, ps, af, gd⟩ E L (.int .u8 (w8 (m + n))) := by
  intro a w e st
  simp [execOp, e.eval hx, e.eval hy, eqGuard, binOp, Op.intArith, w8]
theorem StepS.cvB {src dst : TypeId} {x : Operand} {n : Int} (h1 : intB P src .u8 = true) (h2 : intB P dst .i64 = true) (hx : opv E x = some (.int .u8 n)) : StepS P N B ⟨dd, .convert src dst x, ty, ps, af, gd⟩ E L (I (w64 n)) :=
  fun a w e _ => by simp [execOp, e.eval hx, run_cv h1 h2, w64]
end
end Go.Bk
