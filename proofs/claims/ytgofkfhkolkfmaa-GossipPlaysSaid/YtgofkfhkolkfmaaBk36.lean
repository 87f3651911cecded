/-
  Strings: comparison, length, letters, parts; keys that bear strings. Nothing of any program stands here.
-/
import Derived.Test.YtgofkfhkolkfmaaBk35
namespace Go.Bk
open Go
set_option linter.unusedVariables false
set_option linter.unusedSimpArgs false

def sEq (x y : ByteArray) : Bool := x.toList == y.toList
def sLt (x y : ByteArray) : Bool := Op.bytesLess x.toList y.toList
def cmpS : BinOp → ByteArray → ByteArray → Option Bool
  | .eql, a, b => some (sEq a b)
  | .neq, a, b => some (!sEq a b)
  | .lss, a, b => some (sLt a b)
  | .gtr, a, b => some (!(sLt a b || sEq a b))
  | _, _, _ => none
/-- A letter: none stands for a panic. -/
def sidx (s : ByteArray) (i : Int) : Option Int := if 0 ≤ i then (s[i.toNat]?).map fun b => (b.toNat : Int) else none
/-- A part. -/
def sslc (s : ByteArray) (l h : Int) : Option ByteArray := if 0 ≤ l ∧ l ≤ h ∧ h ≤ (s.size : Int) then some (s.extract l.toNat h.toNat) else none
theorem sslc_spec {s r : ByteArray} {l h : Int} (e : sslc s l h = some r) : 0 ≤ l ∧ l ≤ h ∧ h ≤ (s.size : Int) ∧ r = s.extract l.toNat h.toNat := by
  unfold sslc at e; split at e
  · rename_i c; exact ⟨c.1, c.2.1, c.2.2, (Option.some.inj e).symm⟩
  · cases e
section
variable {P : Program} {N : Nat} {B : World} {E : Env} {L : List HP} {ops : Array Oper} {rest : List Oper} {Q : Act → World → Prop}
variable {d : Nat} {dd : Option Tmp} {ty : TypeId} {ps : String} {af : Array Edge} {gd : Option (Nat × Bool)}
theorem StepS.cmpS {op : BinOp} {x y : Operand} {t u : TypeId} {m n : ByteArray} {r : Bool} (ht : P.underlying t = some .string) (hx : opv E x = some (.string m)) (hy : opv E y = some (.string n)) (hr : Go.Bk.cmpS op m n = some r) :
    StepS P N B ⟨dd, .binOp op t x y u, ty, ps, af, gd⟩ E L (.bool r) :=
  fun a w e _ => by
    cases op <;> simp only [Go.Bk.cmpS, Option.some.injEq, reduceCtorEq] at hr <;> subst hr <;> simp [execOp, e.eval hx, e.eval hy, eqGuard, binOp, Op.stringOp, sEq, sLt, run_underlying ht]
theorem StepS.lenS {t : Nat} {x : Operand} {s : ByteArray} (ht : P.underlying t = some .string) (hx : opv E x = some (.string s)) {ts : Array TypeId} (hts : ts = #[t]) :
    StepS P N B ⟨dd, .call ⟨.builtin .len, #[x], ts⟩, ty, ps, af, gd⟩ E L (.int .i64 (s.size : Int)) := by
  subst hts
  intro a w en' _
  simp [execOp, resolve, invoke, builtin, en'.eval hx, Builtin.len_, run_underlying ht, goInt]
theorem StepS.idxS {t : Nat} {x y : Operand} {s : ByteArray} {k : IntKind} {i r : Int} (ht : P.underlying t = some .string) (hx : opv E x = some (.string s)) (hy : opv E y = some (.int k i)) (hr : sidx s i = some r) :
    StepS P N B ⟨dd, .index t x y, ty, ps, af, gd⟩ E L (.int .u8 r) := by
  intro a w en' _
  unfold sidx at hr
  split at hr
  · rename_i h0
    cases hs : s[i.toNat]? with
    | none => rw [hs] at hr; cases hr
    | some b =>
      rw [hs] at hr
      obtain rfl := Option.some.inj hr
      simp [execOp, en'.eval hx, en'.eval hy, Instr.index, asIntOf, run_underlying ht, h0, hs]
  · cases hr
theorem StepS.slcS {t : Nat} {x : Operand} {lo hi : Option Operand} {s r : ByteArray} {l h : Int} (ht : P.underlying t = some .string) (hx : opv E x = some (.string s)) (hl : bnd E lo 0 = some l) (hh : bnd E hi (s.size : Int) = some h)
    (hr : sslc s l h = some r) : StepS P N B ⟨dd, .slice t x lo hi none, ty, ps, af, gd⟩ E L (.string r) := by
  intro a w en' _
  obtain ⟨h0, h1, h2, rfl⟩ := sslc_spec hr
  have hb : (Instr.sliceBounds false s.size s.size (lo.map a.eval) (hi.map a.eval) none).run P w = .ok (l.toNat, h.toNat, s.size) w := by
    have bl : ∀ (k : IntKind) (c : BoundsCode), (Instr.sliceBound (.int k l) h.toNat c).run P w = .ok l.toNat w := fun k c => run_bound (v := .nilFunc) h0 (by omega) c w
    have bh : ∀ (k : IntKind) (c : BoundsCode), (Instr.sliceBound (.int k h) s.size c).run P w = .ok h.toNat w := fun k c => run_bound (v := .nilFunc) (by omega) (by omega) c w
    cases hi with
    | none =>
      have hh' : h.toNat = s.size := by simp [bnd] at hh; omega
      rw [hh'] at bl ⊢
      cases lo with
      | none => have : l = 0 := by simp [bnd] at hl; omega
                subst this; simp [Instr.sliceBounds]
      | some y => obtain ⟨k, hk⟩ := bnd_some en' hl; simp [Instr.sliceBounds, hk, bl]
    | some z =>
      obtain ⟨kh, hkh⟩ := bnd_some en' hh
      cases lo with
      | none => have : l = 0 := by simp [bnd] at hl; omega
                subst this; simp [Instr.sliceBounds, hkh, bh]
      | some y => obtain ⟨k, hk⟩ := bnd_some en' hl; simp [Instr.sliceBounds, hk, hkh, bl, bh]
  simp [execOp, en'.eval hx, Instr.sliceAt, Instr.slice, run_underlying ht, hb]
end
end Go.Bk
