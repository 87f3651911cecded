/-
  The model of tree.name, by hand.
-/
import Derived.Test.YtadfgohglcglcaaDoorSM
import Derived.Shelf.Strings.FuncGrows
namespace Go.Proofs.YtadfgohglcglcaaDoor
open Go Go.Bk
/-- What a part is to be. -/
def goodP (p : ByteArray) : Bool := !(sEq p (ByteArray.mk #[]) || decide (0 ≤ Lib.idxFunc (fun x => decide ((x : Int) < 97) || decide ((x : Int) > 122)) true p))
def cutAt (s : ByteArray) : Int := Lib.indexByte s.data.toList 47
/-- All parts between strokes. -/
def allG : Nat → ByteArray → Bool
  | 0, s => goodP s
  | n + 1, s => cond (decide (cutAt s < 0)) (goodP s) (goodP (s.extract 0 (cutAt s).toNat) && allG n (s.extract ((cutAt s).toNat + 1) s.size))
/-- the model of beaconry/tree.name -/
noncomputable def F35 (a0 : ByteArray) : Option (Bool) :=
  cond (sEq a0 (ByteArray.mk #[47])) (some true) (Option.bind (F44 a0 (ByteArray.mk #[47])) fun (r3, r4) =>
  cond (!r4) (some false) (if r3.size ≤ 9223372036854775807 then some (allG r3.size r3) else none))
end Go.Proofs.YtadfgohglcglcaaDoor
