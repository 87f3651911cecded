/-
  Pure models of Go functions, written by a program (gen.py).
-/
import Derived.Test.YtadfgohglcglcaaDoorBk38
namespace Go.Proofs.YtadfgohglcglcaaDoor
open Go Go.Bk
set_option linter.unusedVariables false

/-- the model of internal/stringslite.HasPrefix -/
noncomputable def F56 (a0 : ByteArray) (a1 : ByteArray) : Option (Bool) :=
  Option.bind (cond ((decide ((a0.size : Int) ≥ (a1.size : Int)))) (Option.bind (sslc a0 0 (a1.size : Int)) fun x4 =>
  some (sEq x4 a1)) (some false)) fun b2 =>
  some b2

/-- the model of internal/stringslite.CutPrefix -/
noncomputable def F50 (a0 : ByteArray) (a1 : ByteArray) : Option (ByteArray × Bool) :=
  Option.bind (F56 a0 a1) fun r1 =>
  cond ((!r1))
  (some (a0, false))
  (Option.bind (sslc a0 (a1.size : Int) (a0.size : Int)) fun x4 =>
  some (x4, true))

/-- the model of strings.CutPrefix -/
noncomputable def F44 (a0 : ByteArray) (a1 : ByteArray) : Option (ByteArray × Bool) :=
  Option.bind (F50 a0 a1) fun (r1, r2) =>
  some (r1, r2)

/-- the model of beaconry/tree.name$1 -/
noncomputable def F47 (a0 : Int) : Option (Bool) :=
  some ((decide (a0 < 97)) || (decide (a0 > 122)))
end Go.Proofs.YtadfgohglcglcaaDoor
