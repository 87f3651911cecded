/-
  Pure models of Go functions, written by a program (gen.py).
-/
import Derived.Test.YtgofkfhkolkfmaaBk35
import Derived.Test.YtgofkfhkolkfmaaBk45
import Derived.Test.YtgofkfhkolkfmaaAM
import Derived.Test.YtgofkfhkolkfmaaBM
import Derived.Test.YtgofkfhkolkfmaaCM
import Derived.Test.YtgofkfhkolkfmaaDM
namespace Go.Proofs.Ytgofkfhkolkfmaa
open Go Go.Bk
set_option linter.unusedVariables false

noncomputable def F3_L0 (r1 : (List Int) × List (List (Int × Nat))) (y22 : List (List (Int × Nat))) (y23 : List (List Int)) : Int → Option (Ctl (Int) (Unit) (Bool)) := fun x48 =>
  cond ((decide (x48 < (r1.2.length : Int))))
  (Option.bind (idx r1.2 x48) fun (x54 : List (Int × Nat)) =>
  Option.bind (idx y22 x48) fun (x57 : List (Int × Nat)) =>
  Option.bind (F8 x54 x57 y23) fun r60 =>
  cond ((!r60))
  (some (.ret false))
  (some (.nxt (w64 (x48 + 1)))))
  (some (.brk ()))
/-- the model of beaconry/beaconrylaw.GossipPlays -/
noncomputable def F3 (a0 : Int) (a1 : List (Int × Int × Int × Int)) : Option (Bool) :=
  Option.bind (F4 a0 a1 ([] : List (List Int))) fun (r1, r2, r3) =>
  Option.bind (F5 a0 (a1.length : Int)) fun r13 =>
  Option.bind (α := (List Int) × (List (List (Int × Nat))) × (List (List Int))) (cond ((r13 == 0))
  (Option.bind (zokLL (fun x : Int × Nat => x.2) (r3).length r1.2) fun _ =>
  Option.bind (F6 a0 a1 r3) fun (r29, r30) =>
  some (r29.1, r29.2, r30))
  (some ([], [], r3)))
  fun (y18, y22, y23) =>
  Option.bind (cond ((r2 != r13)) (some true) (Option.bind (F7 r1.1 y18) fun r44 =>
  some (!r44))) fun b42 =>
  cond ((b42 || ((r1.2.length : Int) != (y22.length : Int))))
  (some false)
  (Option.bind (whileM (F3_L0 r1 y22 y23) 0) fun o50 => Ctl.on o50 (fun _ =>
  some true) (fun r => some r))
end Go.Proofs.Ytgofkfhkolkfmaa
