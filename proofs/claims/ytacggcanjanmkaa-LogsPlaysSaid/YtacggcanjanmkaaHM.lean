/-
  Pure models of Go functions, written by a program (gen.py).
-/
import Derived.Test.YtacggcanjanmkaaBk35
import Derived.Test.YtacggcanjanmkaaAM
import Derived.Test.YtacggcanjanmkaaBM
import Derived.Test.YtacggcanjanmkaaCM
import Derived.Test.YtacggcanjanmkaaDM
import Derived.Test.YtacggcanjanmkaaEM
import Derived.Test.YtacggcanjanmkaaFM
namespace Go.Proofs.Ytacggcanjanmkaa
open Go Go.Bk
set_option linter.unusedVariables false

noncomputable def F3_L0 (r1 : (List Int) × (List Int) × (List Int) × (List (List (Int × Int))) × List Int) (y36 : List (List (Int × Int))) : Int → Option (Ctl (Int) (Unit) (Bool)) := fun x82 =>
  cond ((decide (x82 < (r1.2.2.2.1.length : Int))))
  (Option.bind (idx r1.2.2.2.1 x82) fun (x88 : List (Int × Int)) =>
  Option.bind (idx y36 x82) fun (x91 : List (Int × Int)) =>
  Option.bind (F9 x88 x91) fun r94 =>
  cond ((!r94))
  (some (.ret false))
  (some (.nxt (w64 (x82 + 1)))))
  (some (.brk ()))
/-- the model of beaconry/beaconrylaw.LogsPlays -/
noncomputable def F3 (a0 : Int) (a1 : List (Int × Int × Int × Int)) : Option (Bool) :=
  Option.bind (F4 a0 a1) fun (r1, r2) =>
  Option.bind (F5 a0 (a1.length : Int)) fun r21 =>
  Option.bind (α := (List Int) × (List Int) × (List Int) × (List (List (Int × Int))) × (List Int)) (cond ((r21 == 0))
  (Option.bind (F6 a0 a1) fun r42 =>
  some (r42.1, r42.2.1, r42.2.2.1, r42.2.2.2.1, r42.2.2.2.2))
  (some ([], [], [], [], [])))
  fun (y26, y29, y32, y36, y39) =>
  Option.bind (cond ((r2 != r21)) (some true) (Option.bind (F7 r1.1 y26) fun r63 =>
  some (!r63))) fun b61 =>
  Option.bind (cond (b61) (some true) (Option.bind (F8 r1.2.1 y29) fun r68 =>
  some (!r68))) fun b66 =>
  Option.bind (cond (b66) (some true) (Option.bind (F8 r1.2.2.1 y32) fun r73 =>
  some (!r73))) fun b71 =>
  Option.bind (cond (b71) (some true) (Option.bind (F8 r1.2.2.2.2 y39) fun r78 =>
  some (!r78))) fun b76 =>
  cond ((b76 || ((r1.2.2.2.1.length : Int) != (y36.length : Int))))
  (some false)
  (Option.bind (whileM (F3_L0 r1 y36) 0) fun o84 => Ctl.on o84 (fun _ =>
  some true) (fun r => some r))
end Go.Proofs.Ytacggcanjanmkaa
