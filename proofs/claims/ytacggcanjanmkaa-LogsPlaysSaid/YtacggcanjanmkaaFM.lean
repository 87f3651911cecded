/-
  Pure models of Go functions, written by a program (gen.py).
-/
import Derived.Test.YtacggcanjanmkaaBk35
import Derived.Test.YtacggcanjanmkaaBk44
import Derived.Test.YtacggcanjanmkaaAM
import Derived.Test.YtacggcanjanmkaaBM
import Derived.Test.YtacggcanjanmkaaCM
import Derived.Test.YtacggcanjanmkaaDM
import Derived.Test.YtacggcanjanmkaaEM
namespace Go.Proofs.Ytacggcanjanmkaa
open Go Go.Bk
set_option linter.unusedVariables false
@[reducible] def upT61 (x : Int × Int × Int × (List Int) × (List (Int × Int)) × Int × (List Int) × List Int) : Int × Int × Int × (List Int) × (Option (List (Int × Int))) × Int × (List Int) × List Int := (x.1, x.2.1, x.2.2.1, x.2.2.2.1, some x.2.2.2.2.1, x.2.2.2.2.2.1, x.2.2.2.2.2.2.1, x.2.2.2.2.2.2.2)
@[reducible] def nT61m : NT (Int × Int × Int × (List Int) × (Option (List (Int × Int))) × Int × (List Int) × List Int) := ⟨fun x c => [I x.1, I x.2.1, I x.2.2.1, cv c 0, cv c 1, I x.2.2.2.2.2.1, cv c 2, cv c 3], fun x c => [OwnS 3 1 (cv c 0) (x.2.2.2.1.map cI), OwnM 52 2 (cv c 1) cTii x.2.2.2.2.1, OwnS 3 1 (cv c 2) (x.2.2.2.2.2.2.1.map cI), OwnS 3 1 (cv c 3) (x.2.2.2.2.2.2.2.map cI)]⟩
noncomputable def F6_L1 (y40 : List (Int × Int × Int × (List Int) × (List (Int × Int)) × Int × (List Int) × List Int)) : ((List Int) × (List Int) × (List (List (Int × Int))) × (List Int) × (List (Int × Int × Int × (List Int) × (Option (List (Int × Int))) × Int × (List Int) × List Int)) × Int) → Option (Ctl ((List Int) × (List Int) × (List (List (Int × Int))) × (List Int) × (List (Int × Int × Int × (List Int) × (Option (List (Int × Int))) × Int × (List Int) × List Int)) × Int) ((List Int) × (List Int) × (List (List (Int × Int))) × (List Int) × (List (Int × Int × Int × (List Int) × (Option (List (Int × Int))) × Int × (List Int) × List Int))) (Unit)) := fun (y52, y55, y59, y62, y63, x64) =>
  cond ((decide (x64 < (y40.length : Int))))
  (Option.bind (idx y63 x64) fun (x98 : Int × Int × Int × (List Int) × (Option (List (Int × Int))) × Int × (List Int) × List Int) =>
  Option.bind x98.2.2.2.2.1 fun (l100 : List (Int × Int)) =>
  Option.bind (appl 8 y52 ([x98.1] : List Int)) fun (y109 : List Int) =>
  Option.bind (appl 8 y55 ([x98.2.1] : List Int)) fun (y115 : List Int) =>
  Option.bind (appl 24 y59 [l100]) fun (y123 : List (List (Int × Int))) =>
  Option.bind (appl 8 y62 ([x98.2.2.2.2.2.1] : List Int)) fun (y130 : List Int) =>
  some (.nxt (y109, y115, y123, y130, y63.set x64.toNat (x98.1, x98.2.1, x98.2.2.1, x98.2.2.2.1, none, x98.2.2.2.2.2.1, x98.2.2.2.2.2.2.1, x98.2.2.2.2.2.2.2), w64 (x64 + 1))))
  (some (.brk (y52, y55, y59, y62, y63)))
noncomputable def F6_L0 (a1 : List (Int × Int × Int × Int)) : ((List Int) × (List (Int × Int)) × (List (Int × Int × Int × (List Int) × (List (Int × Int)) × Int × (List Int) × List Int)) × Int) → Option (Ctl ((List Int) × (List (Int × Int)) × (List (Int × Int × Int × (List Int) × (List (Int × Int)) × Int × (List Int) × List Int)) × Int) ((List Int) × (List (Int × Int)) × (List (Int × Int × Int × (List Int) × (List (Int × Int)) × Int × (List Int) × List Int))) (Unit)) := fun (y18, y21, y22, x24) =>
  cond ((decide (x24 < (a1.length : Int))))
  (Option.bind (idx a1 x24) fun x46 =>
  Option.bind (F16 (y22, y21) (x46.1, x46.2.1, x46.2.2.1, x46.2.2.2) true) fun (rq49_4_1, rq49_4_2) =>
  Option.bind (appl 8 y18 ([rq49_4_1] : List Int)) fun (yq49_6_1 : List Int) =>
  some (.nxt (yq49_6_1, rq49_4_2.2, rq49_4_2.1, w64 (x24 + 1))))
  (some (.brk (y18, y21, y22)))
/-- the model of beaconry/beaconryref.Logs -/
noncomputable def F6 (a0 : Int) (a1 : List (Int × Int × Int × Int)) : Option (((List Int) × (List Int) × (List Int) × (List (List (Int × Int))) × List Int)) :=
  Option.bind (F15 a0) fun r7 =>
  Option.bind (whileM (F6_L0 a1) ([], r7.2, r7.1, 0)) fun o42 => Ctl.on o42 (fun (y36, y39, y40) =>
  Option.bind (whileM (F6_L1 y40) ([], [], [], [], (y40.map upT61), 0)) fun o94 => Ctl.on o94 (fun (y82, y85, y89, y92, y93) =>
  some (y36, y82, y85, y89, y92)) (fun _ => none)) (fun _ => none)
end Go.Proofs.Ytacggcanjanmkaa
