/-
  Pure models of Go functions, written by a program (gen.py).
-/
import Derived.Test.YtgofkfhkolkfmaaBk35
import Derived.Test.YtgofkfhkolkfmaaBk45
import Derived.Test.YtgofkfhkolkfmaaBk46
import Derived.Test.YtgofkfhkolkfmaaAM
import Derived.Test.YtgofkfhkolkfmaaBM
import Derived.Test.YtgofkfhkolkfmaaCM
namespace Go.Proofs.Ytgofkfhkolkfmaa
open Go Go.Bk
set_option linter.unusedVariables false

noncomputable def F4_L2 (y36 : List (List (Int × Nat))) (y51 : List (List (Int × Nat))) (x69 : List (Int × Nat)) : ((List (Int × Nat)) × (List (List Int)) × Int) → Option (Ctl ((List (Int × Nat)) × (List (List Int)) × Int) ((List (Int × Nat)) × (List (List Int))) (Unit)) := fun (y74, y75, x76) =>
  cond ((decide (x76 < (x69.length : Int))))
  (Option.bind (idx x69 x76) fun x90 =>
  Option.bind (zget y75 x90.2) fun (lq93_4_1 : List Int) =>
  Option.bind (F10 lq93_4_1) fun rq93_5_1 =>
  Option.bind (zok (y75).length x90.2) fun _ =>
  Option.bind (zokL (fun x : Int × Nat => x.2) (y75).length y74) fun _ =>
  Option.bind (zokLL (fun x : Int × Nat => x.2) (y75).length y51) fun _ =>
  Option.bind (zokLL (fun x : Int × Nat => x.2) (y75).length y36) fun _ =>
  Option.bind (appl 32 y74 ([(x90.1, (y75).length)] : List (Int × Nat))) fun (yq93_8_1 : List (Int × Nat)) =>
  some (.nxt (yq93_8_1, (y75 ++ [rq93_5_1]), w64 (x76 + 1))))
  (some (.brk (y74, y75)))
noncomputable def F4_L1 (y36 : List (List (Int × Nat))) : ((List (List (Int × Nat))) × (List (List Int)) × Int) → Option (Ctl ((List (List (Int × Nat))) × (List (List Int)) × Int) ((List (List (Int × Nat))) × (List (List Int))) (Unit)) := fun (y51, y52, x53) =>
  cond ((decide (x53 < (y36.length : Int))))
  (Option.bind (idx y36 x53) fun (x69 : List (Int × Nat)) =>
  Option.bind (whileM (F4_L2 y36 y51 x69) ([], y52, 0)) fun o86 => Ctl.on o86 (fun (y84, y85) =>
  Option.bind (srtK (fun z => F12 z.1 z.2 y85) y84) fun y94 =>
  Option.bind (appl 24 y51 [y94]) fun (y99 : List (List (Int × Nat))) =>
  some (.nxt (y99, y85, w64 (x53 + 1)))) (fun _ => none))
  (some (.brk (y51, y52)))
noncomputable def F4_L0 (a1 : List (Int × Int × Int × Int)) : ((List Int) × (List (List (Int × Nat))) × (List Int) × (List (List Int)) × Int) → Option (Ctl ((List Int) × (List (List (Int × Nat))) × (List Int) × (List (List Int)) × Int) ((List Int) × (List (List (Int × Nat))) × (List Int) × (List (List Int))) (Unit)) := fun (y19, y20, y22, y23, x24) =>
  cond ((decide (x24 < (a1.length : Int))))
  (Option.bind (idx a1 x24) fun x44 =>
  Option.bind (F9 (y20, y22) (x44.1, x44.2.1, x44.2.2.1, x44.2.2.2) y23) fun (rq47_4_1, rq47_4_2, rq47_4_3) =>
  Option.bind (appl 8 y19 ([rq47_4_1] : List Int)) fun (yq47_6_1 : List Int) =>
  some (.nxt (yq47_6_1, rq47_4_2.1, rq47_4_2.2, rq47_4_3, w64 (x24 + 1))))
  (some (.brk (y19, y20, y22, y23)))
/-- the model of beaconry/gossip.Play -/
noncomputable def F4 (a0 : Int) (a1 : List (Int × Int × Int × Int)) (zp : List (List Int)) : Option (((List Int) × List (List (Int × Nat))) × Int × (List (List Int))) :=
  cond ((((decide (a0 < 1)) || (decide (a0 > 6))) || (decide ((a1.length : Int) > 60))))
  (some (([], []), 1, zp))
  (Option.bind (α := (List (List (Int × Nat))) × (List Int)) (Option.bind (mkl a0 24 ([] : List (Int × Nat))) fun (yq7_1_1 : List (List (Int × Nat))) =>
  Option.bind (mkl a0 8 0) fun (yq7_3_1 : List Int) =>
  some (yq7_1_1, yq7_3_1))
  fun (y11, y14) =>
  Option.bind (whileM (F4_L0 a1) ([], y11, y14, zp, 0)) fun o40 => Ctl.on o40 (fun (y35, y36, y38, y39) =>
  Option.bind (whileM (F4_L1 y36) ([], y39, 0)) fun o65 => Ctl.on o65 (fun (y63, y64) =>
  some ((y35, y63), 0, y64)) (fun _ => none)) (fun _ => none))
end Go.Proofs.Ytgofkfhkolkfmaa
