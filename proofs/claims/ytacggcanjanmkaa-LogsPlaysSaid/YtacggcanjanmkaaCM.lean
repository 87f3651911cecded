/-
  Pure models of Go functions, written by a program (gen.py).
-/
import Derived.Test.YtacggcanjanmkaaBk35
import Derived.Test.YtacggcanjanmkaaBk43
import Derived.Test.YtacggcanjanmkaaAM
import Derived.Test.YtacggcanjanmkaaBM
namespace Go.Proofs.Ytacggcanjanmkaa
open Go Go.Bk
set_option linter.unusedVariables false

noncomputable def F21_L0 (x12 : (List (Int × Int)) × Int × (List Int) × List Int) (x14 : (List (Int × Int)) × Int × (List Int) × List Int) : Int → Option (Ctl (Int) (Int) (Unit)) := fun x38 =>
  Option.bind (cond (((decide (x38 < (x12.1.length : Int))) && (decide (x38 < (x14.1.length : Int))))) (Option.bind (idx x12.1 x38) fun x48 =>
  Option.bind (idx x14.1 x38) fun x50 =>
  some ((x48.1 == x50.1) && ((x48.2 == x50.2) && true))) (some false)) fun b46 =>
  cond (b46)
  (some (.nxt (w64 (x38 + 1))))
  (some (.brk x38))
/-- the model of (*beaconry/logs.group).send -/
noncomputable def F21 (a0 : ((List (Int × Int × Int × BitVec 32)) × List (Int × Int)) × List ((List (Int × Int)) × Int × (List Int) × List Int)) (a1 : Int) (a2 : Int) : Option (Int × (((List (Int × Int × Int × BitVec 32)) × List (Int × Int)) × List ((List (Int × Int)) × Int × (List Int) × List Int))) :=
  Option.bind (F32 a0.1.1 a1 a2) fun (r7, r8) =>
  cond ((r7 != 0))
  (some (r7, ((r8, a0.1.2), a0.2)))
  (Option.bind (idx a0.2 a1) fun (x12 : (List (Int × Int)) × Int × (List Int) × List Int) =>
  Option.bind (idx a0.2 a2) fun (x14 : (List (Int × Int)) × Int × (List Int) × List Int) =>
  Option.bind (idx x12.2.2.2 a2) fun x16 =>
  Option.bind (cond ((decide (x16 > (x14.1.length : Int)))) (some true) (Option.bind (cond ((decide (x16 > 0))) (Option.bind (idx x12.1 (w64 (x16 - 1))) fun x24 =>
  Option.bind (idx x14.1 (w64 (x16 - 1))) fun x26 =>
  some (!((x24.1 == x26.1) && ((x24.2 == x26.2) && true)))) (some false)) fun b22 =>
  some b22)) fun b19 =>
  cond (b19)
  (Option.bind (idx x12.2.2.2 a2) fun x29 =>
  Option.bind (idx x12.2.2.2 a2) fun x31 =>
  Option.bind (some (a0.2.set a1.toNat (x12.1, x12.2.1, x12.2.2.1, x12.2.2.2.set a2.toNat (w64 (x29 - 1))))) fun (y36 : List ((List (Int × Int)) × Int × (List Int) × List Int)) =>
  some (3, ((r8, a0.1.2), y36)))
  (Option.bind (whileM (F21_L0 x12 x14) x16) fun o41 => Ctl.on o41 (fun x40 =>
  Option.bind (α := (List ((List (Int × Int)) × Int × (List Int) × List Int))) (cond ((decide (x40 < (x12.1.length : Int))))
  (Option.bind (α := (List ((List (Int × Int)) × Int × (List Int) × List Int))) (Option.bind (slI x14.1 0 x40) fun yq57_7_1 =>
  Option.bind (slI x12.1 x40 (x12.1.length : Int)) fun yq57_13_1 =>
  Option.bind (neI a2 a1) fun _ =>
  Option.bind (appl 16 yq57_7_1 yq57_13_1) fun (yq57_14_5 : List (Int × Int)) =>
  Option.bind (some (a0.2.set a2.toNat (yq57_14_5, x14.2.1, x14.2.2.1, x14.2.2.2))) fun (yq57_17_3 : List ((List (Int × Int)) × Int × (List Int) × List Int)) =>
  some yq57_17_3)
  fun y58 =>
  some y58)
  (some a0.2))
  fun y53 =>
  Option.bind (α := (List ((List (Int × Int)) × Int × (List Int) × List Int))) (Option.bind (idx y53 a1) fun xq61_3_1 =>
  Option.bind (idx xq61_3_1.2.2.1 a2) fun xq61_20_1 =>
  Option.bind (some (y53.set a1.toNat (xq61_3_1.1, xq61_3_1.2.1, xq61_3_1.2.2.1.set a2.toNat (xq61_3_1.1.length : Int), xq61_3_1.2.2.2))) fun (yq61_21_4 : List ((List (Int × Int)) × Int × (List Int) × List Int)) =>
  Option.bind (idx xq61_3_1.2.2.2 a2) fun xq61_22_1 =>
  Option.bind (some (yq61_21_4.set a1.toNat ((xq61_3_1.1, xq61_3_1.2.1, xq61_3_1.2.2.1.set a2.toNat (xq61_3_1.1.length : Int), xq61_3_1.2.2.2).1, (xq61_3_1.1, xq61_3_1.2.1, xq61_3_1.2.2.1.set a2.toNat (xq61_3_1.1.length : Int), xq61_3_1.2.2.2).2.1, (xq61_3_1.1, xq61_3_1.2.1, xq61_3_1.2.2.1.set a2.toNat (xq61_3_1.1.length : Int), xq61_3_1.2.2.2).2.2.1, ((xq61_3_1.1, xq61_3_1.2.1, xq61_3_1.2.2.1.set a2.toNat (xq61_3_1.1.length : Int), xq61_3_1.2.2.2).2.2.2).set a2.toNat (xq61_3_1.1.length : Int)))) fun (yq61_23_4 : List ((List (Int × Int)) × Int × (List Int) × List Int)) =>
  some yq61_23_4)
  fun y62 =>
  Option.bind (idx y62 a2) fun x64 =>
  Option.bind (idx y62 a1) fun x66 =>
  Option.bind (some (y62.set a2.toNat (x64.1, mx x64.2.1 (mn x66.2.1 (x66.1.length : Int)), x64.2.2.1, x64.2.2.2))) fun (y72 : List ((List (Int × Int)) × Int × (List Int) × List Int)) =>
  some (0, ((r8, a0.1.2), y72))) (fun _ => none)))

noncomputable def F22_L1 (a1 : Int) (x12 : Int) (x20 : (List (Int × Int)) × Int × (List Int) × List Int) : (Int × Int) → Option (Ctl (Int × Int) (Int) (Unit)) := fun (x22, x23) =>
  cond ((decide (x23 < (x20.2.2.1.length : Int))))
  (Option.bind (α := Int) (Option.bind (idx x20.2.2.1 x23) fun x33 =>
  cond (((x23 != a1) && (decide (x33 ≥ x12))))
  (some (w64 (x22 + 1)))
  (some x22))
  fun x31 =>
  some (.nxt (x31, w64 (x23 + 1))))
  (some (.brk x22))
noncomputable def F22_L0 (a0 : ((List (Int × Int × Int × BitVec 32)) × List (Int × Int)) × List ((List (Int × Int)) × Int × (List Int) × List Int)) (a1 : Int) : Int → Option (Ctl (Int) (Unit) (Int × (((List (Int × Int × Int × BitVec 32)) × List (Int × Int)) × List ((List (Int × Int)) × Int × (List Int) × List Int)))) := fun x12 =>
  Option.bind (idx a0.2 a1) fun x17 =>
  cond ((decide (x12 > x17.2.1)))
  (Option.bind (idx a0.2 a1) fun x20 =>
  Option.bind (whileM (F22_L1 a1 x12 x20) (1, 0)) fun o27 => Ctl.on o27 (fun x26 =>
  Option.bind (cond ((decide ((w64 (2 * x26)) > (a0.2.length : Int)))) (Option.bind (idx a0.2 a1) fun x40 =>
  Option.bind (idx x40.1 (w64 (x12 - 1))) fun x42 =>
  Option.bind (F12 a0.1.1 a0.1.2 a1) fun r44 =>
  some (x42.1 == r44)) (some false)) fun b38 =>
  cond (b38)
  (Option.bind (idx a0.2 a1) fun x47 =>
  Option.bind (some (a0.2.set a1.toNat (x47.1, x12, x47.2.2.1, x47.2.2.2))) fun (y53 : List ((List (Int × Int)) × Int × (List Int) × List Int)) =>
  some (.ret (0, ((a0.1.1, a0.1.2), y53))))
  (some (.nxt (w64 (x12 - 1))))) (fun _ => none))
  (some (.brk ()))
/-- the model of (*beaconry/logs.group).commit -/
noncomputable def F22 (a0 : ((List (Int × Int × Int × BitVec 32)) × List (Int × Int)) × List ((List (Int × Int)) × Int × (List Int) × List Int)) (a1 : Int) : Option (Int × (((List (Int × Int × Int × BitVec 32)) × List (Int × Int)) × List ((List (Int × Int)) × Int × (List Int) × List Int))) :=
  Option.bind (F13 a0.1.1 a0.1.2 a1) fun r7 =>
  cond ((r7 != 2))
  (some (5, ((a0.1.1, a0.1.2), a0.2)))
  (Option.bind (idx a0.2 a1) fun (x10 : (List (Int × Int)) × Int × (List Int) × List Int) =>
  Option.bind (whileM (F22_L0 a0 a1) (x10.1.length : Int)) fun o14 => Ctl.on o14 (fun _ =>
  some (8, ((a0.1.1, a0.1.2), a0.2))) (fun r => some r))
end Go.Proofs.Ytacggcanjanmkaa
