/-
  Pure models of Go functions, written by a program (gen.py).
-/
import Derived.Test.YthfkdepcnhhepaaBk30
import Derived.Test.YthfkdepcnhhepaaKM
namespace Go.Proofs.Ythfkdepcnhhepaa
open Go Go.Bk
set_option linter.unusedVariables false

/-- the model of (*beaconry/snap.place).do$1 -/
noncomputable def F92 (a0 : Int) (a1_0 : Int) : Option (Bool) :=
  some ((decide (a0 < 0)) || (decide (a0 ≥ a1_0)))

noncomputable def F94_L0 (a0 : Int × (List Int) × ((Int × Int) → Option (List Int)) × (List Bool) × List Int) (a1 : Int) : (((Int × Int) → Option (List Int)) × Int) → Option (Ctl (((Int × Int) → Option (List Int)) × Int) (((Int × Int) → Option (List Int))) (Unit)) := fun (y18, x20) =>
  cond ((decide (x20 < a0.1)))
  (Option.bind (α := ((Int × Int) → Option (List Int))) (cond ((x20 != a1))
  (Option.bind (α := ((Int × Int) → Option (List Int))) (Option.bind (appl 8 ((y18 (a1, x20)).getD []) ([0] : List Int)) fun (yq34_16_2 : List Int) =>
  some (mupd y18 (a1, x20) yq34_16_2))
  fun y35 =>
  some y35)
  (some y18))
  fun y30 =>
  some (.nxt (y30, w64 (x20 + 1))))
  (some (.brk y18))
/-- the model of (*beaconry/snap.place).record -/
noncomputable def F94 (a0 : Int × (List Int) × ((Int × Int) → Option (List Int)) × (List Bool) × List Int) (a1 : Int) : Option ((Int × (List Int) × ((Int × Int) → Option (List Int)) × (List Bool) × List Int)) :=
  Option.bind (idx a0.2.2.2.1 a1) fun x9 =>
  cond (x9)
  (some (a0.1, a0.2.1, a0.2.2.1, a0.2.2.2.1, a0.2.2.2.2))
  (Option.bind (idx a0.2.2.2.1 a1) fun x12 =>
  Option.bind (idx a0.2.1 a1) fun x14 =>
  Option.bind (idx a0.2.2.2.2 a1) fun x16 =>
  Option.bind (whileM (F94_L0 a0 a1) (a0.2.2.1, 0)) fun o26 => Ctl.on o26 (fun y24 =>
  some (a0.1, a0.2.1, y24, a0.2.2.2.1.set a1.toNat true, a0.2.2.2.2.set a1.toNat x14)) (fun _ => none))

/-- the model of (*beaconry/snap.place).take -/
noncomputable def F93 (a0 : Int × (List Int) × ((Int × Int) → Option (List Int)) × (List Bool) × ((Int × Int) → Option Bool) × (List Int) × List (List Int)) (a1 : Int) (a2 : Int) : Option (Int × (Int × (List Int) × ((Int × Int) → Option (List Int)) × (List Bool) × ((Int × Int) → Option Bool) × (List Int) × List (List Int))) :=
  cond (((((a0.2.2.1 (a1, a2)).getD []).length : Int) == 0))
  (some (5, (a0.1, a0.2.1, a0.2.2.1, a0.2.2.2.1, a0.2.2.2.2.1, (a0.2.2.2.2.2.1, a0.2.2.2.2.2.2))))
  (Option.bind (idx ((a0.2.2.1 (a1, a2)).getD []) 0) fun x15 =>
  Option.bind (slI ((a0.2.2.1 (a1, a2)).getD []) 1 (((a0.2.2.1 (a1, a2)).getD []).length : Int)) fun y17 =>
  cond ((x15 == 0))
  (Option.bind (F94 (a0.1, a0.2.1, mupd a0.2.2.1 (a1, a2) y17, a0.2.2.2.1, a0.2.2.2.2.2.1) a2) fun r23 =>
  some (0, (r23.1, r23.2.1, r23.2.2.1, r23.2.2.2.1, mupd a0.2.2.2.2.1 (a1, a2) true, (r23.2.2.2.2, a0.2.2.2.2.2.2))))
  (Option.bind (idx a0.2.1 a2) fun x31 =>
  Option.bind (idx a0.2.1 a2) fun x33 =>
  Option.bind (idx a0.2.2.2.1 a2) fun x35 =>
  Option.bind (α := (List (List Int))) (cond ((x35 && (!((a0.2.2.2.2.1 (a1, a2)).getD false))))
  (Option.bind (idx a0.2.2.2.2.2.2 a1) fun (x41 : List Int) =>
  Option.bind (idx x41 a2) fun x44 =>
  Option.bind (idx x41 a2) fun x46 =>
  some (a0.2.2.2.2.2.2.set a1.toNat (x41.set a2.toNat (w64 (x44 + x15)))))
  (some a0.2.2.2.2.2.2))
  fun y38 =>
  some (0, (a0.1, a0.2.1.set a2.toNat (w64 (x31 + x15)), mupd a0.2.2.1 (a1, a2) y17, a0.2.2.2.1, a0.2.2.2.2.1, (a0.2.2.2.2.2.1, y38)))))

/-- the model of (*beaconry/snap.place).do -/
noncomputable def F59 (a0 : Int × (List Int) × ((Int × Int) → Option (List Int)) × (List Bool) × ((Int × Int) → Option Bool) × (List Int) × List (List Int)) (a1 : Int × Int × Int × Int) : Option (Int × (Int × (List Int) × ((Int × Int) → Option (List Int)) × (List Bool) × ((Int × Int) → Option Bool) × (List Int) × List (List Int))) :=
  cond (((decide (a1.1 < 1)) || (decide (a1.1 > 3))))
  (some (6, (a0.1, a0.2.1, a0.2.2.1, a0.2.2.2.1, a0.2.2.2.2.1, (a0.2.2.2.2.2.1, a0.2.2.2.2.2.2))))
  (Option.bind (F92 a1.2.1 a0.1) fun r17 =>
  Option.bind (cond (r17) (some true) (Option.bind (cond ((a1.1 != 3)) (Option.bind (F92 a1.2.2.1 a0.1) fun r25 =>
  some (r25 || (a1.2.1 == a1.2.2.1))) (some false)) fun b23 =>
  some b23)) fun b20 =>
  cond (b20)
  (some (2, (a0.1, a0.2.1, a0.2.2.1, a0.2.2.2.1, a0.2.2.2.2.1, (a0.2.2.2.2.2.1, a0.2.2.2.2.2.2))))
  (cond ((a1.1 == 2))
  (Option.bind (F93 (a0.1, a0.2.1, a0.2.2.1, a0.2.2.2.1, a0.2.2.2.2.1, (a0.2.2.2.2.2.1, a0.2.2.2.2.2.2)) a1.2.1 a1.2.2.1) fun (r30, r31) =>
  some (r30, (r31.1, r31.2.1, r31.2.2.1, r31.2.2.2.1, r31.2.2.2.2.1, (r31.2.2.2.2.2.1, r31.2.2.2.2.2.2))))
  (Option.bind (cond ((a1.1 == 3)) (Option.bind (idx a0.2.2.2.1 a1.2.1) fun x46 =>
  some x46) (some false)) fun b44 =>
  cond (b44)
  (some (7, (a0.1, a0.2.1, a0.2.2.1, a0.2.2.2.1, a0.2.2.2.2.1, (a0.2.2.2.2.2.1, a0.2.2.2.2.2.2))))
  (cond ((a1.1 == 3))
  (Option.bind (F94 (a0.1, a0.2.1, a0.2.2.1, a0.2.2.2.1, a0.2.2.2.2.2.1) a1.2.1) fun r50 =>
  some (0, (r50.1, r50.2.1, r50.2.2.1, r50.2.2.2.1, a0.2.2.2.2.1, (r50.2.2.2.2, a0.2.2.2.2.2.2))))
  (Option.bind (cond ((decide (a1.2.2.2 < 1))) (some true) (Option.bind (idx a0.2.1 a1.2.1) fun x61 =>
  some (decide (a1.2.2.2 > x61)))) fun b59 =>
  cond (b59)
  (some (4, (a0.1, a0.2.1, a0.2.2.1, a0.2.2.2.1, a0.2.2.2.2.1, (a0.2.2.2.2.2.1, a0.2.2.2.2.2.2))))
  (Option.bind (idx a0.2.1 a1.2.1) fun x65 =>
  Option.bind (idx a0.2.1 a1.2.1) fun x67 =>
  Option.bind (appl 8 ((a0.2.2.1 (a1.2.1, a1.2.2.1)).getD []) ([a1.2.2.2] : List Int)) fun (yq69_10_1 : List Int) =>
  some (0, (a0.1, a0.2.1.set a1.2.1.toNat (w64 (x65 - a1.2.2.2)), mupd a0.2.2.1 (a1.2.1, a1.2.2.1) yq69_10_1, a0.2.2.2.1, a0.2.2.2.2.1, (a0.2.2.2.2.2.1, a0.2.2.2.2.2.2)))))))))

noncomputable def F26_L2 (y98 : List Bool) : (Bool × Int) → Option (Ctl (Bool × Int) (Bool) (Unit)) := fun (b124, x125) =>
  cond ((decide (x125 < (y98.length : Int))))
  (Option.bind (idx y98 x125) fun x133 =>
  some (.nxt ((b124 && x133), w64 (x125 + 1))))
  (some (.brk b124))
noncomputable def F26_L1 (a1 : List (Int × Int × Int × Int)) : (((Int × Int) → Option (List Int)) × ((Int × Int) → Option Bool) × (List Int) × (List Int) × (List (List Int)) × (List Int) × (List Bool) × Int × Int) → Option (Ctl (((Int × Int) → Option (List Int)) × ((Int × Int) → Option Bool) × (List Int) × (List Int) × (List (List Int)) × (List Int) × (List Bool) × Int × Int) (((Int × Int) → Option (List Int)) × ((Int × Int) → Option Bool) × (List Int) × (List Int) × (List (List Int)) × (List Int) × (List Bool) × Int) (Unit)) := fun (y52, y56, y59, y60, y61, y63, y64, x65, x66) =>
  cond ((decide (x66 < (a1.length : Int))))
  (Option.bind (idx a1 x66) fun x104 =>
  Option.bind (α := ((Int × Int) → Option (List Int)) × ((Int × Int) → Option Bool) × (List Int) × (List Int) × (List (List Int)) × (List Int) × (List Bool) × Int) (Option.bind (F59 (x65, y63, y52, y64, y56, (y60, y61)) (x104.1, x104.2.1, x104.2.2.1, x104.2.2.2)) fun (rq107_8_1, rq107_8_2) =>
  Option.bind (appl 8 y59 ([rq107_8_1] : List Int)) fun (yq107_10_1 : List Int) =>
  some (rq107_8_2.2.2.1, rq107_8_2.2.2.2.2.1, yq107_10_1, rq107_8_2.2.2.2.2.2.1, rq107_8_2.2.2.2.2.2.2, rq107_8_2.2.1, rq107_8_2.2.2.2.1, rq107_8_2.1))
  fun (y110, y114, y115, y117, y118, y120, y121, x122) =>
  some (.nxt (y110, y114, y115, y117, y118, y120, y121, x122, w64 (x66 + 1))))
  (some (.brk (y52, y56, y59, y60, y61, y63, y64, x65)))
noncomputable def F26_L0 (a0 : Int) : ((List (List Int)) × (List Int) × Int) → Option (Ctl ((List (List Int)) × (List Int) × Int) ((List (List Int)) × (List Int)) (Unit)) := fun (y32, y34, x35) =>
  cond ((decide (x35 < a0)))
  (Option.bind (idx y34 x35) fun x47 =>
  Option.bind (mkl a0 8 0) fun (yq49_7_1 : List Int) =>
  Option.bind (idx y32 x35) fun (xq49_8_1 : List Int) =>
  some (.nxt (y32.set x35.toNat yq49_7_1, y34.set x35.toNat 100, w64 (x35 + 1))))
  (some (.brk (y32, y34)))
/-- the model of beaconry/snap.Play -/
noncomputable def F26 (a0 : Int) (a1 : List (Int × Int × Int × Int)) : Option (((List Int) × Bool × (List Int) × List (List Int)) × Int) :=
  cond ((((decide (a0 < 1)) || (decide (a0 > 6))) || (decide ((a1.length : Int) > 60))))
  (some (([], false, [], []), 1))
  (Option.bind (α := (List Int) × ((Int × Int) → Option (List Int)) × (List Bool) × ((Int × Int) → Option Bool)) (Option.bind (mkl a0 8 0) fun (yq8_2_1 : List Int) =>
  Option.bind (mkl a0 1 false) fun (yq8_5_1 : List Bool) =>
  some (yq8_2_1, (mzero : (Int × Int) → Option (List Int)), yq8_5_1, (mzero : (Int × Int) → Option Bool)))
  fun (y11, y14, y18, y21) =>
  Option.bind (α := (List Int) × (List (List Int))) (Option.bind (mkl a0 8 0) fun (yq23_3_1 : List Int) =>
  Option.bind (mkl a0 24 ([] : List Int)) fun (yq23_5_1 : List (List Int)) =>
  some (yq23_3_1, yq23_5_1))
  fun (y26, y30) =>
  Option.bind (whileM (F26_L0 a0) (y30, y11, 0)) fun o43 => Ctl.on o43 (fun (y40, y42) =>
  Option.bind (whileM (F26_L1 a1) (y14, y21, [], y26, y40, y42, y18, a0, 0)) fun o100 => Ctl.on o100 (fun (y86, y90, y93, y94, y95, y97, y98, x99) =>
  Option.bind (whileM (F26_L2 y98) (((mlen y90 : Int) == (w64 (a0 * (w64 (a0 - 1))))), 0)) fun o129 => Ctl.on o129 (fun b128 =>
  some ((y93, b128, y94, y95), 0)) (fun _ => none)) (fun _ => none)) (fun _ => none))
end Go.Proofs.Ythfkdepcnhhepaa
