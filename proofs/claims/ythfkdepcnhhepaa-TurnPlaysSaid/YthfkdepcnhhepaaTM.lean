/-
  Pure models of Go functions, written by a program (gen.py).
-/
import Derived.Test.YthfkdepcnhhepaaBk30
import Derived.Test.YthfkdepcnhhepaaKM
namespace Go.Proofs.Ythfkdepcnhhepaa
open Go Go.Bk
set_option linter.unusedVariables false
@[reducible] def cTiibiu32iu32 (x : Int × Int × Bool × (BitVec 32) × BitVec 32) : List Value := [I x.1, I x.2.1, .bool x.2.2.1, U x.2.2.2.1, U x.2.2.2.2]
/-- the model of (*beaconry/turn.all).do$1 -/
noncomputable def F103 (a0 : Int) (a1_0 : Nat) : Option (Bool) :=
  some ((decide (a0 < 0)) || (decide (a0 ≥ (a1_0 : Int))))

/-- the model of (*beaconry/turn.all).send -/
noncomputable def F134 (a0 : (Int × Int) → Option (List Int)) (a1 : Int) (a2 : Int) (a3 : Int) : Option (((Int × Int) → Option (List Int))) :=
  Option.bind (appl 8 ((a0 (a1, a2)).getD []) ([a3] : List Int)) fun (yq4_9_1 : List Int) =>
  some (mupd a0 (a1, a2) yq4_9_1)

/-- the model of (*beaconry/turn.all).enter -/
noncomputable def F135 (a0 : List (Int × Int × Bool × (BitVec 32) × BitVec 32)) (a1 : Int) : Option ((List (Int × Int × Bool × (BitVec 32) × BitVec 32))) :=
  Option.bind (idx a0 a1) fun x3 =>
  Option.bind (cond ((decide (x3.2.1 > 0))) (Option.bind (shc a1) fun k8 =>
  Option.bind (shc (a0.length : Int)) fun k10 =>
  some ((x3.2.2.2.1 ||| ((1#32) <<< k8)) == (((1#32) <<< k10) - (1#32)))) (some false)) fun b6 =>
  cond (b6)
  (Option.bind (idx (a0.set a1.toNat (x3.1, x3.2.1, true, x3.2.2.2.1, x3.2.2.2.2)) a1) fun x13 =>
  some ((a0.set a1.toNat (x3.1, x3.2.1, true, x3.2.2.2.1, x3.2.2.2.2)).set a1.toNat (x13.1, 0, x13.2.2.1, x13.2.2.2.1, x13.2.2.2.2)))
  (some a0)

noncomputable def F104_L0 (a0 : (List (Int × Int × Bool × (BitVec 32) × BitVec 32)) × ((Int × Int) → Option (List Int))) (a1 : Int) (x5 : Int × Int × Bool × (BitVec 32) × BitVec 32) (x9 : Int × Int × Bool × (BitVec 32) × BitVec 32) (x11 : Int × Int × Bool × (BitVec 32) × BitVec 32) (x13 : Int × Int × Bool × (BitVec 32) × BitVec 32) : (((Int × Int) → Option (List Int)) × Int) → Option (Ctl (((Int × Int) → Option (List Int)) × Int) (((Int × Int) → Option (List Int))) (Unit)) := fun (y17, x19) =>
  cond ((decide (x19 < ((((a0.1.set a1.toNat (w64 (x5.1 + 1), x5.2.1, x5.2.2.1, x5.2.2.2.1, x5.2.2.2.2)).set a1.toNat (x11.1, x9.1, x11.2.2.1, x11.2.2.2.1, x11.2.2.2.2)).set a1.toNat (x13.1, x13.2.1, x13.2.2.1, 0#32, x13.2.2.2.2)).length : Int))))
  (Option.bind (α := ((Int × Int) → Option (List Int))) (cond ((x19 != a1))
  (Option.bind (idx (((a0.1.set a1.toNat (w64 (x5.1 + 1), x5.2.1, x5.2.2.1, x5.2.2.2.1, x5.2.2.2.2)).set a1.toNat (x11.1, x9.1, x11.2.2.1, x11.2.2.2.1, x11.2.2.2.2)).set a1.toNat (x13.1, x13.2.1, x13.2.2.1, 0#32, x13.2.2.2.2)) a1) fun x39 =>
  Option.bind (F134 y17 a1 x19 x39.2.1) fun r41 =>
  some r41)
  (some y17))
  fun y35 =>
  some (.nxt (y35, w64 (x19 + 1))))
  (some (.brk y17))
/-- the model of (*beaconry/turn.all).want -/
noncomputable def F104 (a0 : (List (Int × Int × Bool × (BitVec 32) × BitVec 32)) × ((Int × Int) → Option (List Int))) (a1 : Int) : Option (Int × ((List (Int × Int × Bool × (BitVec 32) × BitVec 32)) × ((Int × Int) → Option (List Int)))) :=
  Option.bind (idx a0.1 a1) fun x5 =>
  cond ((x5.2.2.1 || (decide (x5.2.1 > 0))))
  (some (7, (a0.1, a0.2)))
  (Option.bind (idx (a0.1.set a1.toNat (w64 (x5.1 + 1), x5.2.1, x5.2.2.1, x5.2.2.2.1, x5.2.2.2.2)) a1) fun x9 =>
  Option.bind (idx (a0.1.set a1.toNat (w64 (x5.1 + 1), x5.2.1, x5.2.2.1, x5.2.2.2.1, x5.2.2.2.2)) a1) fun x11 =>
  Option.bind (idx ((a0.1.set a1.toNat (w64 (x5.1 + 1), x5.2.1, x5.2.2.1, x5.2.2.2.1, x5.2.2.2.2)).set a1.toNat (x11.1, x9.1, x11.2.2.1, x11.2.2.2.1, x11.2.2.2.2)) a1) fun x13 =>
  Option.bind (whileM (F104_L0 a0 a1 x5 x9 x11 x13) (a0.2, 0)) fun o29 => Ctl.on o29 (fun y27 =>
  Option.bind (F135 (((a0.1.set a1.toNat (w64 (x5.1 + 1), x5.2.1, x5.2.2.1, x5.2.2.2.1, x5.2.2.2.2)).set a1.toNat (x11.1, x9.1, x11.2.2.1, x11.2.2.2.1, x11.2.2.2.2)).set a1.toNat (x13.1, x13.2.1, x13.2.2.1, 0#32, x13.2.2.2.2)) a1) fun r46 =>
  some (0, (r46, y27))) (fun _ => none))

/-- the model of (*beaconry/turn.all).come -/
noncomputable def F105 (a0 : (List (Int × Int × Bool × (BitVec 32) × BitVec 32)) × ((Int × Int) → Option (List Int))) (a1 : Int) (a2 : Int) : Option (Int × ((List (Int × Int × Bool × (BitVec 32) × BitVec 32)) × ((Int × Int) → Option (List Int)))) :=
  cond (((((a0.2 (a1, a2)).getD []).length : Int) == 0))
  (some (5, (a0.1, a0.2)))
  (Option.bind (idx ((a0.2 (a1, a2)).getD []) 0) fun x7 =>
  Option.bind (slI ((a0.2 (a1, a2)).getD []) 1 (((a0.2 (a1, a2)).getD []).length : Int)) fun y9 =>
  Option.bind (idx a0.1 a2) fun x14 =>
  cond ((x7 == 0))
  (Option.bind (shc a1) fun k17 =>
  Option.bind (F135 (a0.1.set a2.toNat (x14.1, x14.2.1, x14.2.2.1, (x14.2.2.2.1 ||| ((1#32) <<< k17)), x14.2.2.2.2)) a2) fun r19 =>
  some (0, (r19, mupd a0.2 (a1, a2) y9)))
  (Option.bind (idx (a0.1.set a2.toNat (mx x14.1 x7, x14.2.1, x14.2.2.1, x14.2.2.2.1, x14.2.2.2.2)) a2) fun x22 =>
  Option.bind (cond (x22.2.2.1) (some true) (Option.bind (idx (a0.1.set a2.toNat (mx x14.1 x7, x14.2.1, x14.2.2.1, x14.2.2.2.1, x14.2.2.2.2)) a2) fun x27 =>
  Option.bind (cond ((decide (x27.2.1 > 0))) (Option.bind (idx (a0.1.set a2.toNat (mx x14.1 x7, x14.2.1, x14.2.2.1, x14.2.2.2.1, x14.2.2.2.2)) a2) fun x32 =>
  Option.bind (cond ((decide (x32.2.1 < x7))) (some true) (Option.bind (idx (a0.1.set a2.toNat (mx x14.1 x7, x14.2.1, x14.2.2.1, x14.2.2.2.1, x14.2.2.2.2)) a2) fun x37 =>
  some ((x37.2.1 == x7) && (decide (a2 < a1))))) fun b35 =>
  some b35) (some false)) fun b30 =>
  some b30)) fun b25 =>
  cond (b25)
  (Option.bind (idx (a0.1.set a2.toNat (mx x14.1 x7, x14.2.1, x14.2.2.1, x14.2.2.2.1, x14.2.2.2.2)) a2) fun x41 =>
  Option.bind (shc a1) fun k43 =>
  Option.bind (idx (a0.1.set a2.toNat (mx x14.1 x7, x14.2.1, x14.2.2.1, x14.2.2.2.1, x14.2.2.2.2)) a2) fun x45 =>
  some (0, ((a0.1.set a2.toNat (mx x14.1 x7, x14.2.1, x14.2.2.1, x14.2.2.2.1, x14.2.2.2.2)).set a2.toNat (x45.1, x45.2.1, x45.2.2.1, x45.2.2.2.1, (x41.2.2.2.2 ||| ((1#32) <<< k43))), mupd a0.2 (a1, a2) y9)))
  (Option.bind (F134 (mupd a0.2 (a1, a2) y9) a2 a1 0) fun r47 =>
  some (0, (a0.1.set a2.toNat (mx x14.1 x7, x14.2.1, x14.2.2.1, x14.2.2.2.1, x14.2.2.2.2), r47)))))

noncomputable def F106_L0 (a0 : (List (Int × Int × Bool × (BitVec 32) × BitVec 32)) × ((Int × Int) → Option (List Int))) (a1 : Int) (x5 : Int × Int × Bool × (BitVec 32) × BitVec 32) : (((Int × Int) → Option (List Int)) × Int) → Option (Ctl (((Int × Int) → Option (List Int)) × Int) (((Int × Int) → Option (List Int))) (Unit)) := fun (y10, x12) =>
  cond ((decide (x12 < ((a0.1.set a1.toNat (x5.1, x5.2.1, false, x5.2.2.2.1, x5.2.2.2.2)).length : Int))))
  (Option.bind (α := ((Int × Int) → Option (List Int))) (Option.bind (idx (a0.1.set a1.toNat (x5.1, x5.2.1, false, x5.2.2.2.1, x5.2.2.2.2)) a1) fun x31 =>
  Option.bind (shc x12) fun k33 =>
  cond ((((x31.2.2.2.2 >>> k33) &&& (1#32)) == (1#32)))
  (Option.bind (F134 y10 a1 x12 0) fun r36 =>
  some r36)
  (some y10))
  fun y28 =>
  some (.nxt (y28, w64 (x12 + 1))))
  (some (.brk y10))
/-- the model of (*beaconry/turn.all).out -/
noncomputable def F106 (a0 : (List (Int × Int × Bool × (BitVec 32) × BitVec 32)) × ((Int × Int) → Option (List Int))) (a1 : Int) : Option (Int × ((List (Int × Int × Bool × (BitVec 32) × BitVec 32)) × ((Int × Int) → Option (List Int)))) :=
  Option.bind (idx a0.1 a1) fun x5 =>
  cond ((!x5.2.2.1))
  (some (7, (a0.1, a0.2)))
  (Option.bind (whileM (F106_L0 a0 a1 x5) (a0.2, 0)) fun o22 => Ctl.on o22 (fun y20 =>
  Option.bind (idx (a0.1.set a1.toNat (x5.1, x5.2.1, false, x5.2.2.2.1, x5.2.2.2.2)) a1) fun x41 =>
  some (0, ((a0.1.set a1.toNat (x5.1, x5.2.1, false, x5.2.2.2.1, x5.2.2.2.2)).set a1.toNat (x41.1, x41.2.1, x41.2.2.1, x41.2.2.2.1, 0#32), y20))) (fun _ => none))

/-- the model of (*beaconry/turn.all).do -/
noncomputable def F72 (a0 : (List (Int × Int × Bool × (BitVec 32) × BitVec 32)) × ((Int × Int) → Option (List Int))) (a1 : Int × Int × Int × Int) : Option (Int × ((List (Int × Int × Bool × (BitVec 32) × BitVec 32)) × ((Int × Int) → Option (List Int)))) :=
  cond (((decide (a1.1 < 1)) || (decide (a1.1 > 3))))
  (some (6, (a0.1, a0.2)))
  (Option.bind (F103 a1.2.1 (a0.1.length)) fun r9 =>
  Option.bind (cond (r9) (some true) (Option.bind (cond ((a1.1 == 2)) (Option.bind (F103 a1.2.2.1 (a0.1.length)) fun r17 =>
  some (r17 || (a1.2.1 == a1.2.2.1))) (some false)) fun b15 =>
  some b15)) fun b12 =>
  cond (b12)
  (some (2, (a0.1, a0.2)))
  (cond ((a1.1 == 1))
  (Option.bind (F104 (a0.1, a0.2) a1.2.1) fun (r22, r23) =>
  some (r22, (r23.1, r23.2)))
  (cond ((a1.1 == 2))
  (Option.bind (F105 (a0.1, a0.2) a1.2.1 a1.2.2.1) fun (r30, r31) =>
  some (r30, (r31.1, r31.2)))
  (Option.bind (F106 (a0.1, a0.2) a1.2.1) fun (r37, r38) =>
  some (r37, (r38.1, r38.2))))))

noncomputable def F38_L2 : (Int × Int) → (List Int) → Int → Option (Ctl (Int) Unit (Unit)) := fun k78 v79 x81 =>
  some (.nxt (w64 (x81 + (v79.length : Int))))
noncomputable def F38_L1 (y41 : List (Int × Int × Bool × (BitVec 32) × BitVec 32)) : ((BitVec 32) × (BitVec 32) × Int) → Option (Ctl ((BitVec 32) × (BitVec 32) × Int) ((BitVec 32) × (BitVec 32)) (Unit)) := fun (x50, x51, x52) =>
  cond ((decide (x52 < (y41.length : Int))))
  (Option.bind (α := (BitVec 32) × (BitVec 32)) (Option.bind (idx y41 x52) fun x65 =>
  Option.bind (α := (BitVec 32)) (cond (x65.2.2.1)
  (Option.bind (shc x52) fun k71 =>
  some (x50 ||| ((1#32) <<< k71)))
  (some x50))
  fun x68 =>
  cond ((decide (x65.2.1 > 0)))
  (Option.bind (shc x52) fun k74 =>
  some (x68, (x51 ||| ((1#32) <<< k74))))
  (some (x68, x51)))
  fun (x62, x63) =>
  some (.nxt (x62, x63, w64 (x52 + 1))))
  (some (.brk (x50, x51)))
noncomputable def F38_L0 (a1 : List (Int × Int × Int × Int)) : ((List Int) × ((Int × Int) → Option (List Int)) × (List (Int × Int × Bool × (BitVec 32) × BitVec 32)) × Int) → Option (Ctl ((List Int) × ((Int × Int) → Option (List Int)) × (List (Int × Int × Bool × (BitVec 32) × BitVec 32)) × Int) ((List Int) × ((Int × Int) → Option (List Int)) × (List (Int × Int × Bool × (BitVec 32) × BitVec 32))) (Unit)) := fun (y18, y21, y23, x24) =>
  cond ((decide (x24 < (a1.length : Int))))
  (Option.bind (idx a1 x24) fun x46 =>
  Option.bind (F72 (y23, y21) (x46.1, x46.2.1, x46.2.2.1, x46.2.2.2)) fun (rq49_4_1, rq49_4_2) =>
  Option.bind (appl 8 y18 ([rq49_4_1] : List Int)) fun (yq49_6_1 : List Int) =>
  some (.nxt (yq49_6_1, rq49_4_2.2, rq49_4_2.1, w64 (x24 + 1))))
  (some (.brk (y18, y21, y23)))
/-- the model of beaconry/turn.Play -/
noncomputable def F38 (a0 : Int) (a1 : List (Int × Int × Int × Int)) : Option (((List Int) × (BitVec 32) × (BitVec 32) × Int) × Int) :=
  cond ((((decide (a0 < 1)) || (decide (a0 > 6))) || (decide ((a1.length : Int) > 60))))
  (some (([], 0, 0, 0), 1))
  (Option.bind (mkl a0 32 (0, 0, false, 0, 0)) fun (y6 : List (Int × Int × Bool × (BitVec 32) × BitVec 32)) =>
  Option.bind (whileM (F38_L0 a1) ([], (mzero : (Int × Int) → Option (List Int)), y6, 0)) fun o42 => Ctl.on o42 (fun (y36, y39, y41) =>
  Option.bind (whileM (F38_L1 y41) (0, 0, 0)) fun o58 => Ctl.on o58 (fun (x56, x57) =>
  Option.bind (rangeM y39 (F38_L2) 0) fun o83 => Ctl.onN o83 (fun x81 =>
  some ((y36, x56, x57, x81), 0)) (fun _ => none)) (fun _ => none)) (fun _ => none))
end Go.Proofs.Ythfkdepcnhhepaa
