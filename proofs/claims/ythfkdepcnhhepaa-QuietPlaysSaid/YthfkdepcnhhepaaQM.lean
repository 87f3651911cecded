/-
  Pure models of Go functions, written by a program (gen.py).
-/
import Derived.Test.YthfkdepcnhhepaaBk31
import Derived.Test.YthfkdepcnhhepaaKM
namespace Go.Proofs.Ythfkdepcnhhepaa
open Go Go.Bk
set_option linter.unusedVariables false

/-- the model of (*beaconry/quiet.state).do$1 -/
noncomputable def F88 (a0 : Int) (a1_0 : Int) : Option (Bool) :=
  some ((decide (a0 < 0)) || (decide (a0 ≥ a1_0)))

noncomputable def F90_L0 (a0 : (BitVec 32) × (List Int) × List Int) : ((List Int) × (List Int) × Int) → Option (Ctl ((List Int) × (List Int) × Int) ((List Int) × (List Int)) (Unit)) := fun (y5, y6, x7) =>
  Option.bind (cond ((x7 != 0)) (Option.bind (shc x7) fun k19 =>
  some (((a0.1 >>> k19) &&& (1#32)) == (0#32))) (some false)) fun b17 =>
  Option.bind (cond (b17) (Option.bind (idx y5 x7) fun x24 =>
  some (x24 == 0)) (some false)) fun b22 =>
  Option.bind (cond (b22) (Option.bind (idx y6 x7) fun x29 =>
  some (x29 != x7)) (some false)) fun b27 =>
  cond (b27)
  (Option.bind (idx y6 x7) fun x32 =>
  Option.bind (idx y6 x7) fun x34 =>
  Option.bind (idx y5 x32) fun x36 =>
  Option.bind (idx y5 x32) fun x38 =>
  some (.nxt (y5.set x32.toNat (w64 (x36 - 1)), y6.set x7.toNat x7, x32)))
  (some (.brk (y5, y6)))
/-- the model of (*beaconry/quiet.state).loose -/
noncomputable def F90 (a0 : (BitVec 32) × (List Int) × List Int) (a1 : Int) : Option (((BitVec 32) × (List Int) × List Int)) :=
  Option.bind (whileM (F90_L0 a0) (a0.2.1, a0.2.2, a1)) fun o13 => Ctl.on o13 (fun (y11, y12) =>
  some (a0.1, y11, y12)) (fun _ => none)

/-- the model of (*beaconry/quiet.state).take -/
noncomputable def F89 (a0 : (BitVec 32) × (List Int) × (List Int) × ((Int × Int) → Option Int)) (a1 : Int) (a2 : Int) : Option (Int × ((BitVec 32) × (List Int) × (List Int) × ((Int × Int) → Option Int))) :=
  cond ((((a0.2.2.2 (a1, a2)).getD 0) == 0))
  (some (5, (a0.1, a0.2.1, a0.2.2.1, a0.2.2.2)))
  (Option.bind (α := ((Int × Int) → Option Int)) (some (mupd a0.2.2.2 (a1, a2) (w64 (((a0.2.2.2 (a1, a2)).getD 0) - 1))))
  fun y10 =>
  Option.bind (shc a2) fun k12 =>
  Option.bind (cond ((a2 != 0)) (Option.bind (idx a0.2.2.1 a2) fun x17 =>
  some (x17 == a2)) (some false)) fun b15 =>
  cond (b15)
  (Option.bind (idx a0.2.2.1 a2) fun x20 =>
  some (0, ((a0.1 ||| ((1#32) <<< k12)), a0.2.1, a0.2.2.1.set a2.toNat a1, y10)))
  (Option.bind (idx a0.2.1 a1) fun x22 =>
  Option.bind (idx a0.2.1 a1) fun x24 =>
  Option.bind (F90 ((a0.1 ||| ((1#32) <<< k12)), a0.2.1.set a1.toNat (w64 (x22 - 1)), a0.2.2.1) a1) fun r26 =>
  some (0, (r26.1, r26.2.1, r26.2.2, y10))))

/-- the model of (*beaconry/quiet.state).do -/
noncomputable def F53 (a0 : Int × (BitVec 32) × (List Int) × (List Int) × ((Int × Int) → Option Int)) (a1 : Int × Int × Int × Int) : Option (Int × (Int × (BitVec 32) × (List Int) × (List Int) × ((Int × Int) → Option Int))) :=
  cond (((decide (a1.1 < 1)) || (decide (a1.1 > 3))))
  (some (6, (a0.1, a0.2.1, a0.2.2.1, a0.2.2.2.1, a0.2.2.2.2)))
  (Option.bind (F88 a1.2.1 a0.1) fun r11 =>
  Option.bind (cond (r11) (some true) (Option.bind (cond ((a1.1 != 3)) (Option.bind (F88 a1.2.2.1 a0.1) fun r19 =>
  some (r19 || (a1.2.1 == a1.2.2.1))) (some false)) fun b17 =>
  some b17)) fun b14 =>
  cond (b14)
  (some (2, (a0.1, a0.2.1, a0.2.2.1, a0.2.2.2.1, a0.2.2.2.2)))
  (cond ((a1.1 == 2))
  (Option.bind (F89 (a0.2.1, a0.2.2.1, a0.2.2.2.1, a0.2.2.2.2) a1.2.1 a1.2.2.1) fun (r24, r25) =>
  some (r24, (a0.1, r25.1, r25.2.1, r25.2.2.1, r25.2.2.2)))
  (Option.bind (shc a1.2.1) fun k31 =>
  cond ((((a0.2.1 >>> k31) &&& (1#32)) == (0#32)))
  (some (7, (a0.1, a0.2.1, a0.2.2.1, a0.2.2.2.1, a0.2.2.2.2)))
  (cond ((a1.1 == 3))
  (Option.bind (shc a1.2.1) fun k35 =>
  Option.bind (F90 ((a0.2.1 &&& ~~~((1#32) <<< k35)), a0.2.2.1, a0.2.2.2.1) a1.2.1) fun r37 =>
  some (0, (a0.1, r37.1, r37.2.1, r37.2.2, a0.2.2.2.2)))
  (Option.bind (α := ((Int × Int) → Option Int)) (some (mupd a0.2.2.2.2 (a1.2.1, a1.2.2.1) (w64 (((a0.2.2.2.2 (a1.2.1, a1.2.2.1)).getD 0) + 1))))
  fun y42 =>
  Option.bind (idx a0.2.2.1 a1.2.1) fun x44 =>
  Option.bind (idx a0.2.2.1 a1.2.1) fun x46 =>
  some (0, (a0.1, a0.2.1, a0.2.2.1.set a1.2.1.toNat (w64 (x44 + 1)), a0.2.2.2.1, y42)))))))

noncomputable def F20_L2 : (Int × Int) → Int → Int → Option (Ctl (Int) Unit (Unit)) := fun k78 v79 x81 =>
  some (.nxt (w64 (x81 + v79)))
noncomputable def F20_L1 (a1 : List (Int × Int × Int × Int)) : ((List Int) × ((Int × Int) → Option Int) × (List Int) × (List Int) × Int × (BitVec 32) × Int) → Option (Ctl ((List Int) × ((Int × Int) → Option Int) × (List Int) × (List Int) × Int × (BitVec 32) × Int) ((List Int) × ((Int × Int) → Option Int) × (List Int) × (List Int) × Int × (BitVec 32)) (Unit)) := fun (y38, y41, y42, y43, x44, x45, x46) =>
  cond ((decide (x46 < (a1.length : Int))))
  (Option.bind (idx a1 x46) fun x72 =>
  Option.bind (F53 (x44, x45, y43, y42, y41) (x72.1, x72.2.1, x72.2.2.1, x72.2.2.2)) fun (rq75_4_1, rq75_4_2) =>
  Option.bind (appl 8 y38 ([rq75_4_1] : List Int)) fun (yq75_6_1 : List Int) =>
  some (.nxt (yq75_6_1, rq75_4_2.2.2.2.2, rq75_4_2.2.2.2.1, rq75_4_2.2.2.1, rq75_4_2.1, rq75_4_2.2.1, w64 (x46 + 1))))
  (some (.brk (y38, y41, y42, y43, x44, x45)))
noncomputable def F20_L0 (a0 : Int) : ((List Int) × Int) → Option (Ctl ((List Int) × Int) ((List Int)) (Unit)) := fun (y16, x17) =>
  cond ((decide (x17 < a0)))
  (Option.bind (appl 8 y16 ([x17] : List Int)) fun (y31 : List Int) =>
  some (.nxt (y31, w64 (x17 + 1))))
  (some (.brk y16))
/-- the model of beaconry/quiet.Play -/
noncomputable def F20 (a0 : Int) (a1 : List (Int × Int × Int × Int)) : Option (((List Int) × Bool × (BitVec 32) × Int) × Int) :=
  cond ((((decide (a0 < 1)) || (decide (a0 > 6))) || (decide ((a1.length : Int) > 60))))
  (some (([], false, 0, 0), 1))
  (Option.bind (mkl a0 8 0) fun (y6 : List Int) =>
  Option.bind (whileM (F20_L0 a0) ([], 0)) fun o25 => Ctl.on o25 (fun y24 =>
  Option.bind (whileM (F20_L1 a1) ([], (mzero : (Int × Int) → Option Int), y24, y6, a0, 1#32, 0)) fun o68 => Ctl.on o68 (fun (y60, y63, y64, y65, x66, x67) =>
  Option.bind (rangeM y63 (F20_L2) 0) fun o83 => Ctl.onN o83 (fun x81 =>
  Option.bind (α := Bool × (BitVec 32)) (cond (((x67 &&& (1#32)) == (0#32)))
  (Option.bind (idx y65 0) fun xq88_15_1 =>
  some ((xq88_15_1 == 0), x67))
  (some (false, x67)))
  fun (b89, x90) =>
  some ((y60, b89, x90, x81), 0)) (fun _ => none)) (fun _ => none)) (fun _ => none))

noncomputable def F54_L0 (a0 : Int) (a1 : List (Int × Int × Int)) : (Int × Int) → Option (Ctl (Int × Int) (Int) (Unit)) := fun (x1, x2) =>
  cond ((decide (x2 < (a1.length : Int))))
  (Option.bind (α := Int) (Option.bind (idx a1 x2) fun x12 =>
  cond (((x12.1 == a0) && (decide (x12.2.2 < 2))))
  (some (w64 (x1 + 1)))
  (some x1))
  fun x10 =>
  some (.nxt (x10, w64 (x2 + 1))))
  (some (.brk x1))
/-- the model of beaconry/beaconryref.Quiet$1 -/
noncomputable def F54 (a0 : Int) (a1 : List (Int × Int × Int)) : Option (Int) :=
  Option.bind (whileM (F54_L0 a0 a1) (0, 0)) fun o6 => Ctl.on o6 (fun x5 =>
  some x5) (fun _ => none)

noncomputable def F55_L0 (a0 : Int) (a1 : List (Int × Int × Int)) : Int → Option (Ctl (Int) (Unit) (Int)) := fun x1 =>
  cond ((decide (x1 < (a1.length : Int))))
  (Option.bind (idx a1 x1) fun x7 =>
  cond (((x7.2.1 == a0) && (x7.2.2 == 1)))
  (some (.ret x1))
  (some (.nxt (w64 (x1 + 1)))))
  (some (.brk ()))
/-- the model of beaconry/beaconryref.Quiet$2 -/
noncomputable def F55 (a0 : Int) (a1 : List (Int × Int × Int)) : Option (Int) :=
  Option.bind (whileM (F55_L0 a0 a1) 0) fun o3 => Ctl.on o3 (fun _ =>
  some (-1)) (fun r => some r)

noncomputable def F56_L1 (a0 : Int) (a2 : List Bool) : ((List (Int × Int × Int)) × Bool × Int) → Option (Ctl ((List (Int × Int × Int)) × Bool × Int) ((List (Int × Int × Int)) × Bool) (Unit)) := fun (y14, b15, x16) =>
  cond ((decide (x16 < a0)))
  (Option.bind (α := (List (Int × Int × Int)) × Bool) (Option.bind (F55 x16 y14) fun r29 =>
  Option.bind (cond ((decide (r29 ≥ 0))) (Option.bind (idx a2 x16) fun x34 =>
  some (!x34)) (some false)) fun b32 =>
  Option.bind (cond (b32) (Option.bind (F54 x16 y14) fun r39 =>
  some (r39 == 0)) (some false)) fun b37 =>
  cond (b37)
  (Option.bind (idx y14 r29) fun x42 =>
  some (y14.set r29.toNat (x42.1, x42.2.1, 2), true))
  (some (y14, b15)))
  fun (y26, b27) =>
  some (.nxt (y26, b27, w64 (x16 + 1))))
  (some (.brk (y14, b15)))
noncomputable def F56_L0 (a0 : Int) (a2 : List Bool) : ((List (Int × Int × Int)) × Bool) → Option (Ctl ((List (Int × Int × Int)) × Bool) ((List (Int × Int × Int))) (Unit)) := fun (y5, b6) =>
  cond (b6)
  (Option.bind (whileM (F56_L1 a0 a2) (y5, false, 1)) fun o22 => Ctl.on o22 (fun (y20, b21) =>
  some (.nxt (y20, b21))) (fun _ => none))
  (some (.brk y5))
/-- the model of beaconry/beaconryref.Quiet$3 -/
noncomputable def F56 (a0 : Int) (a2 : List Bool) (a4 : List (Int × Int × Int)) : Option ((List Bool) × (List (Int × Int × Int))) :=
  Option.bind (whileM (F56_L0 a0 a2) (a4, true)) fun o10 => Ctl.on o10 (fun y9 =>
  some (a2, y9)) (fun _ => none)

noncomputable def F22_L2 (x49 : Int × Int × Int × Int) (x66 : Int) : ((List (Int × Int × Int)) × Int) → Option (Ctl ((List (Int × Int × Int)) × Int) ((List (Int × Int × Int))) (Unit)) := fun (y98, x99) =>
  cond ((decide (x99 < (y98.length : Int))))
  (Option.bind (α := (List (Int × Int × Int))) (Option.bind (cond ((x99 != x66)) (Option.bind (idx y98 x99) fun x112 =>
  some (x112.2.1 == x49.2.2.1)) (some false)) fun b110 =>
  Option.bind (cond (b110) (Option.bind (idx y98 x99) fun x117 =>
  some (x117.2.2 == 1)) (some false)) fun b115 =>
  cond (b115)
  (Option.bind (idx y98 x66) fun x120 =>
  some (y98.set x66.toNat (x120.1, x120.2.1, 2)))
  (some y98))
  fun y107 =>
  some (.nxt (y107, w64 (x99 + 1))))
  (some (.brk y98))
noncomputable def F22_L1 (y21 : List (Int × Int × Int)) (y24 : List Bool) (x49 : Int × Int × Int × Int) : Int → Option (Ctl (Int) ((List (Int × Int × Int)) × (List Bool) × Int) (Unit)) := fun x66 =>
  cond ((decide (x66 < (y21.length : Int))))
  (Option.bind (idx y21 x66) fun x75 =>
  cond ((((x75.1 == x49.2.1) && (x75.2.1 == x49.2.2.1)) && (x75.2.2 == 0)))
  (Option.bind (idx y21 x66) fun x81 =>
  Option.bind (cond ((x49.2.2.1 == 0)) (some true) (Option.bind (F55 x49.2.2.1 (y21.set x66.toNat (x81.1, x81.2.1, 1))) fun r86 =>
  Option.bind (cond ((decide (r86 ≥ 0))) (Option.bind (F55 x49.2.2.1 (y21.set x66.toNat (x81.1, x81.2.1, 1))) fun r91 =>
  some (r91 != x66)) (some false)) fun b89 =>
  some b89)) fun b84 =>
  Option.bind (α := (List (Int × Int × Int))) (cond (b84)
  (Option.bind (idx (y21.set x66.toNat (x81.1, x81.2.1, 1)) x66) fun x96 =>
  some ((y21.set x66.toNat (x81.1, x81.2.1, 1)).set x66.toNat (x96.1, x96.2.1, 2)))
  (some (y21.set x66.toNat (x81.1, x81.2.1, 1))))
  fun y93 =>
  Option.bind (whileM (F22_L2 x49 x66) (y93, 0)) fun o103 => Ctl.on o103 (fun y102 =>
  Option.bind (idx y24 x49.2.2.1) fun x122 =>
  some (.brk (y102, y24.set x49.2.2.1.toNat true, 0))) (fun _ => none))
  (some (.nxt (w64 (x66 + 1)))))
  (some (.brk (y21, y24, 5)))
noncomputable def F22_L4 (y41 : List (Int × Int × Int)) : (Int × Int) → Option (Ctl (Int × Int) (Int) (Unit)) := fun (x170, x171) =>
  cond ((decide (x171 < (y41.length : Int))))
  (Option.bind (α := Int) (Option.bind (idx y41 x171) fun x181 =>
  cond ((x181.2.2 == 0))
  (some (w64 (x170 + 1)))
  (some x170))
  fun x179 =>
  some (.nxt (x179, w64 (x171 + 1))))
  (some (.brk x170))
noncomputable def F22_L3 (a0 : Int) (y44 : List Bool) : ((BitVec 32) × Int) → Option (Ctl ((BitVec 32) × Int) ((BitVec 32)) (Unit)) := fun (x156, x157) =>
  cond ((decide (x157 < a0)))
  (Option.bind (α := (BitVec 32)) (Option.bind (idx y44 x157) fun x167 =>
  cond (x167)
  (some (x156 + ((1#32) <<< (u64 x157).toNat)))
  (some x156))
  fun x165 =>
  some (.nxt (x165, w64 (x157 + 1))))
  (some (.brk x156))
noncomputable def F22_L0 (a0 : Int) (a1 : List (Int × Int × Int × Int)) : ((List Int) × (List (Int × Int × Int)) × (List Bool) × Int) → Option (Ctl ((List Int) × (List (Int × Int × Int)) × (List Bool) × Int) ((List Int) × (List (Int × Int × Int)) × (List Bool)) (Unit)) := fun (y18, y21, y24, x25) =>
  cond ((decide (x25 < (a1.length : Int))))
  (Option.bind (idx a1 x25) fun x49 =>
  Option.bind (α := (List (Int × Int × Int)) × (List Bool) × Int) (cond (((decide (x49.1 < 1)) || (decide (x49.1 > 3))))
  (some (y21, y24, 6))
  (Option.bind (F57 a0 (x49.1, x49.2.1, x49.2.2.1, x49.2.2.2) (x49.1 != 3)) fun r62 =>
  cond ((!r62))
  (some (y21, y24, 2))
  (cond ((x49.1 == 2))
  (Option.bind (whileM (F22_L1 y21 y24 x49) 0) fun o71 => Ctl.on o71 (fun (y68, y69, x70) =>
  Option.bind (F56 a0 y69 y68) fun (r124, r125) =>
  some (r125, r124, x70)) (fun _ => none))
  (Option.bind (idx y24 x49.2.1) fun x131 =>
  cond ((!x131))
  (some (y21, y24, 7))
  (cond ((x49.1 == 3))
  (Option.bind (idx y24 x49.2.1) fun x135 =>
  Option.bind (F56 a0 (y24.set x49.2.1.toNat false) y21) fun (r137, r138) =>
  some (r138, r137, 0))
  (Option.bind (appl 24 y21 ([(x49.2.1, x49.2.2.1, 0)] : List (Int × Int × Int))) fun (y146 : List (Int × Int × Int)) =>
  some (y146, y24, 0)))))))
  fun (y55, y58, x59) =>
  Option.bind (appl 8 y18 ([x59] : List Int)) fun (y152 : List Int) =>
  some (.nxt (y152, y55, y58, w64 (x25 + 1))))
  (some (.brk (y18, y21, y24)))
/-- the model of beaconry/beaconryref.Quiet -/
noncomputable def F22 (a0 : Int) (a1 : List (Int × Int × Int × Int)) : Option (((List Int) × Bool × (BitVec 32) × Int)) :=
  Option.bind (mkl a0 1 false) fun (y4 : List Bool) =>
  Option.bind (idx y4 0) fun x10 =>
  Option.bind (whileM (F22_L0 a0 a1) ([], [], y4.set (0 : Int).toNat true, 0)) fun o45 => Ctl.on o45 (fun (y38, y41, y44) =>
  Option.bind (whileM (F22_L3 a0 y44) (0, 0)) fun o161 => Ctl.on o161 (fun x160 =>
  Option.bind (whileM (F22_L4 y41) (0, 0)) fun o175 => Ctl.on o175 (fun x174 =>
  Option.bind (idx y44 0) fun x185 =>
  Option.bind (cond ((!x185)) (Option.bind (F54 0 y41) fun r190 =>
  some (r190 == 0)) (some false)) fun b188 =>
  some (y38, b188, x160, x174)) (fun _ => none)) (fun _ => none)) (fun _ => none)

/-- the model of beaconry/beaconrylaw.QuietPlays -/
noncomputable def F4 (a0 : Int) (a1 : List (Int × Int × Int × Int)) : Option (Bool) :=
  Option.bind (F20 a0 a1) fun (r1, r2) =>
  Option.bind (F21 a0 (a1.length : Int)) fun r8 =>
  Option.bind (α := (List Int) × Bool × (BitVec 32) × Int) (cond ((r8 == 0))
  (Option.bind (F22 a0 a1) fun r19 =>
  some (r19.1, r19.2.1, r19.2.2.1, r19.2.2.2))
  (some ([], false, 0, 0)))
  fun (y13, b14, x15, x16) =>
  Option.bind (cond ((r2 == r8)) (Option.bind (F18 r1.1 y13) fun r27 =>
  some r27) (some false)) fun b25 =>
  some (((b25 && (r1.2.1 == b14)) && (r1.2.2.1 == x15)) && (r1.2.2.2 == x16))
end Go.Proofs.Ythfkdepcnhhepaa
