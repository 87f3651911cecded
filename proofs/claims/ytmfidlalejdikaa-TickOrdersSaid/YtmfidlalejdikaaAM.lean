/-
  Pure models of Go functions, written by a program (gen.py).
-/
import Derived.Test.YtmfidlalejdikaaBk35
namespace Go.Proofs.Ytmfidlalejdikaa
open Go Go.Bk
set_option linter.unusedVariables false
@[reducible] def cTiii (x : Int × Int × Int) : List Value := [I x.1, I x.2.1, I x.2.2]
noncomputable def F15_L0 (a0 : Int) (a1 : List (Int × Int × Int)) : ((List (Int × Int)) × Int) → Option (Ctl ((List (Int × Int)) × Int) ((List (Int × Int))) (Int)) := fun (y6, x7) =>
  cond ((decide (x7 < (a1.length : Int))))
  (Option.bind (idx a1 x7) fun x15 =>
  cond (((decide (x15.1 < 0)) || (decide (x15.1 ≥ a0))))
  (some (.ret 2))
  (cond (((decide (x15.2.1 < 1)) || (decide (x15.2.1 > 3))))
  (some (.ret 6))
  (cond ((x15.2.1 == 1))
  (some (.nxt (y6, w64 (x7 + 1))))
  (cond (((decide (x15.2.2 < 0)) || (decide (x15.2.2 > 20))))
  (some (.ret 4))
  (cond (((mget y6 x15.2.2) != (w64 (x15.2.1 - 2))))
  (some (.ret 3))
  (some (.nxt (mset y6 x15.2.2 (w64 ((mget y6 x15.2.2) + 1)), w64 (x7 + 1)))))))))
  (some (.brk y6))
/-- the model of beaconry/run.Check -/
noncomputable def F15 (a0 : Int) (a1 : List (Int × Int × Int)) : Option (Int) :=
  cond ((((decide (a0 < 1)) || (decide (a0 > 6))) || (decide ((a1.length : Int) > 30))))
  (some 1)
  (Option.bind (whileM (F15_L0 a0 a1) (([] : List (Int × Int)), 0)) fun o11 => Ctl.on o11 (fun y10 =>
  some 0) (fun r => some r))

noncomputable def F16_L1 (x10 : Int × Int × Int) (y20 : List (Int × Int × Int)) : (Int × Int × Int) → Option (Ctl (Int × Int × Int) (Int × Int) (Unit)) := fun (x23, x24, x25) =>
  cond ((decide (x25 < (y20.length : Int))))
  (Option.bind (α := Int × Int) (Option.bind (idx y20 x25) fun x38 =>
  Option.bind (α := Int) (cond (((x38.2.1 == 2) && (x38.2.2 == x10.2.2)))
  (some (w64 (x23 + 1)))
  (some x23))
  fun x42 =>
  cond (((x38.2.1 == 3) && (x38.2.2 == x10.2.2)))
  (some (x42, w64 (x24 + 1)))
  (some (x42, x24)))
  fun (x35, x36) =>
  some (.nxt (x35, x36, w64 (x25 + 1))))
  (some (.brk (x23, x24)))
noncomputable def F16_L0 (a0 : Int) (a1 : List (Int × Int × Int)) : Int → Option (Ctl (Int) (Unit) (Int)) := fun x4 =>
  cond ((decide (x4 < (a1.length : Int))))
  (Option.bind (idx a1 x4) fun x10 =>
  cond (((decide (x10.1 < 0)) || (decide (x10.1 ≥ a0))))
  (some (.ret 2))
  (cond (((decide (x10.2.1 < 1)) || (decide (x10.2.1 > 3))))
  (some (.ret 6))
  (cond ((x10.2.1 == 1))
  (some (.nxt (w64 (x4 + 1))))
  (cond (((decide (x10.2.2 < 0)) || (decide (x10.2.2 > 20))))
  (some (.ret 4))
  (Option.bind (slI a1 0 x4) fun y20 =>
  Option.bind (whileM (F16_L1 x10 y20) (0, 0, 0)) fun o31 => Ctl.on o31 (fun (x29, x30) =>
  cond ((((x10.2.1 == 2) && (decide (x29 > 0))) || ((x10.2.1 == 3) && ((x29 == 0) || (decide (x30 > 0))))))
  (some (.ret 3))
  (some (.nxt (w64 (x4 + 1))))) (fun _ => none))))))
  (some (.brk ()))
/-- the model of beaconry/beaconryref.RunCheck -/
noncomputable def F16 (a0 : Int) (a1 : List (Int × Int × Int)) : Option (Int) :=
  cond ((((decide (a0 < 1)) || (decide (a0 > 6))) || (decide ((a1.length : Int) > 30))))
  (some 1)
  (Option.bind (whileM (F16_L0 a0 a1) 0) fun o6 => Ctl.on o6 (fun _ =>
  some 0) (fun r => some r))

/-- the model of beaconry/beaconrylaw.RunChecks -/
noncomputable def F3 (a0 : Int) (a1 : List (Int × Int × Int)) : Option (Bool) :=
  Option.bind (F15 a0 a1) fun r1 =>
  Option.bind (F16 a0 a1) fun r3 =>
  some (r1 == r3)

noncomputable def F40_L0 (a1 : List (Int × Int × Int)) : ((List (BitVec 32)) × (List (Int × (BitVec 32))) × (List (BitVec 32)) × Int) → Option (Ctl ((List (BitVec 32)) × (List (Int × (BitVec 32))) × (List (BitVec 32)) × Int) ((List (BitVec 32)) × (List (Int × (BitVec 32))) × (List (BitVec 32))) (Unit)) := fun (y12, y13, y14, x15) =>
  cond ((decide (x15 < (a1.length : Int))))
  (Option.bind (α := (List (BitVec 32)) × (List (Int × (BitVec 32))) × (List (BitVec 32))) (Option.bind (idx a1 x15) fun x31 =>
  Option.bind (idx y14 x31.1) fun x34 =>
  Option.bind (idx y12 x15) fun x36 =>
  Option.bind (α := (List (BitVec 32))) (cond ((x31.2.1 == 3))
  (Option.bind (idx (y12.set x15.toNat x34) x15) fun x41 =>
  Option.bind (idx (y12.set x15.toNat x34) x15) fun x43 =>
  some ((y12.set x15.toNat x34).set x15.toNat (x41 ||| (mgetG 0 y13 x31.2.2))))
  (some (y12.set x15.toNat x34)))
  fun y38 =>
  Option.bind (idx y38 x15) fun x45 =>
  Option.bind (shc x15) fun k47 =>
  Option.bind (idx y14 x31.1) fun x49 =>
  cond ((x31.2.1 == 2))
  (Option.bind (idx (y14.set x31.1.toNat (x45 ||| ((1#32) <<< k47))) x31.1) fun x52 =>
  some (y38, msetG y13 x31.2.2 x52, y14.set x31.1.toNat (x45 ||| ((1#32) <<< k47))))
  (some (y38, y13, y14.set x31.1.toNat (x45 ||| ((1#32) <<< k47)))))
  fun (y27, y28, y29) =>
  some (.nxt (y27, y28, y29, w64 (x15 + 1))))
  (some (.brk (y12, y13, y14)))
/-- the model of beaconry/run.Past -/
noncomputable def F40 (a0 : Int) (a1 : List (Int × Int × Int)) : Option ((List (BitVec 32))) :=
  Option.bind (mkl a0 4 0) fun (y2 : List (BitVec 32)) =>
  Option.bind (mkl (a1.length : Int) 4 0) fun (y8 : List (BitVec 32)) =>
  Option.bind (whileM (F40_L0 a1) (y8, ([] : List (Int × (BitVec 32))), y2, 0)) fun o23 => Ctl.on o23 (fun (y20, y21, y22) =>
  some y20) (fun _ => none)

/-- the model of beaconry/run.Ahead -/
noncomputable def F17 (a0 : Int) (a1 : List (Int × Int × Int)) (a2 : Int) (a3 : Int) : Option (Bool × Int) :=
  Option.bind (F15 a0 a1) fun r1 =>
  cond ((r1 != 0))
  (some (false, r1))
  (cond (((decide ((mn a2 a3) < 0)) || (decide ((mx a2 a3) ≥ (a1.length : Int)))))
  (some (false, 4))
  (Option.bind (F40 a0 a1) fun r6 =>
  Option.bind (idx r6 a3) fun x10 =>
  Option.bind (shc a2) fun k12 =>
  some ((((x10 >>> k12) &&& (1#32)) == (1#32)), 0)))

noncomputable def F18_L1 (a0 : List (Int × Int × Int)) (x9 : Int) : ((List (List Bool)) × Int) → Option (Ctl ((List (List Bool)) × Int) ((List (List Bool))) (Unit)) := fun (y25, x26) =>
  cond ((decide (x26 < (a0.length : Int))))
  (Option.bind (idx y25 x9) fun (x34 : List Bool) =>
  Option.bind (idx a0 x9) fun x37 =>
  Option.bind (idx a0 x26) fun x39 =>
  Option.bind (cond ((x37.1 == x39.1)) (some true) (Option.bind (idx a0 x9) fun x44 =>
  Option.bind (cond ((x44.2.1 == 2)) (Option.bind (idx a0 x26) fun x49 =>
  some (x49.2.1 == 3)) (some false)) fun b47 =>
  Option.bind (cond (b47) (Option.bind (idx a0 x9) fun x54 =>
  Option.bind (idx a0 x26) fun x56 =>
  some (x54.2.2 == x56.2.2)) (some false)) fun b52 =>
  some b52)) fun b42 =>
  Option.bind (idx x34 x26) fun x58 =>
  some (.nxt (y25.set x9.toNat (x34.set x26.toNat b42), w64 (x26 + 1))))
  (some (.brk y25))
noncomputable def F18_L4 (a0 : List (Int × Int × Int)) (x61 : Int) (x70 : Int) : ((List (List Bool)) × Int) → Option (Ctl ((List (List Bool)) × Int) ((List (List Bool))) (Unit)) := fun (y78, x79) =>
  cond ((decide (x79 < (a0.length : Int))))
  (Option.bind (idx y78 x70) fun (x87 : List Bool) =>
  Option.bind (idx y78 x70) fun (x90 : List Bool) =>
  Option.bind (idx x90 x79) fun x93 =>
  Option.bind (cond (x93) (some true) (Option.bind (idx y78 x70) fun (x98 : List Bool) =>
  Option.bind (idx x98 x61) fun x101 =>
  Option.bind (cond (x101) (Option.bind (idx y78 x61) fun (x106 : List Bool) =>
  Option.bind (idx x106 x79) fun x109 =>
  some x109) (some false)) fun b104 =>
  some b104)) fun b96 =>
  Option.bind (idx x87 x79) fun x111 =>
  some (.nxt (y78.set x70.toNat (x87.set x79.toNat b96), w64 (x79 + 1))))
  (some (.brk y78))
noncomputable def F18_L3 (a0 : List (Int × Int × Int)) (x61 : Int) : ((List (List Bool)) × Int) → Option (Ctl ((List (List Bool)) × Int) ((List (List Bool))) (Unit)) := fun (y69, x70) =>
  cond ((decide (x70 < (a0.length : Int))))
  (Option.bind (whileM (F18_L4 a0 x61 x70) (y69, 0)) fun o83 => Ctl.on o83 (fun y82 =>
  some (.nxt (y82, w64 (x70 + 1)))) (fun _ => none))
  (some (.brk y69))
noncomputable def F18_L2 (a0 : List (Int × Int × Int)) : ((List (List Bool)) × Int) → Option (Ctl ((List (List Bool)) × Int) ((List (List Bool))) (Unit)) := fun (y60, x61) =>
  cond ((decide (x61 < (a0.length : Int))))
  (Option.bind (whileM (F18_L3 a0 x61) (y60, 0)) fun o74 => Ctl.on o74 (fun y73 =>
  some (.nxt (y73, w64 (x61 + 1)))) (fun _ => none))
  (some (.brk y60))
noncomputable def F18_L0 (a0 : List (Int × Int × Int)) : ((List (List Bool)) × Int) → Option (Ctl ((List (List Bool)) × Int) ((List (List Bool))) (Unit)) := fun (y7, x9) =>
  cond ((decide (x9 < (a0.length : Int))))
  (Option.bind (mkl (a0.length : Int) 1 false) fun (y19 : List Bool) =>
  Option.bind (idx y7 x9) fun (x23 : List Bool) =>
  Option.bind (whileM (F18_L1 a0 x9) (y7.set x9.toNat y19, w64 (x9 + 1))) fun o30 => Ctl.on o30 (fun y29 =>
  some (.nxt (y29, w64 (x9 + 1)))) (fun _ => none))
  (some (.brk y7))
/-- the model of beaconry/beaconryref.Ahead -/
noncomputable def F18 (a0 : List (Int × Int × Int)) : Option ((List (List Bool))) :=
  Option.bind (mkl (a0.length : Int) 24 ([] : List Bool)) fun (y2 : List (List Bool)) =>
  Option.bind (whileM (F18_L0 a0) (y2, 0)) fun o15 => Ctl.on o15 (fun y13 =>
  Option.bind (whileM (F18_L2 a0) (y13, 0)) fun o65 => Ctl.on o65 (fun y64 =>
  some y64) (fun _ => none)) (fun _ => none)

/-- the model of beaconry/beaconrylaw.RunAheads -/
noncomputable def F4 (a0 : Int) (a1 : List (Int × Int × Int)) (a2 : Int) (a3 : Int) : Option (Bool) :=
  Option.bind (F17 a0 a1 a2 a3) fun (r1, r2) =>
  Option.bind (F16 a0 a1) fun r4 =>
  Option.bind (α := Int) (cond (((r4 == 0) && ((((decide (a2 < 0)) || (decide (a2 ≥ (a1.length : Int)))) || (decide (a3 < 0))) || (decide (a3 ≥ (a1.length : Int))))))
  (some 4)
  (some r4))
  fun x10 =>
  cond ((x10 != 0))
  (some ((r2 == x10) && (!r1)))
  (Option.bind (cond ((r2 == 0)) (Option.bind (F18 a1) fun r18 =>
  Option.bind (idx r18 a2) fun (x23 : List Bool) =>
  Option.bind (idx x23 a3) fun x26 =>
  some (r1 == x26)) (some false)) fun b16 =>
  some b16)

noncomputable def F19_L1 (x9 : Int) (x17 : BitVec 32) : (Int × Int) → Option (Ctl (Int × Int) (Int) (Unit)) := fun (x19, x20) =>
  cond ((decide (x20 < x9)))
  (Option.bind (shc x20) fun k28 =>
  some (.nxt (w64 (x19 + (((1#32) - ((x17 >>> k28) &&& (1#32))).toNat : Int)), w64 (x20 + 1))))
  (some (.brk x19))
noncomputable def F19_L0 (r4 : List (BitVec 32)) : (Int × Int) → Option (Ctl (Int × Int) (Int) (Unit)) := fun (x8, x9) =>
  cond ((decide (x9 < (r4.length : Int))))
  (Option.bind (idx r4 x9) fun x17 =>
  Option.bind (whileM (F19_L1 x9 x17) (x8, 0)) fun o24 => Ctl.on o24 (fun x23 =>
  some (.nxt (x23, w64 (x9 + 1)))) (fun _ => none))
  (some (.brk x8))
/-- the model of beaconry/run.Apart -/
noncomputable def F19 (a0 : Int) (a1 : List (Int × Int × Int)) : Option (Int × Int) :=
  Option.bind (F15 a0 a1) fun r1 =>
  cond ((r1 != 0))
  (some (0, r1))
  (Option.bind (F40 a0 a1) fun r4 =>
  Option.bind (whileM (F19_L0 r4) (0, 0)) fun o13 => Ctl.on o13 (fun x12 =>
  some (x12, 0)) (fun _ => none))

noncomputable def F5_L1 (r8 : List (List Bool)) (x14 : Int) : (Int × Int) → Option (Ctl (Int × Int) (Int) (Unit)) := fun (x22, x23) =>
  cond ((decide (x23 < x14)))
  (Option.bind (α := Int) (Option.bind (idx r8 x14) fun (x33 : List Bool) =>
  Option.bind (idx x33 x23) fun x36 =>
  Option.bind (cond ((!x36)) (Option.bind (idx r8 x23) fun (x41 : List Bool) =>
  Option.bind (idx x41 x14) fun x44 =>
  some (!x44)) (some false)) fun b39 =>
  cond (b39)
  (some (w64 (x22 + 1)))
  (some x22))
  fun x31 =>
  some (.nxt (x31, w64 (x23 + 1))))
  (some (.brk x22))
noncomputable def F5_L0 (a1 : List (Int × Int × Int)) (r8 : List (List Bool)) : (Int × Int) → Option (Ctl (Int × Int) (Int) (Unit)) := fun (x13, x14) =>
  cond ((decide (x14 < (a1.length : Int))))
  (Option.bind (whileM (F5_L1 r8 x14) (x13, 0)) fun o27 => Ctl.on o27 (fun x26 =>
  some (.nxt (x26, w64 (x14 + 1)))) (fun _ => none))
  (some (.brk x13))
/-- the model of beaconry/beaconrylaw.RunAparts -/
noncomputable def F5 (a0 : Int) (a1 : List (Int × Int × Int)) : Option (Bool) :=
  Option.bind (F19 a0 a1) fun (r1, r2) =>
  Option.bind (F16 a0 a1) fun r4 =>
  cond ((r4 != 0))
  (some ((r2 == r4) && (r1 == 0)))
  (Option.bind (F18 a1) fun r8 =>
  Option.bind (whileM (F5_L0 a1 r8) (0, 0)) fun o18 => Ctl.on o18 (fun x17 =>
  some ((r2 == 0) && (r1 == x17))) (fun _ => none))

noncomputable def F20_L0 (a1 : List (Int × Int × Int)) (a2 : List Int) (r5 : List (BitVec 32)) : ((BitVec 32) × Bool × Int) → Option (Ctl ((BitVec 32) × Bool × Int) (Bool) (Bool × Int)) := fun (x9, b10, x11) =>
  cond ((decide (x11 < (a2.length : Int))))
  (Option.bind (idx a2 x11) fun x20 =>
  Option.bind (cond (((decide (x20 < 0)) || (decide (x20 ≥ (a1.length : Int))))) (some true) (Option.bind (shc x20) fun k26 =>
  some (((x9 >>> k26) &&& (1#32)) == (1#32)))) fun b24 =>
  cond (b24)
  (some (.ret (false, 3)))
  (Option.bind (cond (b10) (Option.bind (idx r5 x20) fun x32 =>
  some ((x32 &&& ~~~x9) == (0#32))) (some false)) fun b30 =>
  Option.bind (shc x20) fun k34 =>
  some (.nxt ((x9 ||| ((1#32) <<< k34)), b30, w64 (x11 + 1)))))
  (some (.brk b10))
/-- the model of beaconry/run.Again -/
noncomputable def F20 (a0 : Int) (a1 : List (Int × Int × Int)) (a2 : List Int) : Option (Bool × Int) :=
  Option.bind (F15 a0 a1) fun r1 =>
  cond ((r1 != 0))
  (some (false, r1))
  (cond (((a2.length : Int) != (a1.length : Int)))
  (some (false, 3))
  (Option.bind (F40 a0 a1) fun r5 =>
  Option.bind (whileM (F20_L0 a1 a2 r5) (0#32, true, 0)) fun o16 => Ctl.on o16 (fun b15 =>
  some (b15, 0)) (fun r => some r)))

noncomputable def F41_L0 (a0 : List Int) (a1 : Int) : Int → Option (Ctl (Int) (Unit) (Bool)) := fun x1 =>
  cond ((decide (x1 < (a0.length : Int))))
  (Option.bind (idx a0 x1) fun x7 =>
  cond ((a1 == x7))
  (some (.ret true))
  (some (.nxt (w64 (x1 + 1)))))
  (some (.brk ()))
/-- the model of beaconry/beaconryref.Has -/
noncomputable def F41 (a0 : List Int) (a1 : Int) : Option (Bool) :=
  Option.bind (whileM (F41_L0 a0 a1) 0) fun o3 => Ctl.on o3 (fun _ =>
  some false) (fun r => some r)

noncomputable def F21_L0 (a0 : Int) (a1 : List Int) : Int → Option (Ctl (Int) (Unit) (Bool)) := fun x2 =>
  cond ((decide (x2 < a0)))
  (Option.bind (F41 a1 x2) fun r8 =>
  cond ((!r8))
  (some (.ret false))
  (some (.nxt (w64 (x2 + 1)))))
  (some (.brk ()))
/-- the model of beaconry/beaconryref.Once -/
noncomputable def F21 (a0 : Int) (a1 : List Int) : Option (Bool) :=
  cond (((a1.length : Int) != a0))
  (some false)
  (Option.bind (whileM (F21_L0 a0 a1) 0) fun o4 => Ctl.on o4 (fun _ =>
  some true) (fun r => some r))

noncomputable def F22_L1 (a1 : List Int) (r1 : List (List Bool)) (x6 : Int) : Int → Option (Ctl (Int) (Unit) (Bool)) := fun x12 =>
  cond ((decide (x12 < (a1.length : Int))))
  (Option.bind (idx a1 x12) fun x18 =>
  Option.bind (idx r1 x18) fun (x20 : List Bool) =>
  Option.bind (idx a1 x6) fun x23 =>
  Option.bind (idx x20 x23) fun x25 =>
  cond (x25)
  (some (.ret false))
  (some (.nxt (w64 (x12 + 1)))))
  (some (.brk ()))
noncomputable def F22_L0 (a1 : List Int) (r1 : List (List Bool)) : Int → Option (Ctl (Int) (Unit) (Bool)) := fun x6 =>
  cond ((decide (x6 < (a1.length : Int))))
  (Option.bind (whileM (F22_L1 a1 r1 x6) (w64 (x6 + 1))) fun o14 => Ctl.on o14 (fun _ =>
  some (.nxt (w64 (x6 + 1)))) (fun r => some (.ret r)))
  (some (.brk ()))
/-- the model of beaconry/beaconryref.Again -/
noncomputable def F22 (a0 : List (Int × Int × Int)) (a1 : List Int) : Option (Bool) :=
  Option.bind (F18 a0) fun r1 =>
  Option.bind (whileM (F22_L0 a1 r1) 0) fun o8 => Ctl.on o8 (fun _ =>
  some true) (fun r => some r)

/-- the model of beaconry/beaconrylaw.RunAgains -/
noncomputable def F6 (a0 : Int) (a1 : List (Int × Int × Int)) (a2 : List Int) : Option (Bool) :=
  Option.bind (F20 a0 a1 a2) fun (r1, r2) =>
  Option.bind (F16 a0 a1) fun r4 =>
  Option.bind (cond ((r4 == 0)) (Option.bind (F21 (a1.length : Int) a2) fun r9 =>
  some (!r9)) (some false)) fun b7 =>
  Option.bind (α := Int) (cond (b7)
  (some 3)
  (some r4))
  fun x11 =>
  cond ((x11 != 0))
  (some ((r2 == x11) && (!r1)))
  (Option.bind (cond ((r2 == 0)) (Option.bind (F22 a1 a2) fun r19 =>
  some (r1 == r19)) (some false)) fun b17 =>
  some b17)

noncomputable def F54_L0 (a0 : List Int) : (Int × Int) → Option (Ctl (Int × Int) (Int) (Unit)) := fun (x4, x5) =>
  cond ((decide (x5 < (a0.length : Int))))
  (Option.bind (idx a0 x5) fun x13 =>
  some (.nxt (mn x4 x13, w64 (x5 + 1))))
  (some (.brk x4))
/-- the model of slices.Min[[]int,int] -/
noncomputable def F54 (a0 : List Int) : Option (Int) :=
  cond ((decide ((a0.length : Int) < 1)))
  (none)
  (Option.bind (idx a0 0) fun x2 =>
  Option.bind (whileM (F54_L0 a0) (x2, 1)) fun o9 => Ctl.on o9 (fun x8 =>
  some x8) (fun _ => none))

noncomputable def F55_L0 (a0 : List Int) (a1 : List Int) : Int → Option (Ctl (Int) (Unit) (Bool)) := fun x2 =>
  cond ((decide (x2 < (a0.length : Int))))
  (Option.bind (idx a0 x2) fun x8 =>
  Option.bind (idx a1 x2) fun x10 =>
  cond ((x8 != x10))
  (some (.ret false))
  (some (.nxt (w64 (x2 + 1)))))
  (some (.brk ()))
/-- the model of slices.Equal[[]int,int] -/
noncomputable def F55 (a0 : List Int) (a1 : List Int) : Option (Bool) :=
  cond (((a0.length : Int) != (a1.length : Int)))
  (some false)
  (Option.bind (whileM (F55_L0 a0 a1) 0) fun o4 => Ctl.on o4 (fun _ =>
  some true) (fun r => some r))

noncomputable def F45_L0 (a1 : List (Int × Int × Int)) (a2 : List Int) : ((List Int) × (BitVec 32) × Int) → Option (Ctl ((List Int) × (BitVec 32) × Int) ((List Int) × (BitVec 32)) (Unit)) := fun (y6, x7, x8) =>
  cond ((decide (x8 < (a1.length : Int))))
  (Option.bind (α := (List Int) × (BitVec 32)) (Option.bind (idx a1 x8) fun x21 =>
  Option.bind (idx y6 x21.1) fun x24 =>
  Option.bind (idx a2 x21.1) fun x26 =>
  cond ((decide (x24 < x26)))
  (Option.bind (shc x8) fun k29 =>
  Option.bind (idx y6 x21.1) fun x31 =>
  Option.bind (idx y6 x21.1) fun x33 =>
  some (y6.set x21.1.toNat (w64 (x31 + 1)), (x7 ||| ((1#32) <<< k29))))
  (some (y6, x7)))
  fun (y18, x19) =>
  some (.nxt (y18, x19, w64 (x8 + 1))))
  (some (.brk (y6, x7)))
/-- the model of beaconry/cut.in -/
noncomputable def F45 (a0 : Int) (a1 : List (Int × Int × Int)) (a2 : List Int) : Option ((BitVec 32) × Int) :=
  cond (((a2.length : Int) != a0))
  (some (0#32, 3))
  (Option.bind (mkl a0 8 0) fun (y2 : List Int) =>
  Option.bind (whileM (F45_L0 a1 a2) (y2, 0#32, 0)) fun o14 => Ctl.on o14 (fun (y12, x13) =>
  Option.bind (F54 a2) fun r35 =>
  Option.bind (cond ((decide (r35 < 0))) (some true) (Option.bind (F55 y12 a2) fun r40 =>
  some (!r40))) fun b38 =>
  cond (b38)
  (some (0#32, 4))
  (some (x13, 0))) (fun _ => none))

noncomputable def F46_L0 (a0 : List (BitVec 32)) (a1 : BitVec 32) : Int → Option (Ctl (Int) (Unit) (Bool)) := fun x1 =>
  cond ((decide (x1 < (a0.length : Int))))
  (Option.bind (idx a0 x1) fun x7 =>
  Option.bind (shc x1) fun k9 =>
  cond (((((a1 >>> k9) &&& (1#32)) == (1#32)) && ((x7 &&& ~~~a1) != (0#32))))
  (some (.ret false))
  (some (.nxt (w64 (x1 + 1)))))
  (some (.brk ()))
/-- the model of beaconry/cut.whole -/
noncomputable def F46 (a0 : List (BitVec 32)) (a1 : BitVec 32) : Option (Bool) :=
  Option.bind (whileM (F46_L0 a0 a1) 0) fun o3 => Ctl.on o3 (fun _ =>
  some true) (fun r => some r)

/-- the model of beaconry/cut.Is -/
noncomputable def F33 (a0 : Int) (a1 : List (Int × Int × Int)) (a2 : List Int) : Option (Bool × Int) :=
  Option.bind (F15 a0 a1) fun r1 =>
  cond ((r1 != 0))
  (some (false, r1))
  (Option.bind (F45 a0 a1 a2) fun (r4, r5) =>
  cond ((r5 != 0))
  (some (false, r5))
  (Option.bind (F40 a0 a1) fun r8 =>
  Option.bind (F46 r8 r4) fun r12 =>
  some (r12, 0)))

noncomputable def F35_L1 (a1 : List (Int × Int × Int)) (a2 : List Int) (x7 : Int) : ((List Bool) × Int × Int) → Option (Ctl ((List Bool) × Int × Int) ((List Bool) × Int) (Unit)) := fun (y15, x16, x17) =>
  cond ((decide (x17 < (a1.length : Int))))
  (Option.bind (α := (List Bool) × Int) (Option.bind (idx a1 x17) fun x30 =>
  cond ((x30.1 == x7))
  (Option.bind (idx a2 x7) fun x34 =>
  Option.bind (idx y15 x17) fun x36 =>
  some (y15.set x17.toNat (decide (x16 < x34)), w64 (x16 + 1)))
  (some (y15, x16)))
  fun (y27, x28) =>
  some (.nxt (y27, x28, w64 (x17 + 1))))
  (some (.brk (y15, x16)))
noncomputable def F35_L0 (a0 : Int) (a1 : List (Int × Int × Int)) (a2 : List Int) : ((List Bool) × Int) → Option (Ctl ((List Bool) × Int) ((List Bool)) ((List Bool) × Bool)) := fun (y6, x7) =>
  cond ((decide (x7 < a0)))
  (Option.bind (whileM (F35_L1 a1 a2 x7) (y6, 0, 0)) fun o23 => Ctl.on o23 (fun (y21, x22) =>
  Option.bind (idx a2 x7) fun x38 =>
  Option.bind (cond ((decide (x38 < 0))) (some true) (Option.bind (idx a2 x7) fun x43 =>
  some (decide (x43 > x22)))) fun b41 =>
  cond (b41)
  (some (.ret ([], false)))
  (some (.nxt (y21, w64 (x7 + 1))))) (fun _ => none))
  (some (.brk y6))
/-- the model of beaconry/beaconryref.In -/
noncomputable def F35 (a0 : Int) (a1 : List (Int × Int × Int)) (a2 : List Int) : Option ((List Bool) × Bool) :=
  Option.bind (mkl (a1.length : Int) 1 false) fun (y2 : List Bool) =>
  Option.bind (whileM (F35_L0 a0 a1 a2) (y2, 0)) fun o11 => Ctl.on o11 (fun y10 =>
  some (y10, true)) (fun r => some r)

/-- the model of beaconry/beaconrylaw.cutCode -/
noncomputable def F34 (a0 : Int) (a1 : List (Int × Int × Int)) (a2 : List Int) : Option (Int) :=
  Option.bind (F16 a0 a1) fun r1 =>
  Option.bind (α := Int) (cond (((r1 == 0) && ((a2.length : Int) != a0)))
  (some 3)
  (some r1))
  fun x4 =>
  Option.bind (α := Int) (cond ((x4 == 0))
  (Option.bind (F35 a0 a1 a2) fun (r10, r11) =>
  cond ((!r11))
  (some 4)
  (some x4))
  (some x4))
  fun x7 =>
  some x7

noncomputable def F36_L1 (a0 : List (Int × Int × Int)) (a1 : List Bool) (r1 : List (List Bool)) (x6 : Int) : Int → Option (Ctl (Int) (Unit) (Bool)) := fun x12 =>
  cond ((decide (x12 < (a0.length : Int))))
  (Option.bind (idx a1 x12) fun x18 =>
  Option.bind (cond (x18) (Option.bind (idx r1 x6) fun (x23 : List Bool) =>
  Option.bind (idx x23 x12) fun x26 =>
  some x26) (some false)) fun b21 =>
  Option.bind (cond (b21) (Option.bind (idx a1 x6) fun x31 =>
  some (!x31)) (some false)) fun b29 =>
  cond (b29)
  (some (.ret false))
  (some (.nxt (w64 (x12 + 1)))))
  (some (.brk ()))
noncomputable def F36_L0 (a0 : List (Int × Int × Int)) (a1 : List Bool) (r1 : List (List Bool)) : Int → Option (Ctl (Int) (Unit) (Bool)) := fun x6 =>
  cond ((decide (x6 < (a0.length : Int))))
  (Option.bind (whileM (F36_L1 a0 a1 r1 x6) 0) fun o14 => Ctl.on o14 (fun _ =>
  some (.nxt (w64 (x6 + 1)))) (fun r => some (.ret r)))
  (some (.brk ()))
/-- the model of beaconry/beaconryref.Whole -/
noncomputable def F36 (a0 : List (Int × Int × Int)) (a1 : List Bool) : Option (Bool) :=
  Option.bind (F18 a0) fun r1 =>
  Option.bind (whileM (F36_L0 a0 a1 r1) 0) fun o8 => Ctl.on o8 (fun _ =>
  some true) (fun r => some r)

/-- the model of beaconry/beaconrylaw.CutIs -/
noncomputable def F12 (a0 : Int) (a1 : List (Int × Int × Int)) (a2 : List Int) : Option (Bool) :=
  Option.bind (F33 a0 a1 a2) fun (r1, r2) =>
  Option.bind (F34 a0 a1 a2) fun r4 =>
  cond ((r4 != 0))
  (some ((r2 == r4) && (!r1)))
  (Option.bind (F35 a0 a1 a2) fun (r8, r9) =>
  Option.bind (cond ((r2 == 0)) (Option.bind (F36 a1 r8) fun r16 =>
  some (r1 == r16)) (some false)) fun b14 =>
  some b14)

noncomputable def F42_L0 (a1 : List (Int × Int × Int)) : ((List Int) × (List (Int × Int)) × (List Int) × Int) → Option (Ctl ((List Int) × (List (Int × Int)) × (List Int) × Int) ((List Int) × (List (Int × Int)) × (List Int)) (Unit)) := fun (y12, y13, y14, x15) =>
  cond ((decide (x15 < (a1.length : Int))))
  (Option.bind (α := (List Int) × (List (Int × Int)) × (List Int)) (Option.bind (idx a1 x15) fun x31 =>
  Option.bind (idx y14 x31.1) fun x34 =>
  Option.bind (α := Int) (cond ((x31.2.1 == 3))
  (some (mx x34 (mget y13 x31.2.2)))
  (some x34))
  fun x36 =>
  Option.bind (α := (List Int) × (List Int)) (Option.bind (idx y12 x15) fun xq39_7_1 =>
  Option.bind (idx y14 x31.1) fun xq39_9_1 =>
  some (y12.set x15.toNat (w64 (x36 + 1)), y14.set x31.1.toNat (w64 (x36 + 1))))
  fun (y40, y41) =>
  cond ((x31.2.1 == 2))
  (some (y40, mset y13 x31.2.2 (w64 (x36 + 1)), y41))
  (some (y40, y13, y41)))
  fun (y27, y28, y29) =>
  some (.nxt (y27, y28, y29, w64 (x15 + 1))))
  (some (.brk (y12, y13, y14)))
/-- the model of beaconry/tick.ticks -/
noncomputable def F42 (a0 : Int) (a1 : List (Int × Int × Int)) : Option ((List Int)) :=
  Option.bind (mkl a0 8 0) fun (y2 : List Int) =>
  Option.bind (mkl (a1.length : Int) 8 0) fun (y8 : List Int) =>
  Option.bind (whileM (F42_L0 a1) (y8, ([] : List (Int × Int)), y2, 0)) fun o23 => Ctl.on o23 (fun (y20, y21, y22) =>
  some y20) (fun _ => none)

/-- the model of beaconry/tick.Ticks -/
noncomputable def F23 (a0 : Int) (a1 : List (Int × Int × Int)) : Option ((List Int) × Int) :=
  Option.bind (F15 a0 a1) fun r2 =>
  cond ((r2 != 0))
  (some ([], r2))
  (Option.bind (F42 a0 a1) fun r5 =>
  some (r5, 0))

noncomputable def F25_L1 (r2 : List (List Bool)) (x12 : Int) : ((List Int) × Int) → Option (Ctl ((List Int) × Int) ((List Int)) (Unit)) := fun (y20, x21) =>
  cond ((decide (x21 < x12)))
  (Option.bind (α := (List Int)) (Option.bind (idx r2 x21) fun (x31 : List Bool) =>
  Option.bind (idx x31 x12) fun x34 =>
  Option.bind (cond (x34) (Option.bind (idx y20 x21) fun x39 =>
  Option.bind (idx y20 x12) fun x41 =>
  some (decide (x39 > x41))) (some false)) fun b37 =>
  cond (b37)
  (Option.bind (idx y20 x21) fun x44 =>
  Option.bind (idx y20 x12) fun x46 =>
  some (y20.set x12.toNat x44))
  (some y20))
  fun y29 =>
  some (.nxt (y29, w64 (x21 + 1))))
  (some (.brk y20))
noncomputable def F25_L0 (a0 : List (Int × Int × Int)) (r2 : List (List Bool)) : ((List Int) × Int) → Option (Ctl ((List Int) × Int) ((List Int)) (Unit)) := fun (y11, x12) =>
  cond ((decide (x12 < (a0.length : Int))))
  (Option.bind (whileM (F25_L1 r2 x12) (y11, 0)) fun o25 => Ctl.on o25 (fun y24 =>
  Option.bind (idx y24 x12) fun x48 =>
  Option.bind (idx y24 x12) fun x50 =>
  some (.nxt (y24.set x12.toNat (w64 (x48 + 1)), w64 (x12 + 1)))) (fun _ => none))
  (some (.brk y11))
/-- the model of beaconry/beaconryref.Ticks -/
noncomputable def F25 (a0 : List (Int × Int × Int)) : Option ((List Int)) :=
  Option.bind (F18 a0) fun r2 =>
  Option.bind (mkl (a0.length : Int) 8 0) fun (y7 : List Int) =>
  Option.bind (whileM (F25_L0 a0 r2) (y7, 0)) fun o16 => Ctl.on o16 (fun y15 =>
  some y15) (fun _ => none)

noncomputable def F24_L0 (a0 : List Int) (a1 : List Int) : Int → Option (Ctl (Int) (Unit) (Bool)) := fun x2 =>
  cond ((decide (x2 < (a0.length : Int))))
  (Option.bind (idx a0 x2) fun x8 =>
  Option.bind (idx a1 x2) fun x10 =>
  cond ((x8 != x10))
  (some (.ret false))
  (some (.nxt (w64 (x2 + 1)))))
  (some (.brk ()))
/-- the model of beaconry/beaconryref.Ints -/
noncomputable def F24 (a0 : List Int) (a1 : List Int) : Option (Bool) :=
  cond (((a0.length : Int) != (a1.length : Int)))
  (some false)
  (Option.bind (whileM (F24_L0 a0 a1) 0) fun o4 => Ctl.on o4 (fun _ =>
  some true) (fun r => some r))

/-- the model of beaconry/beaconrylaw.TickTells -/
noncomputable def F7 (a0 : Int) (a1 : List (Int × Int × Int)) : Option (Bool) :=
  Option.bind (F23 a0 a1) fun (r1, r2) =>
  Option.bind (F16 a0 a1) fun r6 =>
  cond ((r6 != 0))
  (some ((r2 == r6) && ((r1.length : Int) == 0)))
  (Option.bind (cond ((r2 == 0)) (Option.bind (F25 a1) fun r13 =>
  Option.bind (F24 r1 r13) fun r17 =>
  some r17) (some false)) fun b11 =>
  some b11)
end Go.Proofs.Ytmfidlalejdikaa
