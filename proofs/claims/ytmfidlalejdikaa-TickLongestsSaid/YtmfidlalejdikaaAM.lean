/-
  Pure models of Go functions, written by a program (gen.py).
-/
import Derived.Test.YtmfidlalejdikaaBk15
namespace Go.Proofs.Ytmfidlalejdikaa
open Go Go.Bk
set_option linter.unusedVariables false
@[reducible] def cTiii (x : Int × Int × Int) : List Value := [I x.1, I x.2.1, I x.2.2]
noncomputable def F15_L0 (a0 : Int) (a1 : List (Int × Int × Int)) : ((List (Int × Int)) × Int) → Option (Ctl ((List (Int × Int)) × Int) ((List (Int × Int))) (Int)) := fun (y6, x7) =>
  cond ((decide (x7 < (a1.length : Int))))
  (Option.bind (idx a1 x7) fun x15 =>
  cond (((decide (x15.1 < 0)) || (decide (x15.1 ≥ a0))))
  (some (.ret 2))
  (cond (((decide (x15.2.1 < 1)) || (decide (x15.2.1 > 3))))
  (some (.ret 6))
  (cond ((x15.2.1 == 1))
  (some (.nxt (y6, w64 (x7 + 1))))
  (cond (((decide (x15.2.2 < 0)) || (decide (x15.2.2 > 20))))
  (some (.ret 4))
  (cond (((mget y6 x15.2.2) != (w64 (x15.2.1 - 2))))
  (some (.ret 3))
  (some (.nxt (mset y6 x15.2.2 (w64 ((mget y6 x15.2.2) + 1)), w64 (x7 + 1)))))))))
  (some (.brk y6))
/-- the model of beaconry/run.Check -/
noncomputable def F15 (a0 : Int) (a1 : List (Int × Int × Int)) : Option (Int) :=
  cond ((((decide (a0 < 1)) || (decide (a0 > 6))) || (decide ((a1.length : Int) > 30))))
  (some 1)
  (Option.bind (whileM (F15_L0 a0 a1) (([] : List (Int × Int)), 0)) fun o11 => Ctl.on o11 (fun y10 =>
  some 0) (fun r => some r))

noncomputable def F16_L1 (x10 : Int × Int × Int) (y20 : List (Int × Int × Int)) : (Int × Int × Int) → Option (Ctl (Int × Int × Int) (Int × Int) (Unit)) := fun (x23, x24, x25) =>
  cond ((decide (x25 < (y20.length : Int))))
  (Option.bind (α := Int × Int) (Option.bind (idx y20 x25) fun x38 =>
  Option.bind (α := Int) (cond (((x38.2.1 == 2) && (x38.2.2 == x10.2.2)))
  (some (w64 (x23 + 1)))
  (some x23))
  fun x42 =>
  cond (((x38.2.1 == 3) && (x38.2.2 == x10.2.2)))
  (some (x42, w64 (x24 + 1)))
  (some (x42, x24)))
  fun (x35, x36) =>
  some (.nxt (x35, x36, w64 (x25 + 1))))
  (some (.brk (x23, x24)))
noncomputable def F16_L0 (a0 : Int) (a1 : List (Int × Int × Int)) : Int → Option (Ctl (Int) (Unit) (Int)) := fun x4 =>
  cond ((decide (x4 < (a1.length : Int))))
  (Option.bind (idx a1 x4) fun x10 =>
  cond (((decide (x10.1 < 0)) || (decide (x10.1 ≥ a0))))
  (some (.ret 2))
  (cond (((decide (x10.2.1 < 1)) || (decide (x10.2.1 > 3))))
  (some (.ret 6))
  (cond ((x10.2.1 == 1))
  (some (.nxt (w64 (x4 + 1))))
  (cond (((decide (x10.2.2 < 0)) || (decide (x10.2.2 > 20))))
  (some (.ret 4))
  (Option.bind (slI a1 0 x4) fun y20 =>
  Option.bind (whileM (F16_L1 x10 y20) (0, 0, 0)) fun o31 => Ctl.on o31 (fun (x29, x30) =>
  cond ((((x10.2.1 == 2) && (decide (x29 > 0))) || ((x10.2.1 == 3) && ((x29 == 0) || (decide (x30 > 0))))))
  (some (.ret 3))
  (some (.nxt (w64 (x4 + 1))))) (fun _ => none))))))
  (some (.brk ()))
/-- the model of beaconry/beaconryref.RunCheck -/
noncomputable def F16 (a0 : Int) (a1 : List (Int × Int × Int)) : Option (Int) :=
  cond ((((decide (a0 < 1)) || (decide (a0 > 6))) || (decide ((a1.length : Int) > 30))))
  (some 1)
  (Option.bind (whileM (F16_L0 a0 a1) 0) fun o6 => Ctl.on o6 (fun _ =>
  some 0) (fun r => some r))

/-- the model of beaconry/beaconrylaw.RunChecks -/
noncomputable def F3 (a0 : Int) (a1 : List (Int × Int × Int)) : Option (Bool) :=
  Option.bind (F15 a0 a1) fun r1 =>
  Option.bind (F16 a0 a1) fun r3 =>
  some (r1 == r3)

noncomputable def F40_L0 (a1 : List (Int × Int × Int)) : ((List (BitVec 32)) × (List (Int × (BitVec 32))) × (List (BitVec 32)) × Int) → Option (Ctl ((List (BitVec 32)) × (List (Int × (BitVec 32))) × (List (BitVec 32)) × Int) ((List (BitVec 32)) × (List (Int × (BitVec 32))) × (List (BitVec 32))) (Unit)) := fun (y12, y14, y15, x17) =>
  cond ((decide (x17 < (a1.length : Int))))
  (Option.bind (α := (List (BitVec 32)) × (List (Int × (BitVec 32))) × (List (BitVec 32))) (Option.bind (idx a1 x17) fun x39 =>
  Option.bind (idx y15 x39.1) fun x42 =>
  Option.bind (idx y12 x17) fun x44 =>
  Option.bind (α := (List (BitVec 32))) (cond ((x39.2.1 == 3))
  (Option.bind (idx (y12.set x17.toNat x42) x17) fun x50 =>
  Option.bind (idx (y12.set x17.toNat x42) x17) fun x52 =>
  some ((y12.set x17.toNat x42).set x17.toNat (x50 ||| (mgetG 0 y14 x39.2.2))))
  (some (y12.set x17.toNat x42)))
  fun y46 =>
  Option.bind (idx y46 x17) fun x54 =>
  Option.bind (shc x17) fun k56 =>
  Option.bind (idx y15 x39.1) fun x58 =>
  cond ((x39.2.1 == 2))
  (Option.bind (idx (y15.set x39.1.toNat (x54 ||| ((1#32) <<< k56))) x39.1) fun x61 =>
  some (y46, msetG y14 x39.2.2 x61, y15.set x39.1.toNat (x54 ||| ((1#32) <<< k56))))
  (some (y46, y14, y15.set x39.1.toNat (x54 ||| ((1#32) <<< k56)))))
  fun (y33, y35, y36) =>
  some (.nxt (y33, y35, y36, w64 (x17 + 1))))
  (some (.brk (y12, y14, y15)))
/-- the model of beaconry/run.Past -/
noncomputable def F40 (a0 : Int) (a1 : List (Int × Int × Int)) : Option ((List (BitVec 32))) :=
  Option.bind (mkl a0 4 0) fun (y2 : List (BitVec 32)) =>
  Option.bind (mkl (a1.length : Int) 4 0) fun (y8 : List (BitVec 32)) =>
  Option.bind (whileM (F40_L0 a1) (y8, ([] : List (Int × (BitVec 32))), y2, 0)) fun o29 => Ctl.on o29 (fun (y24, y26, y27) =>
  some y24) (fun _ => none)

/-- the model of beaconry/run.Ahead -/
noncomputable def F17 (a0 : Int) (a1 : List (Int × Int × Int)) (a2 : Int) (a3 : Int) : Option (Bool × Int) :=
  Option.bind (F15 a0 a1) fun r1 =>
  cond ((r1 != 0))
  (some (false, r1))
  (cond (((decide ((mn a2 a3) < 0)) || (decide ((mx a2 a3) ≥ (a1.length : Int)))))
  (some (false, 4))
  (Option.bind (F40 a0 a1) fun r6 =>
  Option.bind (idx r6 a3) fun x10 =>
  Option.bind (shc a2) fun k12 =>
  some ((((x10 >>> k12) &&& (1#32)) == (1#32)), 0)))

noncomputable def F18_L1 (a0 : List (Int × Int × Int)) (x9 : Int) : ((List (List Bool)) × Int) → Option (Ctl ((List (List Bool)) × Int) ((List (List Bool))) (Unit)) := fun (y27, x30) =>
  cond ((decide (x30 < (a0.length : Int))))
  (Option.bind (idx y27 x9) fun (x42 : List Bool) =>
  Option.bind (idx a0 x9) fun x45 =>
  Option.bind (idx a0 x30) fun x47 =>
  Option.bind (cond ((x45.1 == x47.1)) (some true) (Option.bind (idx a0 x9) fun x52 =>
  Option.bind (cond ((x52.2.1 == 2)) (Option.bind (idx a0 x30) fun x57 =>
  some (x57.2.1 == 3)) (some false)) fun b55 =>
  Option.bind (cond (b55) (Option.bind (idx a0 x9) fun x62 =>
  Option.bind (idx a0 x30) fun x64 =>
  some (x62.2.2 == x64.2.2)) (some false)) fun b60 =>
  some b60)) fun b50 =>
  Option.bind (idx x42 x30) fun x66 =>
  some (.nxt (y27.set x9.toNat (x42.set x30.toNat b50), w64 (x30 + 1))))
  (some (.brk y27))
noncomputable def F18_L4 (a0 : List (Int × Int × Int)) (x71 : Int) (x86 : Int) : ((List (List Bool)) × Int) → Option (Ctl ((List (List Bool)) × Int) ((List (List Bool))) (Unit)) := fun (y98, x101) =>
  cond ((decide (x101 < (a0.length : Int))))
  (Option.bind (idx y98 x86) fun (x113 : List Bool) =>
  Option.bind (idx y98 x86) fun (x116 : List Bool) =>
  Option.bind (idx x116 x101) fun x119 =>
  Option.bind (cond (x119) (some true) (Option.bind (idx y98 x86) fun (x124 : List Bool) =>
  Option.bind (idx x124 x71) fun x127 =>
  Option.bind (cond (x127) (Option.bind (idx y98 x71) fun (x132 : List Bool) =>
  Option.bind (idx x132 x101) fun x135 =>
  some x135) (some false)) fun b130 =>
  some b130)) fun b122 =>
  Option.bind (idx x113 x101) fun x137 =>
  some (.nxt (y98.set x86.toNat (x113.set x101.toNat b122), w64 (x101 + 1))))
  (some (.brk y98))
noncomputable def F18_L3 (a0 : List (Int × Int × Int)) (x71 : Int) : ((List (List Bool)) × Int) → Option (Ctl ((List (List Bool)) × Int) ((List (List Bool))) (Unit)) := fun (y83, x86) =>
  cond ((decide (x86 < (a0.length : Int))))
  (Option.bind (whileM (F18_L4 a0 x71 x86) (y83, 0)) fun o109 => Ctl.on o109 (fun y106 =>
  some (.nxt (y106, w64 (x86 + 1)))) (fun _ => none))
  (some (.brk y83))
noncomputable def F18_L2 (a0 : List (Int × Int × Int)) : ((List (List Bool)) × Int) → Option (Ctl ((List (List Bool)) × Int) ((List (List Bool))) (Unit)) := fun (y68, x71) =>
  cond ((decide (x71 < (a0.length : Int))))
  (Option.bind (whileM (F18_L3 a0 x71) (y68, 0)) fun o94 => Ctl.on o94 (fun y91 =>
  some (.nxt (y91, w64 (x71 + 1)))) (fun _ => none))
  (some (.brk y68))
noncomputable def F18_L0 (a0 : List (Int × Int × Int)) : ((List (List Bool)) × Int) → Option (Ctl ((List (List Bool)) × Int) ((List (List Bool))) (Unit)) := fun (y6, x9) =>
  cond ((decide (x9 < (a0.length : Int))))
  (Option.bind (mkl (a0.length : Int) 1 false) fun (y21 : List Bool) =>
  Option.bind (idx y6 x9) fun (x25 : List Bool) =>
  Option.bind (whileM (F18_L1 a0 x9) (y6.set x9.toNat y21, w64 (x9 + 1))) fun o38 => Ctl.on o38 (fun y35 =>
  some (.nxt (y35, w64 (x9 + 1)))) (fun _ => none))
  (some (.brk y6))
/-- the model of beaconry/beaconryref.Ahead -/
noncomputable def F18 (a0 : List (Int × Int × Int)) : Option ((List (List Bool))) :=
  Option.bind (mkl (a0.length : Int) 24 ([] : List Bool)) fun (y2 : List (List Bool)) =>
  Option.bind (whileM (F18_L0 a0) (y2, 0)) fun o17 => Ctl.on o17 (fun y14 =>
  Option.bind (whileM (F18_L2 a0) (y14, 0)) fun o79 => Ctl.on o79 (fun y76 =>
  some y76) (fun _ => none)) (fun _ => none)

/-- the model of beaconry/beaconrylaw.RunAheads -/
noncomputable def F4 (a0 : Int) (a1 : List (Int × Int × Int)) (a2 : Int) (a3 : Int) : Option (Bool) :=
  Option.bind (F17 a0 a1 a2 a3) fun (r1, r2) =>
  Option.bind (F16 a0 a1) fun r4 =>
  Option.bind (α := Int) (cond (((r4 == 0) && ((((decide (a2 < 0)) || (decide (a2 ≥ (a1.length : Int)))) || (decide (a3 < 0))) || (decide (a3 ≥ (a1.length : Int))))))
  (some 4)
  (some r4))
  fun x10 =>
  cond ((x10 != 0))
  (some ((r2 == x10) && (!r1)))
  (Option.bind (cond ((r2 == 0)) (Option.bind (F18 a1) fun r18 =>
  Option.bind (idx r18 a2) fun (x23 : List Bool) =>
  Option.bind (idx x23 a3) fun x26 =>
  some (r1 == x26)) (some false)) fun b16 =>
  some b16)

noncomputable def F19_L1 (x9 : Int) (x17 : BitVec 32) : (Int × Int) → Option (Ctl (Int × Int) (Int) (Unit)) := fun (x19, x20) =>
  cond ((decide (x20 < x9)))
  (Option.bind (shc x20) fun k28 =>
  some (.nxt (w64 (x19 + (((1#32) - ((x17 >>> k28) &&& (1#32))).toNat : Int)), w64 (x20 + 1))))
  (some (.brk x19))
noncomputable def F19_L0 (r4 : (List (BitVec 32))) : (Int × Int) → Option (Ctl (Int × Int) (Int) (Unit)) := fun (x8, x9) =>
  cond ((decide (x9 < (r4.length : Int))))
  (Option.bind (idx r4 x9) fun x17 =>
  Option.bind (whileM (F19_L1 x9 x17) (x8, 0)) fun o24 => Ctl.on o24 (fun x23 =>
  some (.nxt (x23, w64 (x9 + 1)))) (fun _ => none))
  (some (.brk x8))
/-- the model of beaconry/run.Apart -/
noncomputable def F19 (a0 : Int) (a1 : List (Int × Int × Int)) : Option (Int × Int) :=
  Option.bind (F15 a0 a1) fun r1 =>
  cond ((r1 != 0))
  (some (0, r1))
  (Option.bind (F40 a0 a1) fun r4 =>
  Option.bind (whileM (F19_L0 r4) (0, 0)) fun o13 => Ctl.on o13 (fun x12 =>
  some (x12, 0)) (fun _ => none))

noncomputable def F5_L1 (r8 : (List (List Bool))) (x14 : Int) : (Int × Int) → Option (Ctl (Int × Int) (Int) (Unit)) := fun (x22, x23) =>
  cond ((decide (x23 < x14)))
  (Option.bind (α := Int) (Option.bind (idx r8 x14) fun (x33 : List Bool) =>
  Option.bind (idx x33 x23) fun x36 =>
  Option.bind (cond ((!x36)) (Option.bind (idx r8 x23) fun (x41 : List Bool) =>
  Option.bind (idx x41 x14) fun x44 =>
  some (!x44)) (some false)) fun b39 =>
  cond (b39)
  (some (w64 (x22 + 1)))
  (some x22))
  fun x31 =>
  some (.nxt (x31, w64 (x23 + 1))))
  (some (.brk x22))
noncomputable def F5_L0 (a1 : List (Int × Int × Int)) (r8 : (List (List Bool))) : (Int × Int) → Option (Ctl (Int × Int) (Int) (Unit)) := fun (x13, x14) =>
  cond ((decide (x14 < (a1.length : Int))))
  (Option.bind (whileM (F5_L1 r8 x14) (x13, 0)) fun o27 => Ctl.on o27 (fun x26 =>
  some (.nxt (x26, w64 (x14 + 1)))) (fun _ => none))
  (some (.brk x13))
/-- the model of beaconry/beaconrylaw.RunAparts -/
noncomputable def F5 (a0 : Int) (a1 : List (Int × Int × Int)) : Option (Bool) :=
  Option.bind (F19 a0 a1) fun (r1, r2) =>
  Option.bind (F16 a0 a1) fun r4 =>
  cond ((r4 != 0))
  (some ((r2 == r4) && (r1 == 0)))
  (Option.bind (F18 a1) fun r8 =>
  Option.bind (whileM (F5_L0 a1 r8) (0, 0)) fun o18 => Ctl.on o18 (fun x17 =>
  some ((r2 == 0) && (r1 == x17))) (fun _ => none))

noncomputable def F20_L0 (a1 : List (Int × Int × Int)) (a2 : List Int) (r5 : (List (BitVec 32))) : ((BitVec 32) × Bool × Int) → Option (Ctl ((BitVec 32) × Bool × Int) (Bool) (Bool × Int)) := fun (x9, b10, x11) =>
  cond ((decide (x11 < (a2.length : Int))))
  (Option.bind (idx a2 x11) fun x20 =>
  Option.bind (cond (((decide (x20 < 0)) || (decide (x20 ≥ (a1.length : Int))))) (some true) (Option.bind (shc x20) fun k26 =>
  some (((x9 >>> k26) &&& (1#32)) == (1#32)))) fun b24 =>
  cond (b24)
  (some (.ret (false, 3)))
  (Option.bind (cond (b10) (Option.bind (idx r5 x20) fun x32 =>
  some ((x32 &&& ~~~x9) == (0#32))) (some false)) fun b30 =>
  Option.bind (shc x20) fun k34 =>
  some (.nxt ((x9 ||| ((1#32) <<< k34)), b30, w64 (x11 + 1)))))
  (some (.brk b10))
/-- the model of beaconry/run.Again -/
noncomputable def F20 (a0 : Int) (a1 : List (Int × Int × Int)) (a2 : List Int) : Option (Bool × Int) :=
  Option.bind (F15 a0 a1) fun r1 =>
  cond ((r1 != 0))
  (some (false, r1))
  (cond (((a2.length : Int) != (a1.length : Int)))
  (some (false, 3))
  (Option.bind (F40 a0 a1) fun r5 =>
  Option.bind (whileM (F20_L0 a1 a2 r5) (0#32, true, 0)) fun o16 => Ctl.on o16 (fun b15 =>
  some (b15, 0)) (fun r => some r)))

noncomputable def F41_L0 (a0 : List Int) (a1 : Int) : Int → Option (Ctl (Int) (Unit) (Bool)) := fun x1 =>
  cond ((decide (x1 < (a0.length : Int))))
  (Option.bind (idx a0 x1) fun x7 =>
  cond ((a1 == x7))
  (some (.ret true))
  (some (.nxt (w64 (x1 + 1)))))
  (some (.brk ()))
/-- the model of beaconry/beaconryref.Has -/
noncomputable def F41 (a0 : List Int) (a1 : Int) : Option (Bool) :=
  Option.bind (whileM (F41_L0 a0 a1) 0) fun o3 => Ctl.on o3 (fun _ =>
  some false) (fun r => some r)

noncomputable def F21_L0 (a0 : Int) (a1 : List Int) : Int → Option (Ctl (Int) (Unit) (Bool)) := fun x2 =>
  cond ((decide (x2 < a0)))
  (Option.bind (F41 a1 x2) fun r8 =>
  cond ((!r8))
  (some (.ret false))
  (some (.nxt (w64 (x2 + 1)))))
  (some (.brk ()))
/-- the model of beaconry/beaconryref.Once -/
noncomputable def F21 (a0 : Int) (a1 : List Int) : Option (Bool) :=
  cond (((a1.length : Int) != a0))
  (some false)
  (Option.bind (whileM (F21_L0 a0 a1) 0) fun o4 => Ctl.on o4 (fun _ =>
  some true) (fun r => some r))

noncomputable def F22_L1 (a1 : List Int) (r1 : (List (List Bool))) (x6 : Int) : Int → Option (Ctl (Int) (Unit) (Bool)) := fun x12 =>
  cond ((decide (x12 < (a1.length : Int))))
  (Option.bind (idx a1 x12) fun x18 =>
  Option.bind (idx r1 x18) fun (x20 : List Bool) =>
  Option.bind (idx a1 x6) fun x23 =>
  Option.bind (idx x20 x23) fun x25 =>
  cond (x25)
  (some (.ret false))
  (some (.nxt (w64 (x12 + 1)))))
  (some (.brk ()))
noncomputable def F22_L0 (a1 : List Int) (r1 : (List (List Bool))) : Int → Option (Ctl (Int) (Unit) (Bool)) := fun x6 =>
  cond ((decide (x6 < (a1.length : Int))))
  (Option.bind (whileM (F22_L1 a1 r1 x6) (w64 (x6 + 1))) fun o14 => Ctl.on o14 (fun _ =>
  some (.nxt (w64 (x6 + 1)))) (fun r => some (.ret r)))
  (some (.brk ()))
/-- the model of beaconry/beaconryref.Again -/
noncomputable def F22 (a0 : List (Int × Int × Int)) (a1 : List Int) : Option (Bool) :=
  Option.bind (F18 a0) fun r1 =>
  Option.bind (whileM (F22_L0 a1 r1) 0) fun o8 => Ctl.on o8 (fun _ =>
  some true) (fun r => some r)

/-- the model of beaconry/beaconrylaw.RunAgains -/
noncomputable def F6 (a0 : Int) (a1 : List (Int × Int × Int)) (a2 : List Int) : Option (Bool) :=
  Option.bind (F20 a0 a1 a2) fun (r1, r2) =>
  Option.bind (F16 a0 a1) fun r4 =>
  Option.bind (cond ((r4 == 0)) (Option.bind (F21 (a1.length : Int) a2) fun r9 =>
  some (!r9)) (some false)) fun b7 =>
  Option.bind (α := Int) (cond (b7)
  (some 3)
  (some r4))
  fun x11 =>
  cond ((x11 != 0))
  (some ((r2 == x11) && (!r1)))
  (Option.bind (cond ((r2 == 0)) (Option.bind (F22 a1 a2) fun r19 =>
  some (r1 == r19)) (some false)) fun b17 =>
  some b17)

noncomputable def F54_L0 (a0 : List Int) : (Int × Int) → Option (Ctl (Int × Int) (Int) (Unit)) := fun (x4, x5) =>
  cond ((decide (x5 < (a0.length : Int))))
  (Option.bind (idx a0 x5) fun x13 =>
  some (.nxt (mn x4 x13, w64 (x5 + 1))))
  (some (.brk x4))
/-- the model of slices.Min[[]int,int] -/
noncomputable def F54 (a0 : List Int) : Option (Int) :=
  cond ((decide ((a0.length : Int) < 1)))
  (none)
  (Option.bind (idx a0 0) fun x2 =>
  Option.bind (whileM (F54_L0 a0) (x2, 1)) fun o9 => Ctl.on o9 (fun x8 =>
  some x8) (fun _ => none))

noncomputable def F55_L0 (a0 : List Int) (a1 : List Int) : Int → Option (Ctl (Int) (Unit) (Bool)) := fun x2 =>
  cond ((decide (x2 < (a0.length : Int))))
  (Option.bind (idx a0 x2) fun x8 =>
  Option.bind (idx a1 x2) fun x10 =>
  cond ((x8 != x10))
  (some (.ret false))
  (some (.nxt (w64 (x2 + 1)))))
  (some (.brk ()))
/-- the model of slices.Equal[[]int,int] -/
noncomputable def F55 (a0 : List Int) (a1 : List Int) : Option (Bool) :=
  cond (((a0.length : Int) != (a1.length : Int)))
  (some false)
  (Option.bind (whileM (F55_L0 a0 a1) 0) fun o4 => Ctl.on o4 (fun _ =>
  some true) (fun r => some r))

noncomputable def F45_L0 (a1 : List (Int × Int × Int)) (a2 : List Int) : ((List Int) × (BitVec 32) × Int) → Option (Ctl ((List Int) × (BitVec 32) × Int) ((List Int) × (BitVec 32)) (Unit)) := fun (y6, x8, x9) =>
  cond ((decide (x9 < (a1.length : Int))))
  (Option.bind (α := (List Int) × (BitVec 32)) (Option.bind (idx a1 x9) fun x25 =>
  Option.bind (idx y6 x25.1) fun x28 =>
  Option.bind (idx a2 x25.1) fun x30 =>
  cond ((decide (x28 < x30)))
  (Option.bind (shc x9) fun k33 =>
  Option.bind (idx y6 x25.1) fun x35 =>
  Option.bind (idx y6 x25.1) fun x37 =>
  some (y6.set x25.1.toNat (w64 (x35 + 1)), (x8 ||| ((1#32) <<< k33))))
  (some (y6, x8)))
  fun (y21, x23) =>
  some (.nxt (y21, x23, w64 (x9 + 1))))
  (some (.brk (y6, x8)))
/-- the model of beaconry/cut.in -/
noncomputable def F45 (a0 : Int) (a1 : List (Int × Int × Int)) (a2 : List Int) : Option ((BitVec 32) × Int) :=
  cond (((a2.length : Int) != a0))
  (some (0#32, 3))
  (Option.bind (mkl a0 8 0) fun (y2 : List Int) =>
  Option.bind (whileM (F45_L0 a1 a2) (y2, 0#32, 0)) fun o17 => Ctl.on o17 (fun (y14, x16) =>
  Option.bind (F54 a2) fun r39 =>
  Option.bind (cond ((decide (r39 < 0))) (some true) (Option.bind (F55 y14 a2) fun r44 =>
  some (!r44))) fun b42 =>
  cond (b42)
  (some (0#32, 4))
  (some (x16, 0))) (fun _ => none))

noncomputable def F46_L0 (a0 : List (BitVec 32)) (a1 : BitVec 32) : Int → Option (Ctl (Int) (Unit) (Bool)) := fun x1 =>
  cond ((decide (x1 < (a0.length : Int))))
  (Option.bind (idx a0 x1) fun x7 =>
  Option.bind (shc x1) fun k9 =>
  cond (((((a1 >>> k9) &&& (1#32)) == (1#32)) && ((x7 &&& ~~~a1) != (0#32))))
  (some (.ret false))
  (some (.nxt (w64 (x1 + 1)))))
  (some (.brk ()))
/-- the model of beaconry/cut.whole -/
noncomputable def F46 (a0 : List (BitVec 32)) (a1 : BitVec 32) : Option (Bool) :=
  Option.bind (whileM (F46_L0 a0 a1) 0) fun o3 => Ctl.on o3 (fun _ =>
  some true) (fun r => some r)

/-- the model of beaconry/cut.Is -/
noncomputable def F33 (a0 : Int) (a1 : List (Int × Int × Int)) (a2 : List Int) : Option (Bool × Int) :=
  Option.bind (F15 a0 a1) fun r1 =>
  cond ((r1 != 0))
  (some (false, r1))
  (Option.bind (F45 a0 a1 a2) fun (r4, r5) =>
  cond ((r5 != 0))
  (some (false, r5))
  (Option.bind (F40 a0 a1) fun r8 =>
  Option.bind (F46 r8 r4) fun r12 =>
  some (r12, 0)))

noncomputable def F35_L1 (a1 : List (Int × Int × Int)) (a2 : List Int) (x8 : Int) : ((List Bool) × Int × Int) → Option (Ctl ((List Bool) × Int × Int) ((List Bool) × Int) (Unit)) := fun (y18, x20, x21) =>
  cond ((decide (x21 < (a1.length : Int))))
  (Option.bind (α := (List Bool) × Int) (Option.bind (idx a1 x21) fun x37 =>
  cond ((x37.1 == x8))
  (Option.bind (idx a2 x8) fun x41 =>
  Option.bind (idx y18 x21) fun x43 =>
  some (y18.set x21.toNat (decide (x20 < x41)), w64 (x20 + 1)))
  (some (y18, x20)))
  fun (y33, x35) =>
  some (.nxt (y33, x35, w64 (x21 + 1))))
  (some (.brk (y18, x20)))
noncomputable def F35_L0 (a0 : Int) (a1 : List (Int × Int × Int)) (a2 : List Int) : ((List Bool) × Int) → Option (Ctl ((List Bool) × Int) ((List Bool)) ((List Bool) × Bool)) := fun (y6, x8) =>
  cond ((decide (x8 < a0)))
  (Option.bind (whileM (F35_L1 a1 a2 x8) (y6, 0, 0)) fun o29 => Ctl.on o29 (fun (y26, x28) =>
  Option.bind (idx a2 x8) fun x45 =>
  Option.bind (cond ((decide (x45 < 0))) (some true) (Option.bind (idx a2 x8) fun x50 =>
  some (decide (x50 > x28)))) fun b48 =>
  cond (b48)
  (some (.ret ([], false)))
  (some (.nxt (y26, w64 (x8 + 1))))) (fun _ => none))
  (some (.brk y6))
/-- the model of beaconry/beaconryref.In -/
noncomputable def F35 (a0 : Int) (a1 : List (Int × Int × Int)) (a2 : List Int) : Option ((List Bool) × Bool) :=
  Option.bind (mkl (a1.length : Int) 1 false) fun (y2 : List Bool) =>
  Option.bind (whileM (F35_L0 a0 a1 a2) (y2, 0)) fun o14 => Ctl.on o14 (fun y12 =>
  some (y12, true)) (fun r => some r)

/-- the model of beaconry/beaconrylaw.cutCode -/
noncomputable def F34 (a0 : Int) (a1 : List (Int × Int × Int)) (a2 : List Int) : Option (Int) :=
  Option.bind (F16 a0 a1) fun r1 =>
  Option.bind (α := Int) (cond (((r1 == 0) && ((a2.length : Int) != a0)))
  (some 3)
  (some r1))
  fun x4 =>
  Option.bind (α := Int) (cond ((x4 == 0))
  (Option.bind (F35 a0 a1 a2) fun (r10, r11) =>
  cond ((!r11))
  (some 4)
  (some x4))
  (some x4))
  fun x7 =>
  some x7

noncomputable def F36_L1 (a0 : List (Int × Int × Int)) (a1 : List Bool) (r1 : (List (List Bool))) (x6 : Int) : Int → Option (Ctl (Int) (Unit) (Bool)) := fun x12 =>
  cond ((decide (x12 < (a0.length : Int))))
  (Option.bind (idx a1 x12) fun x18 =>
  Option.bind (cond (x18) (Option.bind (idx r1 x6) fun (x23 : List Bool) =>
  Option.bind (idx x23 x12) fun x26 =>
  some x26) (some false)) fun b21 =>
  Option.bind (cond (b21) (Option.bind (idx a1 x6) fun x31 =>
  some (!x31)) (some false)) fun b29 =>
  cond (b29)
  (some (.ret false))
  (some (.nxt (w64 (x12 + 1)))))
  (some (.brk ()))
noncomputable def F36_L0 (a0 : List (Int × Int × Int)) (a1 : List Bool) (r1 : (List (List Bool))) : Int → Option (Ctl (Int) (Unit) (Bool)) := fun x6 =>
  cond ((decide (x6 < (a0.length : Int))))
  (Option.bind (whileM (F36_L1 a0 a1 r1 x6) 0) fun o14 => Ctl.on o14 (fun _ =>
  some (.nxt (w64 (x6 + 1)))) (fun r => some (.ret r)))
  (some (.brk ()))
/-- the model of beaconry/beaconryref.Whole -/
noncomputable def F36 (a0 : List (Int × Int × Int)) (a1 : List Bool) : Option (Bool) :=
  Option.bind (F18 a0) fun r1 =>
  Option.bind (whileM (F36_L0 a0 a1 r1) 0) fun o8 => Ctl.on o8 (fun _ =>
  some true) (fun r => some r)

/-- the model of beaconry/beaconrylaw.CutIs -/
noncomputable def F12 (a0 : Int) (a1 : List (Int × Int × Int)) (a2 : List Int) : Option (Bool) :=
  Option.bind (F33 a0 a1 a2) fun (r1, r2) =>
  Option.bind (F34 a0 a1 a2) fun r4 =>
  cond ((r4 != 0))
  (some ((r2 == r4) && (!r1)))
  (Option.bind (F35 a0 a1 a2) fun (r8, r9) =>
  Option.bind (cond ((r2 == 0)) (Option.bind (F36 a1 r8) fun r16 =>
  some (r1 == r16)) (some false)) fun b14 =>
  some b14)

noncomputable def F42_L0 (a1 : List (Int × Int × Int)) : ((List Int) × (List (Int × Int)) × (List Int) × Int) → Option (Ctl ((List Int) × (List (Int × Int)) × (List Int) × Int) ((List Int) × (List (Int × Int)) × (List Int)) (Unit)) := fun (y12, y14, y15, x17) =>
  cond ((decide (x17 < (a1.length : Int))))
  (Option.bind (α := (List Int) × (List (Int × Int)) × (List Int)) (Option.bind (idx a1 x17) fun x39 =>
  Option.bind (idx y15 x39.1) fun x42 =>
  Option.bind (α := Int) (cond ((x39.2.1 == 3))
  (some (mx x42 (mget y14 x39.2.2)))
  (some x42))
  fun x44 =>
  Option.bind (idx y12 x17) fun xq47_7_1 =>
  Option.bind (idx y15 x39.1) fun xq47_9_1 =>
  cond ((x39.2.1 == 2))
  (some (y12.set x17.toNat (w64 (x44 + 1)), mset y14 x39.2.2 (w64 (x44 + 1)), y15.set x39.1.toNat (w64 (x44 + 1))))
  (some (y12.set x17.toNat (w64 (x44 + 1)), y14, y15.set x39.1.toNat (w64 (x44 + 1)))))
  fun (y33, y35, y36) =>
  some (.nxt (y33, y35, y36, w64 (x17 + 1))))
  (some (.brk (y12, y14, y15)))
/-- the model of beaconry/tick.ticks -/
noncomputable def F42 (a0 : Int) (a1 : List (Int × Int × Int)) : Option ((List Int)) :=
  Option.bind (mkl a0 8 0) fun (y2 : List Int) =>
  Option.bind (mkl (a1.length : Int) 8 0) fun (y8 : List Int) =>
  Option.bind (whileM (F42_L0 a1) (y8, ([] : List (Int × Int)), y2, 0)) fun o29 => Ctl.on o29 (fun (y24, y26, y27) =>
  some y24) (fun _ => none)

/-- the model of beaconry/tick.Ticks -/
noncomputable def F23 (a0 : Int) (a1 : List (Int × Int × Int)) : Option ((List Int) × Int) :=
  Option.bind (F15 a0 a1) fun r2 =>
  cond ((r2 != 0))
  (some ([], r2))
  (Option.bind (F42 a0 a1) fun r5 =>
  some (r5, 0))

noncomputable def F25_L1 (r2 : (List (List Bool))) (x13 : Int) : ((List Int) × Int) → Option (Ctl ((List Int) × Int) ((List Int)) (Unit)) := fun (y23, x25) =>
  cond ((decide (x25 < x13)))
  (Option.bind (α := (List Int)) (Option.bind (idx r2 x25) fun (x38 : List Bool) =>
  Option.bind (idx x38 x13) fun x41 =>
  Option.bind (cond (x41) (Option.bind (idx y23 x25) fun x46 =>
  Option.bind (idx y23 x13) fun x48 =>
  some (decide (x46 > x48))) (some false)) fun b44 =>
  cond (b44)
  (Option.bind (idx y23 x25) fun x51 =>
  Option.bind (idx y23 x13) fun x53 =>
  some (y23.set x13.toNat x51))
  (some y23))
  fun y35 =>
  some (.nxt (y35, w64 (x25 + 1))))
  (some (.brk y23))
noncomputable def F25_L0 (a0 : List (Int × Int × Int)) (r2 : (List (List Bool))) : ((List Int) × Int) → Option (Ctl ((List Int) × Int) ((List Int)) (Unit)) := fun (y11, x13) =>
  cond ((decide (x13 < (a0.length : Int))))
  (Option.bind (whileM (F25_L1 r2 x13) (y11, 0)) fun o31 => Ctl.on o31 (fun y29 =>
  Option.bind (idx y29 x13) fun x55 =>
  Option.bind (idx y29 x13) fun x57 =>
  some (.nxt (y29.set x13.toNat (w64 (x55 + 1)), w64 (x13 + 1)))) (fun _ => none))
  (some (.brk y11))
/-- the model of beaconry/beaconryref.Ticks -/
noncomputable def F25 (a0 : List (Int × Int × Int)) : Option ((List Int)) :=
  Option.bind (F18 a0) fun r2 =>
  Option.bind (mkl (a0.length : Int) 8 0) fun (y7 : List Int) =>
  Option.bind (whileM (F25_L0 a0 r2) (y7, 0)) fun o19 => Ctl.on o19 (fun y17 =>
  some y17) (fun _ => none)

noncomputable def F24_L0 (a0 : List Int) (a1 : List Int) : Int → Option (Ctl (Int) (Unit) (Bool)) := fun x2 =>
  cond ((decide (x2 < (a0.length : Int))))
  (Option.bind (idx a0 x2) fun x8 =>
  Option.bind (idx a1 x2) fun x10 =>
  cond ((x8 != x10))
  (some (.ret false))
  (some (.nxt (w64 (x2 + 1)))))
  (some (.brk ()))
/-- the model of beaconry/beaconryref.Ints -/
noncomputable def F24 (a0 : List Int) (a1 : List Int) : Option (Bool) :=
  cond (((a0.length : Int) != (a1.length : Int)))
  (some false)
  (Option.bind (whileM (F24_L0 a0 a1) 0) fun o4 => Ctl.on o4 (fun _ =>
  some true) (fun r => some r))

/-- the model of beaconry/beaconrylaw.TickTells -/
noncomputable def F7 (a0 : Int) (a1 : List (Int × Int × Int)) : Option (Bool) :=
  Option.bind (F23 a0 a1) fun (r1, r2) =>
  Option.bind (F16 a0 a1) fun r6 =>
  cond ((r6 != 0))
  (some ((r2 == r6) && ((r1.length : Int) == 0)))
  (Option.bind (cond ((r2 == 0)) (Option.bind (F25 a1) fun r13 =>
  Option.bind (F24 r1 r13) fun r17 =>
  some r17) (some false)) fun b11 =>
  some b11)

noncomputable def F26_L1 (a1 : List (Int × Int × Int)) (r5 : (List (BitVec 32))) (x16 : Int) : ((List Int) × Int) → Option (Ctl ((List Int) × Int) ((List Int)) (Unit)) := fun (y30, x32) =>
  cond ((decide (x32 < (a1.length : Int))))
  (Option.bind (α := (List Int)) (Option.bind (idx r5 x32) fun x45 =>
  Option.bind (shc x16) fun k47 =>
  cond ((((x45 >>> k47) &&& (1#32)) == (1#32)))
  (Option.bind (idx y30 x16) fun x50 =>
  Option.bind (idx y30 x32) fun x52 =>
  Option.bind (idx y30 x16) fun x54 =>
  some (y30.set x16.toNat (mx x50 (w64 (x52 + 1)))))
  (some y30))
  fun y42 =>
  some (.nxt (y42, w64 (x32 + 1))))
  (some (.brk y30))
noncomputable def F26_L2 (a1 : List (Int × Int × Int)) (r5 : (List (BitVec 32))) (y21 : List Int) (x23 : Int) : ((List Int) × Int) → Option (Ctl ((List Int) × Int) ((List Int)) (Unit)) := fun (y60, x61) =>
  cond ((decide (x61 < (a1.length : Int))))
  (Option.bind (α := (List Int)) (Option.bind (idx y21 x61) fun x76 =>
  Option.bind (cond ((x76 == (w64 (x23 - (y60.length : Int))))) (Option.bind (cond (((y60.length : Int) == 0)) (some true) (Option.bind (idx r5 x61) fun x84 =>
  Option.bind (idx y60 (w64 ((y60.length : Int) - 1))) fun x86 =>
  Option.bind (shc x86) fun k88 =>
  some (((x84 >>> k88) &&& (1#32)) == (1#32)))) fun b82 =>
  some b82) (some false)) fun b79 =>
  cond (b79)
  (Option.bind (appl 8 y60 ([x61] : List Int)) fun (y93 : List Int) =>
  some y93)
  (some y60))
  fun y73 =>
  some (.nxt (y73, w64 (x61 + 1))))
  (some (.brk y60))
noncomputable def F26_L0 (a1 : List (Int × Int × Int)) (r5 : (List (BitVec 32))) : ((List Int) × Int × Int) → Option (Ctl ((List Int) × Int × Int) ((List Int) × Int) (Unit)) := fun (y13, x15, x16) =>
  cond ((decide (x16 ≥ 0)))
  (Option.bind (idx y13 x16) fun x28 =>
  Option.bind (whileM (F26_L1 a1 r5 x16) (y13.set x16.toNat 1, w64 (x16 + 1))) fun o38 => Ctl.on o38 (fun y36 =>
  Option.bind (idx y36 x16) fun x56 =>
  some (.nxt (y36, mx x15 x56, w64 (x16 - 1)))) (fun _ => none))
  (some (.brk (y13, x15)))
/-- the model of beaconry/tick.Longest -/
noncomputable def F26 (a0 : Int) (a1 : List (Int × Int × Int)) : Option ((List Int) × Int) :=
  Option.bind (F15 a0 a1) fun r2 =>
  cond ((r2 != 0))
  (some ([], r2))
  (Option.bind (F40 a0 a1) fun r5 =>
  Option.bind (mkl (a1.length : Int) 8 0) fun (y9 : List Int) =>
  Option.bind (whileM (F26_L0 a1 r5) (y9, 0, w64 ((a1.length : Int) - 1))) fun o24 => Ctl.on o24 (fun (y21, x23) =>
  Option.bind (whileM (F26_L2 a1 r5 y21 x23) ([], 0)) fun o69 => Ctl.on o69 (fun y68 =>
  some (y68, 0)) (fun _ => none)) (fun _ => none))

noncomputable def F27_L1 (a0 : List (Int × Int × Int)) (r2 : (List (List Bool))) (x13 : Int) : ((List Int) × Int) → Option (Ctl ((List Int) × Int) ((List Int)) (Unit)) := fun (y23, x25) =>
  cond ((decide (x25 < (a0.length : Int))))
  (Option.bind (α := (List Int)) (Option.bind (idx r2 x13) fun (x38 : List Bool) =>
  Option.bind (idx x38 x25) fun x41 =>
  Option.bind (cond (x41) (Option.bind (idx y23 x25) fun x46 =>
  Option.bind (idx y23 x13) fun x48 =>
  some (decide (x46 > x48))) (some false)) fun b44 =>
  cond (b44)
  (Option.bind (idx y23 x25) fun x51 =>
  Option.bind (idx y23 x13) fun x53 =>
  some (y23.set x13.toNat x51))
  (some y23))
  fun y35 =>
  some (.nxt (y35, w64 (x25 + 1))))
  (some (.brk y23))
noncomputable def F27_L4 (a0 : List (Int × Int × Int)) (r2 : (List (List Bool))) (y17 : List Int) (y75 : List Int) (x76 : Int) : Int → Option (Ctl (Int) ((List Int)) (Unit)) := fun x88 =>
  cond ((decide (x88 < (a0.length : Int))))
  (Option.bind (idx y17 x88) fun x96 =>
  Option.bind (cond ((x96 == x76)) (Option.bind (cond (((y75.length : Int) == 0)) (some true) (Option.bind (idx y75 (w64 ((y75.length : Int) - 1))) fun x104 =>
  Option.bind (idx r2 x104) fun (x106 : List Bool) =>
  Option.bind (idx x106 x88) fun x109 =>
  some x109)) fun b102 =>
  some b102) (some false)) fun b99 =>
  cond (b99)
  (Option.bind (appl 8 y75 ([x88] : List Int)) fun (y114 : List Int) =>
  some (.brk y114))
  (some (.nxt (w64 (x88 + 1)))))
  (some (.brk y75))
noncomputable def F27_L3 (a0 : List (Int × Int × Int)) (r2 : (List (List Bool))) (y17 : List Int) : ((List Int) × Int) → Option (Ctl ((List Int) × Int) ((List Int)) (Unit)) := fun (y75, x76) =>
  cond ((decide (x76 > 0)))
  (Option.bind (whileM (F27_L4 a0 r2 y17 y75 x76) 0) fun o92 => Ctl.on o92 (fun y90 =>
  some (.nxt (y90, w64 (x76 - 1)))) (fun _ => none))
  (some (.brk y75))
noncomputable def F27_L2 (y17 : List Int) : (Int × Int) → Option (Ctl (Int × Int) (Int) (Unit)) := fun (x59, x60) =>
  cond ((decide (x60 < (y17.length : Int))))
  (Option.bind (α := Int) (Option.bind (idx y17 x60) fun x70 =>
  cond ((decide (x70 > x59)))
  (some x70)
  (some x59))
  fun x68 =>
  some (.nxt (x68, w64 (x60 + 1))))
  (some (.brk x59))
noncomputable def F27_L0 (a0 : List (Int × Int × Int)) (r2 : (List (List Bool))) : ((List Int) × Int) → Option (Ctl ((List Int) × Int) ((List Int)) (Unit)) := fun (y11, x13) =>
  cond ((decide (x13 ≥ 0)))
  (Option.bind (whileM (F27_L1 a0 r2 x13) (y11, w64 (x13 + 1))) fun o31 => Ctl.on o31 (fun y29 =>
  Option.bind (idx y29 x13) fun x55 =>
  Option.bind (idx y29 x13) fun x57 =>
  some (.nxt (y29.set x13.toNat (w64 (x55 + 1)), w64 (x13 - 1)))) (fun _ => none))
  (some (.brk y11))
/-- the model of beaconry/beaconryref.Longest -/
noncomputable def F27 (a0 : List (Int × Int × Int)) : Option ((List Int)) :=
  Option.bind (F18 a0) fun r2 =>
  Option.bind (mkl (a0.length : Int) 8 0) fun (y7 : List Int) =>
  Option.bind (whileM (F27_L0 a0 r2) (y7, w64 ((a0.length : Int) - 1))) fun o19 => Ctl.on o19 (fun y17 =>
  Option.bind (whileM (F27_L2 y17) (0, 0)) fun o64 => Ctl.on o64 (fun x63 =>
  Option.bind (whileM (F27_L3 a0 r2 y17) ([], x63)) fun o84 => Ctl.on o84 (fun y83 =>
  some y83) (fun _ => none)) (fun _ => none)) (fun _ => none)

/-- the model of beaconry/beaconrylaw.TickLongests -/
noncomputable def F8 (a0 : Int) (a1 : List (Int × Int × Int)) : Option (Bool) :=
  Option.bind (F26 a0 a1) fun (r1, r2) =>
  Option.bind (F16 a0 a1) fun r6 =>
  cond ((r6 != 0))
  (some ((r2 == r6) && ((r1.length : Int) == 0)))
  (Option.bind (cond ((r2 == 0)) (Option.bind (F27 a1) fun r13 =>
  Option.bind (F24 r1 r13) fun r17 =>
  some r17) (some false)) fun b11 =>
  some b11)
end Go.Proofs.Ytmfidlalejdikaa
