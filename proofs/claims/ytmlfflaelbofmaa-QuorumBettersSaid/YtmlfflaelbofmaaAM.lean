/-
  Pure models of Go functions, written by a program (gen.py).
-/
import Derived.Test.YtmlfflaelbofmaaBk14
namespace Go.Proofs.Ytmlfflaelbofmaa
open Go Go.Bk
set_option linter.unusedVariables false
@[reducible] def cTiiibi (x : Int × Int × Int × Bool × Int) : List Value := [I x.1, I x.2.1, I x.2.2.1, .bool x.2.2.2.1, I x.2.2.2.2]
noncomputable def F15_L2 (x18 : Int × Int × Int × Bool × Int) (y21 : List (Int × Int × Int × Bool × Int)) : Int → Option (Ctl (Int) (Unit) (Int)) := fun x24 =>
  cond ((decide (x24 < (y21.length : Int))))
  (Option.bind (idx y21 x24) fun x30 =>
  cond ((((x18.1 == x30.1) && (decide (x18.2.2.1 > x30.2.1))) && (decide (x30.2.2.1 > x18.2.1))))
  (some (.ret 3))
  (some (.nxt (w64 (x24 + 1)))))
  (some (.brk ()))
noncomputable def F15_L1 (a0 : List (Int × Int × Int × Bool × Int)) : Int → Option (Ctl (Int) (Unit) (Int)) := fun x12 =>
  cond ((decide (x12 < (a0.length : Int))))
  (Option.bind (idx a0 x12) fun x18 =>
  Option.bind (slI a0 0 x12) fun y21 =>
  Option.bind (whileM (F15_L2 x18 y21) 0) fun o26 => Ctl.on o26 (fun _ =>
  some (.nxt (w64 (x12 + 1)))) (fun r => some (.ret r)))
  (some (.brk ()))
noncomputable def F15_L0 (a0 : List (Int × Int × Int × Bool × Int)) : Int → Option (Ctl (Int) (Unit) (Int)) := fun x2 =>
  cond ((decide (x2 < (a0.length : Int))))
  (Option.bind (idx a0 x2) fun x8 =>
  cond ((decide (x8.2.2.1 ≤ x8.2.1)))
  (some (.ret 4))
  (some (.nxt (w64 (x2 + 1)))))
  (some (.brk ()))
/-- the model of beaconry/line.Check -/
noncomputable def F15 (a0 : List (Int × Int × Int × Bool × Int)) : Option (Int) :=
  cond ((decide ((a0.length : Int) > 8)))
  (some 1)
  (Option.bind (whileM (F15_L0 a0) 0) fun o4 => Ctl.on o4 (fun _ =>
  Option.bind (whileM (F15_L1 a0) 0) fun o14 => Ctl.on o14 (fun _ =>
  some 0) (fun r => some r)) (fun r => some r))

noncomputable def F16_L2 (a0 : List (Int × Int × Int × Bool × Int)) (x12 : Int) (x18 : Int × Int × Int × Bool × Int) : Int → Option (Ctl (Int) (Unit) (Int)) := fun x21 =>
  cond ((decide (x21 < (a0.length : Int))))
  (Option.bind (idx a0 x21) fun x27 =>
  cond ((((x12 != x21) && (x18.1 == x27.1)) && (!((decide (x18.2.2.1 ≤ x27.2.1)) || (decide (x27.2.2.1 ≤ x18.2.1))))))
  (some (.ret 3))
  (some (.nxt (w64 (x21 + 1)))))
  (some (.brk ()))
noncomputable def F16_L1 (a0 : List (Int × Int × Int × Bool × Int)) : Int → Option (Ctl (Int) (Unit) (Int)) := fun x12 =>
  cond ((decide (x12 < (a0.length : Int))))
  (Option.bind (idx a0 x12) fun x18 =>
  Option.bind (whileM (F16_L2 a0 x12 x18) 0) fun o23 => Ctl.on o23 (fun _ =>
  some (.nxt (w64 (x12 + 1)))) (fun r => some (.ret r)))
  (some (.brk ()))
noncomputable def F16_L0 (a0 : List (Int × Int × Int × Bool × Int)) : Int → Option (Ctl (Int) (Unit) (Int)) := fun x2 =>
  cond ((decide (x2 < (a0.length : Int))))
  (Option.bind (idx a0 x2) fun x8 =>
  cond ((decide (x8.2.2.1 ≤ x8.2.1)))
  (some (.ret 4))
  (some (.nxt (w64 (x2 + 1)))))
  (some (.brk ()))
/-- the model of beaconry/beaconryref.LineCheck -/
noncomputable def F16 (a0 : List (Int × Int × Int × Bool × Int)) : Option (Int) :=
  cond ((decide ((a0.length : Int) > 8)))
  (some 1)
  (Option.bind (whileM (F16_L0 a0) 0) fun o4 => Ctl.on o4 (fun _ =>
  Option.bind (whileM (F16_L1 a0) 0) fun o14 => Ctl.on o14 (fun _ =>
  some 0) (fun r => some r)) (fun r => some r))

/-- the model of beaconry/beaconrylaw.LineChecks -/
noncomputable def F3 (a0 : List (Int × Int × Int × Bool × Int)) : Option (Bool) :=
  Option.bind (F15 a0) fun r1 =>
  Option.bind (F16 a0) fun r3 =>
  some (r1 == r3)

/-- the model of beaconry/quorum.wrong$1 -/
noncomputable def F66 (a0 : BitVec 32) (a1 : Int) : Option (Bool) :=
  Option.bind (cond ((a0 == (0#32))) (some true) (Option.bind (shc a1) fun k4 =>
  some ((a0 >>> k4) != (0#32)))) fun b2 =>
  some b2

noncomputable def F69_L0 (a0 : List (BitVec 32)) (a1 : (BitVec 32) → Option Bool) : Int → Option (Ctl (Int) (Unit) (Int)) := fun x1 =>
  cond ((decide (x1 < (a0.length : Int))))
  (Option.bind (idx a0 x1) fun x7 =>
  Option.bind (a1 x7) fun r9 =>
  cond (r9)
  (some (.ret x1))
  (some (.nxt (w64 (x1 + 1)))))
  (some (.brk ()))
/-- the model of slices.IndexFunc[[]uint32,uint32] -/
noncomputable def F69 (a0 : List (BitVec 32)) (a1 : (BitVec 32) → Option Bool) : Option (Int) :=
  Option.bind (whileM (F69_L0 a0 a1) 0) fun o3 => Ctl.on o3 (fun _ =>
  some (-1)) (fun r => some r)

/-- the model of slices.ContainsFunc[[]uint32,uint32] -/
noncomputable def F65 (a0 : List (BitVec 32)) (a1 : (BitVec 32) → Option Bool) : Option (Bool) :=
  Option.bind (F69 a0 a1) fun r1 =>
  some (decide (r1 ≥ 0))

/-- the model of beaconry/quorum.wrong -/
noncomputable def F54 (a0 : Int) (a1 : List (BitVec 32)) (a2 : BitVec 32) : Option (Int) :=
  cond ((((decide (a0 < 1)) || (decide (a0 > 6))) || (decide ((a1.length : Int) > 20))))
  (some 1)
  (Option.bind (F65 a1 (fun z => F66 z a0)) fun r5 =>
  Option.bind (cond (r5) (some true) (Option.bind (shc a0) fun k10 =>
  some ((a2 >>> k10) != (0#32)))) fun b8 =>
  cond (b8)
  (some 4)
  (some 0))

/-- the model of beaconry/quorum.wins$1 -/
noncomputable def F67 (a0 : BitVec 32) (a1 : BitVec 32) : Option (Bool) :=
  some ((a0 &&& ~~~a1) == (0#32))

/-- the model of beaconry/quorum.wins -/
noncomputable def F55 (a0 : List (BitVec 32)) (a1 : BitVec 32) : Option (Bool) :=
  Option.bind (F65 a0 (fun z => F67 z a1)) fun r2 =>
  some r2

/-- the model of beaconry/quorum.Wins -/
noncomputable def F31 (a0 : Int) (a1 : List (BitVec 32)) (a2 : BitVec 32) : Option (Bool × Int) :=
  Option.bind (F54 a0 a1 a2) fun r1 =>
  cond ((r1 != 0))
  (some (false, r1))
  (Option.bind (F55 a1 a2) fun r4 =>
  some (r4, 0))

noncomputable def F32_L0 (a0 : Int) (a1 : List (BitVec 32)) : Int → Option (Ctl (Int) (Unit) (Int)) := fun x4 =>
  cond ((decide (x4 < (a1.length : Int))))
  (Option.bind (idx a1 x4) fun x10 =>
  cond (((x10 == (0#32)) || (decide (((1#32) <<< (u64 a0).toNat) ≤ x10))))
  (some (.ret 4))
  (some (.nxt (w64 (x4 + 1)))))
  (some (.brk ()))
/-- the model of beaconry/beaconryref.SetsCheck -/
noncomputable def F32 (a0 : Int) (a1 : List (BitVec 32)) (a2 : BitVec 32) : Option (Int) :=
  cond ((((decide (a0 < 1)) || (decide (a0 > 6))) || (decide ((a1.length : Int) > 20))))
  (some 1)
  (Option.bind (whileM (F32_L0 a0 a1) 0) fun o6 => Ctl.on o6 (fun _ =>
  cond ((decide (((1#32) <<< (u64 a0).toNat) ≤ a2)))
  (some 4)
  (some 0)) (fun r => some r))

noncomputable def F33_L0 (a0 : List (BitVec 32)) (a1 : BitVec 32) : Int → Option (Ctl (Int) (Unit) (Bool)) := fun x1 =>
  cond ((decide (x1 < (a0.length : Int))))
  (Option.bind (idx a0 x1) fun x7 =>
  cond (((x7 ||| a1) == a1))
  (some (.ret true))
  (some (.nxt (w64 (x1 + 1)))))
  (some (.brk ()))
/-- the model of beaconry/beaconryref.Wins -/
noncomputable def F33 (a0 : List (BitVec 32)) (a1 : BitVec 32) : Option (Bool) :=
  Option.bind (whileM (F33_L0 a0 a1) 0) fun o3 => Ctl.on o3 (fun _ =>
  some false) (fun r => some r)

/-- the model of beaconry/beaconrylaw.QuorumWins -/
noncomputable def F10 (a0 : Int) (a1 : List (BitVec 32)) (a2 : BitVec 32) : Option (Bool) :=
  Option.bind (F31 a0 a1 a2) fun (r1, r2) =>
  Option.bind (F32 a0 a1 a2) fun r4 =>
  cond ((r4 != 0))
  (some ((r2 == r4) && (!r1)))
  (Option.bind (cond ((r2 == 0)) (Option.bind (F33 a1 a2) fun r11 =>
  some (r1 == r11)) (some false)) fun b9 =>
  some b9)

noncomputable def F56_L1 (x7 : BitVec 32) (y9 : List (BitVec 32)) : Int → Option (Ctl (Int) (Unit) (Bool)) := fun x12 =>
  cond ((decide (x12 < (y9.length : Int))))
  (Option.bind (idx y9 x12) fun x18 =>
  cond (((((x7 &&& x18) == (0#32)) || ((x7 &&& ~~~x18) == (0#32))) || ((x18 &&& ~~~x7) == (0#32))))
  (some (.ret false))
  (some (.nxt (w64 (x12 + 1)))))
  (some (.brk ()))
noncomputable def F56_L0 (a0 : List (BitVec 32)) : Int → Option (Ctl (Int) (Unit) (Bool)) := fun x1 =>
  cond ((decide (x1 < (a0.length : Int))))
  (Option.bind (idx a0 x1) fun x7 =>
  Option.bind (slI a0 0 x1) fun y9 =>
  Option.bind (whileM (F56_L1 x7 y9) 0) fun o14 => Ctl.on o14 (fun _ =>
  some (.nxt (w64 (x1 + 1)))) (fun r => some (.ret r)))
  (some (.brk ()))
/-- the model of beaconry/quorum.meet -/
noncomputable def F56 (a0 : List (BitVec 32)) : Option (Bool) :=
  Option.bind (whileM (F56_L0 a0) 0) fun o3 => Ctl.on o3 (fun _ =>
  some true) (fun r => some r)

/-- the model of beaconry/quorum.Meet -/
noncomputable def F34 (a0 : Int) (a1 : List (BitVec 32)) : Option (Bool × Int) :=
  Option.bind (F54 a0 a1 (0#32)) fun r1 =>
  cond ((r1 != 0))
  (some (false, r1))
  (Option.bind (F56 a1) fun r4 =>
  some (r4, 0))

noncomputable def F35_L1 (a0 : List (BitVec 32)) (x1 : Int) : Int → Option (Ctl (Int) (Unit) (Bool)) := fun x7 =>
  cond ((decide (x7 < (a0.length : Int))))
  (Option.bind (cond ((x1 != x7)) (Option.bind (idx a0 x1) fun x16 =>
  Option.bind (idx a0 x7) fun x18 =>
  Option.bind (cond (((x16 &&& x18) == (0#32))) (some true) (Option.bind (idx a0 x1) fun x23 =>
  Option.bind (idx a0 x7) fun x25 =>
  Option.bind (idx a0 x7) fun x27 =>
  some ((x23 ||| x25) == x27))) fun b21 =>
  some b21) (some false)) fun b14 =>
  cond (b14)
  (some (.ret false))
  (some (.nxt (w64 (x7 + 1)))))
  (some (.brk ()))
noncomputable def F35_L0 (a0 : List (BitVec 32)) : Int → Option (Ctl (Int) (Unit) (Bool)) := fun x1 =>
  cond ((decide (x1 < (a0.length : Int))))
  (Option.bind (whileM (F35_L1 a0 x1) 0) fun o9 => Ctl.on o9 (fun _ =>
  some (.nxt (w64 (x1 + 1)))) (fun r => some (.ret r)))
  (some (.brk ()))
/-- the model of beaconry/beaconryref.Meet -/
noncomputable def F35 (a0 : List (BitVec 32)) : Option (Bool) :=
  Option.bind (whileM (F35_L0 a0) 0) fun o3 => Ctl.on o3 (fun _ =>
  some true) (fun r => some r)

/-- the model of beaconry/beaconrylaw.QuorumMeets -/
noncomputable def F11 (a0 : Int) (a1 : List (BitVec 32)) : Option (Bool) :=
  Option.bind (F34 a0 a1) fun (r1, r2) =>
  Option.bind (F32 a0 a1 (0#32)) fun r4 =>
  cond ((r4 != 0))
  (some ((r2 == r4) && (!r1)))
  (Option.bind (cond ((r2 == 0)) (Option.bind (F35 a1) fun r11 =>
  some (r1 == r11)) (some false)) fun b9 =>
  some b9)

noncomputable def F52_L0 (a0 : List (BitVec 32)) : Int → Option (Ctl (Int) (Unit) (Int)) := fun x3 =>
  cond ((decide (x3 < (a0.length : Int))))
  (Option.bind (idx a0 x3) fun x9 =>
  Option.bind (shc (a0.length : Int)) fun k11 =>
  cond (((x9 >>> k11) != (0#32)))
  (some (.ret 4))
  (some (.nxt (w64 (x3 + 1)))))
  (some (.brk ()))
/-- the model of beaconry/wait.wrong -/
noncomputable def F52 (a0 : List (BitVec 32)) : Option (Int) :=
  cond (((decide ((a0.length : Int) < 1)) || (decide ((a0.length : Int) > 6))))
  (some 1)
  (Option.bind (whileM (F52_L0 a0) 0) fun o5 => Ctl.on o5 (fun _ =>
  some 0) (fun r => some r))

noncomputable def F49_L1 (a0 : List (BitVec 32)) (a1 : ((BitVec 32) × BitVec 32) → Option Bool) : ((BitVec 32) × Int) → Option (Ctl ((BitVec 32) × Int) ((BitVec 32)) (Unit)) := fun (x13, x14) =>
  cond ((decide (x14 < (a0.length : Int))))
  (Option.bind (α := (BitVec 32)) (Option.bind (idx a0 x14) fun x24 =>
  Option.bind (cond ((x24 == (0#32))) (some true) (Option.bind (a1 (x24, x13)) fun r29 =>
  some r29)) fun b27 =>
  cond (b27)
  (Option.bind (shc x14) fun k32 =>
  some (x13 ||| ((1#32) <<< k32)))
  (some x13))
  fun x22 =>
  some (.nxt (x22, w64 (x14 + 1))))
  (some (.brk x13))
noncomputable def F49_L0 (a0 : List (BitVec 32)) (a1 : ((BitVec 32) × BitVec 32) → Option Bool) : ((BitVec 32) × Int) → Option (Ctl ((BitVec 32) × Int) ((BitVec 32)) (Unit)) := fun (x4, x5) =>
  cond ((decide (x5 < (a0.length : Int))))
  (Option.bind (whileM (F49_L1 a0 a1) (x4, 0)) fun o18 => Ctl.on o18 (fun x17 =>
  some (.nxt (x17, w64 (x5 + 1)))) (fun _ => none))
  (some (.brk x4))
/-- the model of beaconry/wait.stuck -/
noncomputable def F49 (a0 : List (BitVec 32)) (a1 : ((BitVec 32) × BitVec 32) → Option Bool) : Option ((BitVec 32) × Int) :=
  Option.bind (F52 a0) fun r1 =>
  cond ((r1 != 0))
  (some (0#32, r1))
  (Option.bind (whileM (F49_L0 a0 a1) (0#32, 0)) fun o9 => Ctl.on o9 (fun x8 =>
  Option.bind (shc (a0.length : Int)) fun k34 =>
  some (((((1#32) <<< k34) - (1#32)) - x8), 0)) (fun _ => none))

/-- the model of beaconry/wait.All$1 -/
noncomputable def F50 (a0 : BitVec 32) (a1 : BitVec 32) : Option (Bool) :=
  some ((a0 &&& ~~~a1) == (0#32))

/-- the model of beaconry/wait.All -/
noncomputable def F22 (a0 : List (BitVec 32)) : Option ((BitVec 32) × Int) :=
  Option.bind (F49 a0 (fun z => F50 z.1 z.2)) fun (r1, r2) =>
  some (r1, r2)

noncomputable def F23_L0 (a0 : List (BitVec 32)) : Int → Option (Ctl (Int) (Unit) (Int)) := fun x3 =>
  cond ((decide (x3 < (a0.length : Int))))
  (Option.bind (idx a0 x3) fun x9 =>
  cond ((decide (((1#32) <<< (u64 (a0.length : Int)).toNat) ≤ x9)))
  (some (.ret 4))
  (some (.nxt (w64 (x3 + 1)))))
  (some (.brk ()))
/-- the model of beaconry/beaconryref.WaitCheck -/
noncomputable def F23 (a0 : List (BitVec 32)) : Option (Int) :=
  cond (((decide ((a0.length : Int) < 1)) || (decide ((a0.length : Int) > 6))))
  (some 1)
  (Option.bind (whileM (F23_L0 a0) 0) fun o5 => Ctl.on o5 (fun _ =>
  some 0) (fun r => some r))

/-- the model of beaconry/beaconryref.Bit -/
noncomputable def F29 (a0 : BitVec 32) (a1 : Int) : Option (Bool) :=
  some (((decide (a1 ≥ 0)) && (decide (a1 < 32))) && ((a0 &&& ((1#32) <<< (u64 a1).toNat)) != (0#32)))

noncomputable def F28_L1 (a0 : List (BitVec 32)) : ((BitVec 32) × Int) → Option (Ctl ((BitVec 32) × Int) ((BitVec 32)) (Unit)) := fun (x12, x13) =>
  cond ((decide (x13 < (a0.length : Int))))
  (Option.bind (α := (BitVec 32)) (Option.bind (F29 x12 x13) fun r23 =>
  cond (r23)
  (Option.bind (idx a0 x13) fun x26 =>
  some (x12 ||| x26))
  (some x12))
  fun x21 =>
  some (.nxt (x21, w64 (x13 + 1))))
  (some (.brk x12))
noncomputable def F28_L0 (a0 : List (BitVec 32)) : ((BitVec 32) × Int) → Option (Ctl ((BitVec 32) × Int) ((BitVec 32)) (Unit)) := fun (x3, x4) =>
  cond ((decide (x4 < (a0.length : Int))))
  (Option.bind (whileM (F28_L1 a0) (x3, 0)) fun o17 => Ctl.on o17 (fun x16 =>
  some (.nxt (x16, w64 (x4 + 1)))) (fun _ => none))
  (some (.brk x3))
/-- the model of beaconry/beaconryref.Reach -/
noncomputable def F28 (a0 : List (BitVec 32)) (a1 : Int) : Option ((BitVec 32)) :=
  Option.bind (idx a0 a1) fun x1 =>
  Option.bind (whileM (F28_L0 a0) (x1, 0)) fun o8 => Ctl.on o8 (fun x7 =>
  some x7) (fun _ => none)

noncomputable def F24_L1 (a0 : List (BitVec 32)) (x2 : Int) (r10 : (BitVec 32)) : ((BitVec 32) × Int) → Option (Ctl ((BitVec 32) × Int) ((BitVec 32)) (Unit)) := fun (x12, x13) =>
  cond ((decide (x13 < (a0.length : Int))))
  (Option.bind (α := (BitVec 32)) (Option.bind (F29 (r10 ||| ((1#32) <<< (u64 x2).toNat)) x13) fun r23 =>
  Option.bind (cond (r23) (Option.bind (F28 a0 x13) fun r28 =>
  Option.bind (F29 r28 x13) fun r30 =>
  some r30) (some false)) fun b26 =>
  cond (b26)
  (some (x12 ||| ((1#32) <<< (u64 x2).toNat)))
  (some x12))
  fun x21 =>
  some (.nxt (x21, w64 (x13 + 1))))
  (some (.brk x12))
noncomputable def F24_L0 (a0 : List (BitVec 32)) : ((BitVec 32) × Int) → Option (Ctl ((BitVec 32) × Int) ((BitVec 32)) (Unit)) := fun (x1, x2) =>
  cond ((decide (x2 < (a0.length : Int))))
  (Option.bind (F28 a0 x2) fun r10 =>
  Option.bind (whileM (F24_L1 a0 x2 r10) (x1, 0)) fun o17 => Ctl.on o17 (fun x16 =>
  some (.nxt (x16, w64 (x2 + 1)))) (fun _ => none))
  (some (.brk x1))
/-- the model of beaconry/beaconryref.StuckAll -/
noncomputable def F24 (a0 : List (BitVec 32)) : Option ((BitVec 32)) :=
  Option.bind (whileM (F24_L0 a0) (0#32, 0)) fun o6 => Ctl.on o6 (fun x5 =>
  some x5) (fun _ => none)

/-- the model of beaconry/beaconrylaw.WaitAlls -/
noncomputable def F7 (a0 : List (BitVec 32)) : Option (Bool) :=
  Option.bind (F22 a0) fun (r1, r2) =>
  Option.bind (F23 a0) fun r4 =>
  cond ((r4 != 0))
  (some ((r2 == r4) && (r1 == (0#32))))
  (Option.bind (cond ((r2 == 0)) (Option.bind (F24 a0) fun r11 =>
  some (r1 == r11)) (some false)) fun b9 =>
  some b9)

/-- the model of beaconry/wait.Any$1 -/
noncomputable def F51 (a0 : BitVec 32) (a1 : BitVec 32) : Option (Bool) :=
  some ((a0 &&& a1) != (0#32))

/-- the model of beaconry/wait.Any -/
noncomputable def F25 (a0 : List (BitVec 32)) : Option ((BitVec 32) × Int) :=
  Option.bind (F49 a0 (fun z => F51 z.1 z.2)) fun (r1, r2) =>
  some (r1, r2)

noncomputable def F26_L1 (a0 : List (BitVec 32)) (x2 : Int) (r12 : (BitVec 32)) : (Bool × Int) → Option (Ctl (Bool × Int) (Bool) (Unit)) := fun (b14, x15) =>
  cond ((decide (x15 < (a0.length : Int))))
  (Option.bind (cond (b14) (some true) (Option.bind (F29 (r12 ||| ((1#32) <<< (u64 x2).toNat)) x15) fun r26 =>
  Option.bind (cond (r26) (Option.bind (idx a0 x15) fun x31 =>
  some (x31 == (0#32))) (some false)) fun b29 =>
  some b29)) fun b24 =>
  some (.nxt (b24, w64 (x15 + 1))))
  (some (.brk b14))
noncomputable def F26_L0 (a0 : List (BitVec 32)) : ((BitVec 32) × Int) → Option (Ctl ((BitVec 32) × Int) ((BitVec 32)) (Unit)) := fun (x1, x2) =>
  cond ((decide (x2 < (a0.length : Int))))
  (Option.bind (α := (BitVec 32)) (Option.bind (F28 a0 x2) fun r12 =>
  Option.bind (whileM (F26_L1 a0 x2 r12) (false, 0)) fun o19 => Ctl.on o19 (fun b18 =>
  cond ((!b18))
  (some (x1 ||| ((1#32) <<< (u64 x2).toNat)))
  (some x1)) (fun _ => none))
  fun x10 =>
  some (.nxt (x10, w64 (x2 + 1))))
  (some (.brk x1))
/-- the model of beaconry/beaconryref.StuckAny -/
noncomputable def F26 (a0 : List (BitVec 32)) : Option ((BitVec 32)) :=
  Option.bind (whileM (F26_L0 a0) (0#32, 0)) fun o6 => Ctl.on o6 (fun x5 =>
  some x5) (fun _ => none)

/-- the model of beaconry/beaconrylaw.WaitAnys -/
noncomputable def F8 (a0 : List (BitVec 32)) : Option (Bool) :=
  Option.bind (F25 a0) fun (r1, r2) =>
  Option.bind (F23 a0) fun r4 =>
  cond ((r4 != 0))
  (some ((r2 == r4) && (r1 == (0#32))))
  (Option.bind (cond ((r2 == 0)) (Option.bind (F26 a0) fun r11 =>
  some (r1 == r11)) (some false)) fun b9 =>
  some b9)

noncomputable def F57_L0 (a1 : List (BitVec 32)) (k1 : Nat) : (BitVec 32) → Option (Ctl ((BitVec 32)) (Unit) ((BitVec 32) × Bool)) := fun x3 =>
  cond ((decide (x3 < ((((1#32) <<< k1) - (1#32)) + (1#32)))))
  (Option.bind (F55 a1 x3) fun r9 =>
  Option.bind (cond ((!r9)) (Option.bind (F55 a1 ((((1#32) <<< k1) - (1#32)) &&& ~~~x3)) fun r14 =>
  some (!r14)) (some false)) fun b12 =>
  cond (b12)
  (some (.ret (x3, true)))
  (some (.nxt (x3 + (1#32)))))
  (some (.brk ()))
/-- the model of beaconry/quorum.loser -/
noncomputable def F57 (a0 : Int) (a1 : List (BitVec 32)) : Option ((BitVec 32) × Bool) :=
  Option.bind (shc a0) fun k1 =>
  Option.bind (whileM (F57_L0 a1 k1) (0#32)) fun o5 => Ctl.on o5 (fun _ =>
  some (0#32, false)) (fun r => some r)

/-- the model of beaconry/quorum.Full -/
noncomputable def F36 (a0 : Int) (a1 : List (BitVec 32)) : Option (Bool × Int) :=
  Option.bind (F54 a0 a1 (0#32)) fun r1 =>
  cond ((r1 != 0))
  (some (false, r1))
  (Option.bind (F56 a1) fun r4 =>
  cond ((!r4))
  (some (false, 3))
  (Option.bind (F57 a0 a1) fun (r7, r8) =>
  some ((!r8), 0)))

/-- the model of beaconry/beaconrylaw.meetCode -/
noncomputable def F37 (a0 : Int) (a1 : List (BitVec 32)) : Option (Int) :=
  Option.bind (F32 a0 a1 (0#32)) fun r1 =>
  Option.bind (cond ((r1 == 0)) (Option.bind (F35 a1) fun r6 =>
  some (!r6)) (some false)) fun b4 =>
  Option.bind (α := Int) (cond (b4)
  (some 3)
  (some r1))
  fun x8 =>
  some x8

noncomputable def F38_L0 (a0 : Int) (a1 : List (BitVec 32)) : (BitVec 32) → Option (Ctl ((BitVec 32)) (Unit) (Bool)) := fun x1 =>
  cond ((decide (x1 < ((1#32) <<< (u64 a0).toNat))))
  (Option.bind (F33 a1 x1) fun r7 =>
  Option.bind (cond ((!r7)) (Option.bind (F33 a1 ((((1#32) <<< (u64 a0).toNat) - (1#32)) - x1)) fun r12 =>
  some (!r12)) (some false)) fun b10 =>
  cond (b10)
  (some (.ret false))
  (some (.nxt (x1 + (1#32)))))
  (some (.brk ()))
/-- the model of beaconry/beaconryref.Full -/
noncomputable def F38 (a0 : Int) (a1 : List (BitVec 32)) : Option (Bool) :=
  Option.bind (whileM (F38_L0 a0 a1) (0#32)) fun o3 => Ctl.on o3 (fun _ =>
  some true) (fun r => some r)

/-- the model of beaconry/beaconrylaw.QuorumFulls -/
noncomputable def F12 (a0 : Int) (a1 : List (BitVec 32)) : Option (Bool) :=
  Option.bind (F36 a0 a1) fun (r1, r2) =>
  Option.bind (F37 a0 a1) fun r4 =>
  cond ((r4 != 0))
  (some ((r2 == r4) && (!r1)))
  (Option.bind (cond ((r2 == 0)) (Option.bind (F38 a0 a1) fun r11 =>
  some (r1 == r11)) (some false)) fun b9 =>
  some b9)

noncomputable def F68_L0 (a0 : List Int) (a1 : Int → Option Bool) : Int → Option (Ctl (Int) (Unit) (Int)) := fun x1 =>
  cond ((decide (x1 < (a0.length : Int))))
  (Option.bind (idx a0 x1) fun x7 =>
  Option.bind (a1 x7) fun r9 =>
  cond (r9)
  (some (.ret x1))
  (some (.nxt (w64 (x1 + 1)))))
  (some (.brk ()))
/-- the model of slices.IndexFunc[[]int,int] -/
noncomputable def F68 (a0 : List Int) (a1 : Int → Option Bool) : Option (Int) :=
  Option.bind (whileM (F68_L0 a0 a1) 0) fun o3 => Ctl.on o3 (fun _ =>
  some (-1)) (fun r => some r)

/-- the model of slices.ContainsFunc[[]int,int] -/
noncomputable def F58 (a0 : List Int) (a1 : Int → Option Bool) : Option (Bool) :=
  Option.bind (F68 a0 a1) fun r1 =>
  some (decide (r1 ≥ 0))

/-- the model of beaconry/quorum.Votes$1 -/
noncomputable def F59 (a0 : Int) : Option (Bool) :=
  some ((decide (a0 < 0)) || (decide (a0 > 100)))

noncomputable def F60_L0 (a0 : BitVec 32) (a1 : List Int) : (Int × Int) → Option (Ctl (Int × Int) (Int) (Unit)) := fun (x1, x2) =>
  cond ((decide (x2 < (a1.length : Int))))
  (Option.bind (idx a1 x2) fun x10 =>
  Option.bind (shc x2) fun k12 =>
  some (.nxt (w64 (x1 + (w64 (x10 * (((a0 >>> k12) &&& (1#32)).toNat : Int)))), w64 (x2 + 1))))
  (some (.brk x1))
/-- the model of beaconry/quorum.Votes$2 -/
noncomputable def F60 (a0 : BitVec 32) (a1 : List Int) : Option (Int) :=
  Option.bind (whileM (F60_L0 a0 a1) (0, 0)) fun o6 => Ctl.on o6 (fun x5 =>
  some x5) (fun _ => none)

noncomputable def F39_L1 (a0 : List Int) (a1 : Int) (x14 : BitVec 32) : (Bool × Int) → Option (Ctl (Bool × Int) (Bool) (Unit)) := fun (b32, x33) =>
  cond ((decide (x33 < (a0.length : Int))))
  (Option.bind (cond (b32) (Option.bind (shc x33) fun k44 =>
  Option.bind (cond ((((x14 >>> k44) &&& (1#32)) == (0#32))) (some true) (Option.bind (shc x33) fun k49 =>
  Option.bind (F60 (x14 &&& ~~~((1#32) <<< k49)) a0) fun r51 =>
  some (decide (r51 < a1)))) fun b47 =>
  some b47) (some false)) fun b42 =>
  some (.nxt (b42, w64 (x33 + 1))))
  (some (.brk b32))
noncomputable def F39_L0 (a0 : List Int) (a1 : Int) (k9 : Nat) : ((List (BitVec 32)) × (BitVec 32)) → Option (Ctl ((List (BitVec 32)) × (BitVec 32)) ((List (BitVec 32))) (Unit)) := fun (y13, x14) =>
  cond ((decide (x14 < ((1#32) <<< k9))))
  (Option.bind (α := (List (BitVec 32))) (Option.bind (F60 x14 a0) fun r29 =>
  cond ((decide (r29 < a1)))
  (some y13)
  (Option.bind (whileM (F39_L1 a0 a1 x14) (true, 0)) fun o37 => Ctl.on o37 (fun b36 =>
  cond (b36)
  (Option.bind (appl 4 y13 ([x14] : List (BitVec 32))) fun (y56 : List (BitVec 32)) =>
  some y56)
  (some y13)) (fun _ => none)))
  fun y26 =>
  some (.nxt (y26, (x14 + (1#32)))))
  (some (.brk y13))
/-- the model of beaconry/quorum.Votes -/
noncomputable def F39 (a0 : List Int) (a1 : Int) : Option ((List (BitVec 32)) × Int) :=
  cond (((decide ((a0.length : Int) < 1)) || (decide ((a0.length : Int) > 6))))
  (some ([], 1))
  (Option.bind (F58 a0 (fun z => F59 z)) fun r5 =>
  cond ((r5 || (decide (a1 < 1))))
  (some ([], 4))
  (Option.bind (shc (a0.length : Int)) fun k9 =>
  Option.bind (whileM (F39_L0 a0 a1 k9) ([], 0#32)) fun o22 => Ctl.on o22 (fun y21 =>
  cond (((y21.length : Int) == 0))
  (some ([], 5))
  (some (y21, 0))) (fun _ => none)))

noncomputable def F40_L1 (a0 : List Int) (x5 : BitVec 32) : (Int × Int) → Option (Ctl (Int × Int) (Int) (Unit)) := fun (x20, x21) =>
  cond ((decide (x21 < (a0.length : Int))))
  (Option.bind (α := Int) (Option.bind (idx a0 x21) fun x31 =>
  Option.bind (F29 x5 x21) fun r33 =>
  cond (r33)
  (some (w64 (x20 + x31)))
  (some x20))
  fun x29 =>
  some (.nxt (x29, w64 (x21 + 1))))
  (some (.brk x20))
noncomputable def F40_L3 (y12 : List (BitVec 32)) (x60 : BitVec 32) : (Bool × Int) → Option (Ctl (Bool × Int) (Bool) (Unit)) := fun (b62, x63) =>
  cond ((decide (x63 < (y12.length : Int))))
  (Option.bind (idx y12 x63) fun x71 =>
  some (.nxt ((b62 && ((x71 == x60) || ((x71 ||| x60) != x60))), w64 (x63 + 1))))
  (some (.brk b62))
noncomputable def F40_L2 (y12 : List (BitVec 32)) : ((List (BitVec 32)) × Int) → Option (Ctl ((List (BitVec 32)) × Int) ((List (BitVec 32))) (Unit)) := fun (y44, x45) =>
  cond ((decide (x45 < (y12.length : Int))))
  (Option.bind (α := (List (BitVec 32))) (Option.bind (idx y12 x45) fun x60 =>
  Option.bind (whileM (F40_L3 y12 x60) (true, 0)) fun o67 => Ctl.on o67 (fun b66 =>
  cond (b66)
  (Option.bind (appl 4 y44 ([x60] : List (BitVec 32))) fun (y78 : List (BitVec 32)) =>
  some y78)
  (some y44)) (fun _ => none))
  fun y57 =>
  some (.nxt (y57, w64 (x45 + 1))))
  (some (.brk y44))
noncomputable def F40_L0 (a0 : List Int) (a1 : Int) : ((List (BitVec 32)) × (BitVec 32)) → Option (Ctl ((List (BitVec 32)) × (BitVec 32)) ((List (BitVec 32))) (Unit)) := fun (y4, x5) =>
  cond ((decide (x5 < ((1#32) <<< (u64 (a0.length : Int)).toNat))))
  (Option.bind (α := (List (BitVec 32))) (Option.bind (whileM (F40_L1 a0 x5) (0, 0)) fun o25 => Ctl.on o25 (fun x24 =>
  cond ((decide (x24 ≥ a1)))
  (Option.bind (appl 4 y4 ([x5] : List (BitVec 32))) fun (y39 : List (BitVec 32)) =>
  some y39)
  (some y4)) (fun _ => none))
  fun y17 =>
  some (.nxt (y17, (x5 + (1#32)))))
  (some (.brk y4))
/-- the model of beaconry/beaconryref.Votes -/
noncomputable def F40 (a0 : List Int) (a1 : Int) : Option ((List (BitVec 32))) :=
  Option.bind (whileM (F40_L0 a0 a1) ([], 0#32)) fun o13 => Ctl.on o13 (fun y12 =>
  Option.bind (whileM (F40_L2 y12) ([], 0)) fun o53 => Ctl.on o53 (fun y52 =>
  some y52) (fun _ => none)) (fun _ => none)

noncomputable def F41_L0 (a0 : List (BitVec 32)) (a1 : List (BitVec 32)) : Int → Option (Ctl (Int) (Unit) (Bool)) := fun x2 =>
  cond ((decide (x2 < (a0.length : Int))))
  (Option.bind (idx a0 x2) fun x8 =>
  Option.bind (idx a1 x2) fun x10 =>
  cond ((x8 != x10))
  (some (.ret false))
  (some (.nxt (w64 (x2 + 1)))))
  (some (.brk ()))
/-- the model of beaconry/beaconryref.Words -/
noncomputable def F41 (a0 : List (BitVec 32)) (a1 : List (BitVec 32)) : Option (Bool) :=
  cond (((a0.length : Int) != (a1.length : Int)))
  (some false)
  (Option.bind (whileM (F41_L0 a0 a1) 0) fun o4 => Ctl.on o4 (fun _ =>
  some true) (fun r => some r))

noncomputable def F13_L0 (a0 : List Int) : (Int × Int) → Option (Ctl (Int × Int) (Int) (Unit)) := fun (x10, x11) =>
  cond ((decide (x11 < (a0.length : Int))))
  (Option.bind (α := Int) (Option.bind (idx a0 x11) fun x21 =>
  cond (((x10 == 0) && ((decide (x21 < 0)) || (decide (x21 > 100)))))
  (some 4)
  (some x10))
  fun x19 =>
  some (.nxt (x19, w64 (x11 + 1))))
  (some (.brk x10))
/-- the model of beaconry/beaconrylaw.QuorumVotes -/
noncomputable def F13 (a0 : List Int) (a1 : Int) : Option (Bool) :=
  Option.bind (F39 a0 a1) fun (r1, r2) =>
  Option.bind (α := Int) (cond (((decide ((a0.length : Int) < 1)) || (decide ((a0.length : Int) > 6))))
  (some 1)
  (some 0))
  fun x7 =>
  Option.bind (whileM (F13_L0 a0) (x7, 0)) fun o15 => Ctl.on o15 (fun x14 =>
  Option.bind (α := Int) (cond (((x14 == 0) && (decide (a1 < 1))))
  (some 4)
  (some x14))
  fun x27 =>
  Option.bind (cond ((x27 == 0)) (Option.bind (F40 a0 a1) fun r33 =>
  some ((r33.length : Int) == 0)) (some false)) fun b31 =>
  Option.bind (α := Int) (cond (b31)
  (some 5)
  (some x27))
  fun x37 =>
  cond ((x37 != 0))
  (some ((r2 == x37) && ((r1.length : Int) == 0)))
  (Option.bind (cond ((r2 == 0)) (Option.bind (F40 a0 a1) fun r45 =>
  Option.bind (F41 r1 r45) fun r49 =>
  some r49) (some false)) fun b43 =>
  some b43)) (fun _ => none)

/-- the model of slices.Clone[[]uint32,uint32] -/
noncomputable def F61 (a0 : List (BitVec 32)) : Option (List (BitVec 32)) := appl 4 ([] : List (BitVec 32)) a0

/-- the model of beaconry/quorum.Better$1 -/
noncomputable def F63 (a0 : BitVec 32) (a1 : BitVec 32) : Option (Bool) :=
  some ((a1 &&& ~~~a0) == (0#32))

noncomputable def F62_L0 (a1 : (BitVec 32) → Option Bool) : ((List (BitVec 32)) × Int × Int) → Option (Ctl ((List (BitVec 32)) × Int × Int) ((List (BitVec 32)) × Int) (Unit)) := fun (y6, x8, x9) =>
  cond ((decide (x9 < (y6.length : Int))))
  (Option.bind (α := (List (BitVec 32)) × Int) (Option.bind (idx y6 x9) fun x25 =>
  Option.bind (a1 x25) fun r27 =>
  cond ((!r27))
  (Option.bind (idx y6 x8) fun x30 =>
  some (y6.set x8.toNat x25, w64 (x8 + 1)))
  (some (y6, x8)))
  fun (y21, x23) =>
  some (.nxt (y21, x23, w64 (x9 + 1))))
  (some (.brk (y6, x8)))
/-- the model of slices.DeleteFunc[[]uint32,uint32] -/
noncomputable def F62 (a0 : List (BitVec 32)) (a1 : (BitVec 32) → Option Bool) : Option ((List (BitVec 32))) :=
  Option.bind (F69 a0 a1) fun r3 =>
  cond ((r3 == (-1)))
  (some a0)
  (Option.bind (whileM (F62_L0 a1) (a0, r3, w64 (r3 + 1))) fun o17 => Ctl.on o17 (fun (y14, x16) =>
  Option.bind (slI y14 x16 (y14.length : Int)) fun y32 =>
  Option.bind (slI (y14.take x16.toNat ++ List.replicate (y14.length - x16.toNat) 0) 0 x16) fun y35 =>
  some y35) (fun _ => none))

/-- the model of beaconry/quorum.Better -/
noncomputable def F42 (a0 : Int) (a1 : List (BitVec 32)) : Option ((List (BitVec 32)) × Int) :=
  Option.bind (F54 a0 a1 (0#32)) fun r2 =>
  cond ((r2 != 0))
  (some ([], r2))
  (Option.bind (F56 a1) fun r5 =>
  cond ((!r5))
  (some ([], 3))
  (Option.bind (F61 a1) fun r8 =>
  Option.bind (F57 a0 r8) fun (r12, r13) =>
  cond ((!r13))
  (some (r8, 0))
  (Option.bind (shc a0) fun k16 =>
  Option.bind (F62 r8 (fun z => F63 z ((((1#32) <<< k16) - (1#32)) - r12))) fun r19 =>
  Option.bind (appl 4 r19 ([((((1#32) <<< k16) - (1#32)) - r12)] : List (BitVec 32))) fun (y25 : List (BitVec 32)) =>
  cond ((decide ((y25.length : Int) > 20)))
  (some ([], 1))
  (some (y25, 0)))))

noncomputable def F14_L0 (a0 : Int) (a1 : List (BitVec 32)) (r1 : List (BitVec 32)) : (Bool × (BitVec 32)) → Option (Ctl (Bool × (BitVec 32)) (Bool) (Bool)) := fun (b33, x34) =>
  cond ((decide (x34 < ((1#32) <<< (u64 a0).toNat))))
  (Option.bind (F33 a1 x34) fun r42 =>
  Option.bind (cond (r42) (Option.bind (F33 r1 x34) fun r47 =>
  some (!r47)) (some false)) fun b45 =>
  cond (b45)
  (some (.ret false))
  (Option.bind (cond (b33) (some true) (Option.bind (F33 r1 x34) fun r53 =>
  Option.bind (cond (r53) (Option.bind (F33 a1 x34) fun r58 =>
  some (!r58)) (some false)) fun b56 =>
  some b56)) fun b51 =>
  some (.nxt (b51, (x34 + (1#32))))))
  (some (.brk b33))
/-- the model of beaconry/beaconrylaw.QuorumBetters -/
noncomputable def F14 (a0 : Int) (a1 : List (BitVec 32)) : Option (Bool) :=
  Option.bind (F42 a0 a1) fun (r1, r2) =>
  Option.bind (F37 a0 a1) fun r6 =>
  cond ((r6 != 0))
  (some ((r2 == r6) && ((r1.length : Int) == 0)))
  (cond ((r2 == 1))
  (Option.bind (cond ((((r1.length : Int) == 0) && ((a1.length : Int) == 20))) (Option.bind (F38 a0 a1) fun r15 =>
  some (!r15)) (some false)) fun b13 =>
  some b13)
  (Option.bind (cond ((r2 != 0)) (some true) (Option.bind (F32 a0 r1 (0#32)) fun r20 =>
  some (r20 != 0))) fun b18 =>
  Option.bind (cond (b18) (some true) (Option.bind (F35 r1) fun r25 =>
  some (!r25))) fun b23 =>
  cond (b23)
  (some false)
  (Option.bind (F38 a0 a1) fun r28 =>
  cond (r28)
  (Option.bind (F41 r1 a1) fun r31 =>
  some r31)
  (Option.bind (whileM (F14_L0 a0 a1 r1) (false, 0#32)) fun o38 => Ctl.on o38 (fun b37 =>
  some b37) (fun r => some r)))))
end Go.Proofs.Ytmlfflaelbofmaa
