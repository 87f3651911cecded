/-
  Pure models of Go functions, written by a program (gen.py).
-/
import Derived.Test.YtmlfflaelbofmaaBk5
namespace Go.Proofs.Ytmlfflaelbofmaa
open Go Go.Bk
set_option linter.unusedVariables false
@[reducible] def cTiiibi (x : Int × Int × Int × Bool × Int) : List Value := [I x.1, I x.2.1, I x.2.2.1, .bool x.2.2.2.1, I x.2.2.2.2]
/-- the model of beaconry/beaconryref.Bit -/
noncomputable def F29 (a0 : BitVec 32) (a1 : Int) : Option (Bool) :=
  some (((decide (a1 ≥ 0)) && (decide (a1 < 32))) && ((a0 &&& ((1#32) <<< (u64 a1).toNat)) != (0#32)))

/-- the model of beaconry/line.ended -/
noncomputable def F47 (a0 : Int × Int × Int × Bool × Int) (a1 : Int × Int × Int × Bool × Int) : Option (Bool) :=
  some (decide (a0.2.2.1 < a1.2.1))

/-- the model of beaconry/line.same -/
noncomputable def F44 (a0 : Int × Int × Int × Bool × Int) (a1 : Int × Int × Int × Bool × Int) : Option (Bool) :=
  some ((a0.1 == a1.1) && (decide (a0.2.1 < a1.2.1)))

noncomputable def F45_L0 (a0 : List Int) (a1 : Int) : Int → Option (Ctl (Int) (Unit) (Bool)) := fun x1 =>
  cond ((decide (x1 < (a0.length : Int))))
  (Option.bind (idx a0 x1) fun x7 =>
  cond ((a1 == x7))
  (some (.ret true))
  (some (.nxt (w64 (x1 + 1)))))
  (some (.brk ()))
/-- the model of beaconry/beaconryref.Has -/
noncomputable def F45 (a0 : List Int) (a1 : Int) : Option (Bool) :=
  Option.bind (whileM (F45_L0 a0 a1) 0) fun o3 => Ctl.on o3 (fun _ =>
  some false) (fun r => some r)

noncomputable def F21_L0 (a0 : List Int) (a1 : List Int) : Int → Option (Ctl (Int) (Unit) (Bool)) := fun x2 =>
  cond ((decide (x2 < (a0.length : Int))))
  (Option.bind (idx a0 x2) fun x8 =>
  Option.bind (idx a1 x2) fun x10 =>
  cond ((x8 != x10))
  (some (.ret false))
  (some (.nxt (w64 (x2 + 1)))))
  (some (.brk ()))
/-- the model of beaconry/beaconryref.Ints -/
noncomputable def F21 (a0 : List Int) (a1 : List Int) : Option (Bool) :=
  cond (((a0.length : Int) != (a1.length : Int)))
  (some false)
  (Option.bind (whileM (F21_L0 a0 a1) 0) fun o4 => Ctl.on o4 (fun _ =>
  some true) (fun r => some r))

noncomputable def F41_L0 (a0 : List (BitVec 32)) (a1 : List (BitVec 32)) : Int → Option (Ctl (Int) (Unit) (Bool)) := fun x2 =>
  cond ((decide (x2 < (a0.length : Int))))
  (Option.bind (idx a0 x2) fun x8 =>
  Option.bind (idx a1 x2) fun x10 =>
  cond ((x8 != x10))
  (some (.ret false))
  (some (.nxt (w64 (x2 + 1)))))
  (some (.brk ()))
/-- the model of beaconry/beaconryref.Words -/
noncomputable def F41 (a0 : List (BitVec 32)) (a1 : List (BitVec 32)) : Option (Bool) :=
  cond (((a0.length : Int) != (a1.length : Int)))
  (some false)
  (Option.bind (whileM (F41_L0 a0 a1) 0) fun o4 => Ctl.on o4 (fun _ =>
  some true) (fun r => some r))

noncomputable def F30_L0 (a0 : BitVec 32) : (Int × Int) → Option (Ctl (Int × Int) (Int) (Int)) := fun (x1, x2) =>
  cond ((decide (x2 < 32)))
  (Option.bind (α := Int) (Option.bind (F29 a0 x2) fun r12 =>
  cond (r12)
  (some (w64 (x1 + 1)))
  (some x1))
  fun x10 =>
  some (.nxt (x10, w64 (x2 + 1))))
  (some (.brk x1))
/-- the model of beaconry/beaconryref.Size -/
noncomputable def F30 (a0 : BitVec 32) : Option (Int) :=
  Option.bind (whileM (F30_L0 a0) (0, 0)) fun o6 => Ctl.on o6 (fun x5 =>
  some x5) (fun r => some r)

noncomputable def F23_L0 (a0 : List (BitVec 32)) : Int → Option (Ctl (Int) (Unit) (Int)) := fun x3 =>
  cond ((decide (x3 < (a0.length : Int))))
  (Option.bind (idx a0 x3) fun x9 =>
  cond ((decide (((1#32) <<< (u64 (a0.length : Int)).toNat) ≤ x9)))
  (some (.ret 4))
  (some (.nxt (w64 (x3 + 1)))))
  (some (.brk ()))
/-- the model of beaconry/beaconryref.WaitCheck -/
noncomputable def F23 (a0 : List (BitVec 32)) : Option (Int) :=
  cond (((decide ((a0.length : Int) < 1)) || (decide ((a0.length : Int) > 6))))
  (some 1)
  (Option.bind (whileM (F23_L0 a0) 0) fun o5 => Ctl.on o5 (fun _ =>
  some 0) (fun r => some r))

noncomputable def F33_L0 (a0 : List (BitVec 32)) (a1 : BitVec 32) : Int → Option (Ctl (Int) (Unit) (Bool)) := fun x1 =>
  cond ((decide (x1 < (a0.length : Int))))
  (Option.bind (idx a0 x1) fun x7 =>
  cond (((x7 ||| a1) == a1))
  (some (.ret true))
  (some (.nxt (w64 (x1 + 1)))))
  (some (.brk ()))
/-- the model of beaconry/beaconryref.Wins -/
noncomputable def F33 (a0 : List (BitVec 32)) (a1 : BitVec 32) : Option (Bool) :=
  Option.bind (whileM (F33_L0 a0 a1) 0) fun o3 => Ctl.on o3 (fun _ =>
  some false) (fun r => some r)

noncomputable def F15_L2 (x18 : Int × Int × Int × Bool × Int) (y21 : List (Int × Int × Int × Bool × Int)) : Int → Option (Ctl (Int) (Unit) (Int)) := fun x24 =>
  cond ((decide (x24 < (y21.length : Int))))
  (Option.bind (idx y21 x24) fun x30 =>
  cond ((((x18.1 == x30.1) && (decide (x18.2.2.1 > x30.2.1))) && (decide (x30.2.2.1 > x18.2.1))))
  (some (.ret 3))
  (some (.nxt (w64 (x24 + 1)))))
  (some (.brk ()))
noncomputable def F15_L1 (a0 : List (Int × Int × Int × Bool × Int)) : Int → Option (Ctl (Int) (Unit) (Int)) := fun x12 =>
  cond ((decide (x12 < (a0.length : Int))))
  (Option.bind (idx a0 x12) fun x18 =>
  Option.bind (slI a0 0 x12) fun y21 =>
  Option.bind (whileM (F15_L2 x18 y21) 0) fun o26 => Ctl.on o26 (fun _ =>
  some (.nxt (w64 (x12 + 1)))) (fun r => some (.ret r)))
  (some (.brk ()))
noncomputable def F15_L0 (a0 : List (Int × Int × Int × Bool × Int)) : Int → Option (Ctl (Int) (Unit) (Int)) := fun x2 =>
  cond ((decide (x2 < (a0.length : Int))))
  (Option.bind (idx a0 x2) fun x8 =>
  cond ((decide (x8.2.2.1 ≤ x8.2.1)))
  (some (.ret 4))
  (some (.nxt (w64 (x2 + 1)))))
  (some (.brk ()))
/-- the model of beaconry/line.Check -/
noncomputable def F15 (a0 : List (Int × Int × Int × Bool × Int)) : Option (Int) :=
  cond ((decide ((a0.length : Int) > 8)))
  (some 1)
  (Option.bind (whileM (F15_L0 a0) 0) fun o4 => Ctl.on o4 (fun _ =>
  Option.bind (whileM (F15_L1 a0) 0) fun o14 => Ctl.on o14 (fun _ =>
  some 0) (fun r => some r)) (fun r => some r))

noncomputable def F16_L2 (a0 : List (Int × Int × Int × Bool × Int)) (x12 : Int) (x18 : Int × Int × Int × Bool × Int) : Int → Option (Ctl (Int) (Unit) (Int)) := fun x21 =>
  cond ((decide (x21 < (a0.length : Int))))
  (Option.bind (idx a0 x21) fun x27 =>
  cond ((((x12 != x21) && (x18.1 == x27.1)) && (!((decide (x18.2.2.1 ≤ x27.2.1)) || (decide (x27.2.2.1 ≤ x18.2.1))))))
  (some (.ret 3))
  (some (.nxt (w64 (x21 + 1)))))
  (some (.brk ()))
noncomputable def F16_L1 (a0 : List (Int × Int × Int × Bool × Int)) : Int → Option (Ctl (Int) (Unit) (Int)) := fun x12 =>
  cond ((decide (x12 < (a0.length : Int))))
  (Option.bind (idx a0 x12) fun x18 =>
  Option.bind (whileM (F16_L2 a0 x12 x18) 0) fun o23 => Ctl.on o23 (fun _ =>
  some (.nxt (w64 (x12 + 1)))) (fun r => some (.ret r)))
  (some (.brk ()))
noncomputable def F16_L0 (a0 : List (Int × Int × Int × Bool × Int)) : Int → Option (Ctl (Int) (Unit) (Int)) := fun x2 =>
  cond ((decide (x2 < (a0.length : Int))))
  (Option.bind (idx a0 x2) fun x8 =>
  cond ((decide (x8.2.2.1 ≤ x8.2.1)))
  (some (.ret 4))
  (some (.nxt (w64 (x2 + 1)))))
  (some (.brk ()))
/-- the model of beaconry/beaconryref.LineCheck -/
noncomputable def F16 (a0 : List (Int × Int × Int × Bool × Int)) : Option (Int) :=
  cond ((decide ((a0.length : Int) > 8)))
  (some 1)
  (Option.bind (whileM (F16_L0 a0) 0) fun o4 => Ctl.on o4 (fun _ =>
  Option.bind (whileM (F16_L1 a0) 0) fun o14 => Ctl.on o14 (fun _ =>
  some 0) (fun r => some r)) (fun r => some r))

/-- the model of beaconry/beaconrylaw.LineChecks -/
noncomputable def F3 (a0 : List (Int × Int × Int × Bool × Int)) : Option (Bool) :=
  Option.bind (F15 a0) fun r1 =>
  Option.bind (F16 a0) fun r3 =>
  some (r1 == r3)
end Go.Proofs.Ytmlfflaelbofmaa
