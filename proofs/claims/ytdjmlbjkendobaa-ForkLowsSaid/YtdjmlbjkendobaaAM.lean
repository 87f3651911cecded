/-
  Pure models of Go functions, written by a program (gen.py).
-/
import Derived.Test.YtdjmlbjkendobaaBk8
namespace Go.Proofs.Ytdjmlbjkendobaa
open Go Go.Bk
set_option linter.unusedVariables false
@[reducible] def cTii (x : Int × Int) : List Value := [I x.1, I x.2]
noncomputable def F89_L0 (a0 : List (Int × Int)) (a1 : Int × Int) : Int → Option (Ctl (Int) (Unit) (Int)) := fun x2 =>
  cond ((decide (x2 < (a0.length : Int))))
  (Option.bind (idx a0 x2) fun x8 =>
  cond ((a1.1 == x8.1 && a1.2 == x8.2))
  (some (.ret x2))
  (some (.nxt (w64 (x2 + 1)))))
  (some (.brk ()))
/-- the model of slices.Index[[][2]int,[2]int] -/
noncomputable def F89 (a0 : List (Int × Int)) (a1 : Int × Int) : Option (Int) :=
  Option.bind (whileM (F89_L0 a0 a1) 0) fun o4 => Ctl.on o4 (fun _ =>
  some (-1)) (fun r => some r)

/-- the model of slices.Contains[[][2]int,[2]int] -/
noncomputable def F77 (a0 : List (Int × Int)) (a1 : Int × Int) : Option (Bool) :=
  Option.bind (F89 a0 (a1.1, a1.2)) fun r2 =>
  some (decide (r2 ≥ 0))

noncomputable def F49_L1 (a1 : List (Int × Int)) : Int → Option (Ctl (Int) (Unit) (Int)) := fun x16 =>
  cond ((decide (x16 < (a1.length : Int))))
  (Option.bind (idx a1 x16) fun x22 =>
  Option.bind (slI a1 0 x16) fun y25 =>
  Option.bind (F77 y25 (x22.1, x22.2)) fun r28 =>
  Option.bind (cond (r28) (some true) (Option.bind (slI a1 0 x16) fun y33 =>
  Option.bind (F77 y33 (x22.2, x22.1)) fun r36 =>
  some r36)) fun b31 =>
  cond (b31)
  (some (.ret 3))
  (some (.nxt (w64 (x16 + 1)))))
  (some (.brk ()))
noncomputable def F49_L0 (a0 : Int) (a1 : List (Int × Int)) : Int → Option (Ctl (Int) (Unit) (Int)) := fun x4 =>
  cond ((decide (x4 < (a1.length : Int))))
  (Option.bind (idx a1 x4) fun x10 =>
  cond ((((decide ((mn x10.1 x10.2) < 0)) || (decide ((mx x10.1 x10.2) ≥ a0))) || (x10.1 == x10.2)))
  (some (.ret 2))
  (some (.nxt (w64 (x4 + 1)))))
  (some (.brk ()))
/-- the model of beaconry/fork.Check -/
noncomputable def F49 (a0 : Int) (a1 : List (Int × Int)) : Option (Int) :=
  cond ((((decide (a0 < 1)) || (decide (a0 > 6))) || (decide ((a1.length : Int) > 15))))
  (some 1)
  (Option.bind (whileM (F49_L0 a0 a1) 0) fun o6 => Ctl.on o6 (fun _ =>
  Option.bind (whileM (F49_L1 a1) 0) fun o18 => Ctl.on o18 (fun _ =>
  some 0) (fun r => some r)) (fun r => some r))

noncomputable def F50_L0 (a1 : List (Int × Int)) : ((BitVec 32) × Int) → Option (Ctl ((BitVec 32) × Int) ((BitVec 32)) (Unit)) := fun (x3, x4) =>
  cond ((decide (x4 < (a1.length : Int))))
  (Option.bind (idx a1 x4) fun x12 =>
  Option.bind (shc x12.1) fun k15 =>
  some (.nxt ((x3 &&& ~~~((1#32) <<< k15)), w64 (x4 + 1))))
  (some (.brk x3))
/-- the model of beaconry/fork.low -/
noncomputable def F50 (a0 : Int) (a1 : List (Int × Int)) : Option ((BitVec 32)) :=
  Option.bind (shc a0) fun k1 =>
  Option.bind (whileM (F50_L0 a1) ((((1#32) <<< k1) - (1#32)), 0)) fun o8 => Ctl.on o8 (fun x7 =>
  some x7) (fun _ => none)

/-- the model of beaconry/fork.Low -/
noncomputable def F19 (a0 : Int) (a1 : List (Int × Int)) : Option ((BitVec 32) × Int) :=
  Option.bind (F49 a0 a1) fun r1 =>
  cond ((r1 != 0))
  (some (0#32, r1))
  (Option.bind (F50 a0 a1) fun r4 =>
  some (r4, 0))

noncomputable def F42_L0 (a0 : Int) (a1 : List (Int × Int)) : Int → Option (Ctl (Int) (Unit) (Int)) := fun x4 =>
  cond ((decide (x4 < (a1.length : Int))))
  (Option.bind (idx a1 x4) fun x10 =>
  cond ((((((decide (x10.1 < 0)) || (decide (x10.1 ≥ a0))) || (decide (x10.2 < 0))) || (decide (x10.2 ≥ a0))) || (x10.1 == x10.2)))
  (some (.ret 2))
  (some (.nxt (w64 (x4 + 1)))))
  (some (.brk ()))
/-- the model of beaconry/beaconryref.LinksCheck -/
noncomputable def F42 (a0 : Int) (a1 : List (Int × Int)) : Option (Int) :=
  cond ((((decide (a0 < 1)) || (decide (a0 > 6))) || (decide ((a1.length : Int) > 15))))
  (some 1)
  (Option.bind (whileM (F42_L0 a0 a1) 0) fun o6 => Ctl.on o6 (fun _ =>
  some 0) (fun r => some r))

noncomputable def F43_L1 (x7 : Int × Int) (y10 : List (Int × Int)) : Int → Option (Ctl (Int) (Unit) (Bool)) := fun x13 =>
  cond ((decide (x13 < (y10.length : Int))))
  (Option.bind (idx y10 x13) fun x19 =>
  cond ((((x7.1 == x19.1) && (x7.2 == x19.2)) || ((x7.1 == x19.2) && (x7.2 == x19.1))))
  (some (.ret true))
  (some (.nxt (w64 (x13 + 1)))))
  (some (.brk ()))
noncomputable def F43_L0 (a0 : List (Int × Int)) : Int → Option (Ctl (Int) (Unit) (Bool)) := fun x1 =>
  cond ((decide (x1 < (a0.length : Int))))
  (Option.bind (idx a0 x1) fun x7 =>
  Option.bind (slI a0 0 x1) fun y10 =>
  Option.bind (whileM (F43_L1 x7 y10) 0) fun o15 => Ctl.on o15 (fun _ =>
  some (.nxt (w64 (x1 + 1)))) (fun r => some (.ret r)))
  (some (.brk ()))
/-- the model of beaconry/beaconryref.Twice -/
noncomputable def F43 (a0 : List (Int × Int)) : Option (Bool) :=
  Option.bind (whileM (F43_L0 a0) 0) fun o3 => Ctl.on o3 (fun _ =>
  some false) (fun r => some r)

/-- the model of beaconry/beaconrylaw.forkCode -/
noncomputable def F20 (a0 : Int) (a1 : List (Int × Int)) : Option (Int) :=
  Option.bind (F42 a0 a1) fun r1 =>
  Option.bind (cond ((r1 == 0)) (Option.bind (F43 a1) fun r6 =>
  some r6) (some false)) fun b4 =>
  Option.bind (α := Int) (cond (b4)
  (some 3)
  (some r1))
  fun x8 =>
  some x8

noncomputable def F21_L1 (a1 : List (Int × Int)) (x2 : Int) : (Bool × Int) → Option (Ctl (Bool × Int) (Bool) (Unit)) := fun (b12, x13) =>
  cond ((decide (x13 < (a1.length : Int))))
  (Option.bind (idx a1 x13) fun x21 =>
  some (.nxt ((b12 && (x21.1 != x2)), w64 (x13 + 1))))
  (some (.brk b12))
noncomputable def F21_L0 (a0 : Int) (a1 : List (Int × Int)) : ((BitVec 32) × Int) → Option (Ctl ((BitVec 32) × Int) ((BitVec 32)) (Unit)) := fun (x1, x2) =>
  cond ((decide (x2 < a0)))
  (Option.bind (α := (BitVec 32)) (Option.bind (whileM (F21_L1 a1 x2) (true, 0)) fun o17 => Ctl.on o17 (fun b16 =>
  cond (b16)
  (some (x1 + ((1#32) <<< (u64 x2).toNat)))
  (some x1)) (fun _ => none))
  fun x10 =>
  some (.nxt (x10, w64 (x2 + 1))))
  (some (.brk x1))
/-- the model of beaconry/beaconryref.Low -/
noncomputable def F21 (a0 : Int) (a1 : List (Int × Int)) : Option ((BitVec 32)) :=
  Option.bind (whileM (F21_L0 a0 a1) (0#32, 0)) fun o6 => Ctl.on o6 (fun x5 =>
  some x5) (fun _ => none)

/-- the model of beaconry/beaconrylaw.ForkLows -/
noncomputable def F5 (a0 : Int) (a1 : List (Int × Int)) : Option (Bool) :=
  Option.bind (F19 a0 a1) fun (r1, r2) =>
  Option.bind (F20 a0 a1) fun r4 =>
  cond ((r4 != 0))
  (some ((r2 == r4) && (r1 == (0#32))))
  (Option.bind (cond ((r2 == 0)) (Option.bind (F21 a0 a1) fun r11 =>
  some (r1 == r11)) (some false)) fun b9 =>
  some b9)
end Go.Proofs.Ytdjmlbjkendobaa
