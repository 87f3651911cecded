/-
  Pure models of Go functions, written by a program (gen.py).
-/
import Derived.Test.YtdjmlbjkendobaaBk11
namespace Go.Proofs.Ytdjmlbjkendobaa
open Go Go.Bk
set_option linter.unusedVariables false

noncomputable def F75_L0 (a0 : List Int) : (Int × Int) → Option (Ctl (Int × Int) (Int) (Unit)) := fun (x4, x5) =>
  cond ((decide (x5 < (a0.length : Int))))
  (Option.bind (idx a0 x5) fun x13 =>
  some (.nxt (mn x4 x13, w64 (x5 + 1))))
  (some (.brk x4))
/-- the model of slices.Min[[]int,int] -/
noncomputable def F75 (a0 : List Int) : Option (Int) :=
  cond ((decide ((a0.length : Int) < 1)))
  (none)
  (Option.bind (idx a0 0) fun x2 =>
  Option.bind (whileM (F75_L0 a0) (x2, 1)) fun o9 => Ctl.on o9 (fun x8 =>
  some x8) (fun _ => none))

/-- the model of beaconry/vector.Check -/
noncomputable def F46 (a0 : List Int) (a1 : List Int) : Option (Int) :=
  cond (((decide ((a0.length : Int) < 1)) || (decide ((a0.length : Int) > 6))))
  (some 1)
  (cond (((a1.length : Int) != (a0.length : Int)))
  (some 3)
  (Option.bind (F75 a0) fun r4 =>
  Option.bind (cond ((decide (r4 < 0))) (some true) (Option.bind (F75 a1) fun r9 =>
  some (decide (r9 < 0)))) fun b7 =>
  cond (b7)
  (some 4)
  (some 0)))

noncomputable def F47_L0 (a0 : List Int) (a1 : List Int) : Int → Option (Ctl (Int) (Unit) (Bool)) := fun x1 =>
  cond ((decide (x1 < (a0.length : Int))))
  (Option.bind (idx a0 x1) fun x7 =>
  Option.bind (idx a1 x1) fun x9 =>
  cond ((decide (x7 > x9)))
  (some (.ret false))
  (some (.nxt (w64 (x1 + 1)))))
  (some (.brk ()))
/-- the model of beaconry/vector.Under -/
noncomputable def F47 (a0 : List Int) (a1 : List Int) : Option (Bool) :=
  Option.bind (whileM (F47_L0 a0 a1) 0) fun o3 => Ctl.on o3 (fun _ =>
  some true) (fun r => some r)

/-- the model of beaconry/vector.Less -/
noncomputable def F15 (a0 : List Int) (a1 : List Int) : Option (Bool × Int) :=
  Option.bind (F46 a0 a1) fun r1 =>
  cond ((r1 != 0))
  (some (false, r1))
  (Option.bind (F47 a0 a1) fun r4 =>
  Option.bind (cond (r4) (Option.bind (F47 a1 a0) fun r9 =>
  some (!r9)) (some false)) fun b7 =>
  some (b7, 0))

noncomputable def F16_L1 (x12 : List Int) : Int → Option (Ctl (Int) (Unit) (Int)) := fun x17 =>
  cond ((decide (x17 < (x12.length : Int))))
  (Option.bind (idx x12 x17) fun x23 =>
  cond ((decide (x23 < 0)))
  (some (.ret 4))
  (some (.nxt (w64 (x17 + 1)))))
  (some (.brk ()))
noncomputable def F16_L0 (a0 : List Int) (a1 : List Int) : Int → Option (Ctl (Int) (Unit) (Int)) := fun x6 =>
  cond ((decide (x6 < 2)))
  (Option.bind (idx ([a0, a1] : List (List Int)) x6) fun (x12 : List Int) =>
  Option.bind (whileM (F16_L1 x12) 0) fun o19 => Ctl.on o19 (fun _ =>
  some (.nxt (w64 (x6 + 1)))) (fun r => some (.ret r)))
  (some (.brk ()))
/-- the model of beaconry/beaconryref.VectorsCheck -/
noncomputable def F16 (a0 : List Int) (a1 : List Int) : Option (Int) :=
  cond (((decide ((a0.length : Int) < 1)) || (decide ((a0.length : Int) > 6))))
  (some 1)
  (cond (((a1.length : Int) != (a0.length : Int)))
  (some 3)
  (Option.bind (whileM (F16_L0 a0 a1) 0) fun o8 => Ctl.on o8 (fun _ =>
  some 0) (fun r => some r)))

noncomputable def F17_L0 (a0 : List Int) (a1 : List Int) : (Bool × Int) → Option (Ctl (Bool × Int) (Bool) (Bool)) := fun (b1, x2) =>
  cond ((decide (x2 < (a0.length : Int))))
  (Option.bind (idx a0 x2) fun x10 =>
  Option.bind (idx a1 x2) fun x12 =>
  cond ((decide (x10 > x12)))
  (some (.ret false))
  (Option.bind (cond (b1) (some true) (Option.bind (idx a0 x2) fun x18 =>
  Option.bind (idx a1 x2) fun x20 =>
  some (decide (x18 < x20)))) fun b16 =>
  some (.nxt (b16, w64 (x2 + 1)))))
  (some (.brk b1))
/-- the model of beaconry/beaconryref.Less -/
noncomputable def F17 (a0 : List Int) (a1 : List Int) : Option (Bool) :=
  Option.bind (whileM (F17_L0 a0 a1) (false, 0)) fun o6 => Ctl.on o6 (fun b5 =>
  some b5) (fun r => some r)

/-- the model of beaconry/beaconrylaw.VectorLess -/
noncomputable def F3 (a0 : List Int) (a1 : List Int) : Option (Bool) :=
  Option.bind (F15 a0 a1) fun (r1, r2) =>
  Option.bind (F16 a0 a1) fun r4 =>
  cond ((r4 != 0))
  (some ((r2 == r4) && (!r1)))
  (Option.bind (cond ((r2 == 0)) (Option.bind (F17 a0 a1) fun r11 =>
  some (r1 == r11)) (some false)) fun b9 =>
  some b9)

/-- the model of slices.Clone[[]int,int] -/
noncomputable def F76 (a0 : List Int) : Option (List Int) := appl 8 ([] : List Int) a0

noncomputable def F48_L0 (a1 : List Int) : ((List Int) × Int) → Option (Ctl ((List Int) × Int) ((List Int)) (Unit)) := fun (y5, x7) =>
  cond ((decide (x7 < (a1.length : Int))))
  (Option.bind (idx a1 x7) fun x17 =>
  Option.bind (idx y5 x7) fun x19 =>
  Option.bind (idx y5 x7) fun x21 =>
  some (.nxt (y5.set x7.toNat (mx x19 x17), w64 (x7 + 1))))
  (some (.brk y5))
/-- the model of beaconry/vector.join -/
noncomputable def F48 (a0 : List Int) (a1 : List Int) : Option ((List Int)) :=
  Option.bind (F76 a0) fun r1 =>
  Option.bind (whileM (F48_L0 a1) (r1, 0)) fun o13 => Ctl.on o13 (fun y11 =>
  some y11) (fun _ => none)

/-- the model of beaconry/vector.Join -/
noncomputable def F18 (a0 : List Int) (a1 : List Int) : Option ((List Int) × Int) :=
  Option.bind (F46 a0 a1) fun r1 =>
  cond ((r1 != 0))
  (some ([], r1))
  (Option.bind (F48 a0 a1) fun r4 =>
  some (r4, 0))

noncomputable def F4_L0 (a0 : List Int) (a1 : List Int) (r1 : List Int) : Int → Option (Ctl (Int) (Unit) (Bool)) := fun x12 =>
  cond ((decide (x12 < (r1.length : Int))))
  (Option.bind (idx r1 x12) fun x18 =>
  Option.bind (idx a0 x12) fun x20 =>
  Option.bind (cond ((decide (x18 < x20))) (some true) (Option.bind (idx r1 x12) fun x25 =>
  Option.bind (idx a1 x12) fun x27 =>
  some (decide (x25 < x27)))) fun b23 =>
  Option.bind (cond (b23) (some true) (Option.bind (idx r1 x12) fun x32 =>
  Option.bind (idx a0 x12) fun x34 =>
  Option.bind (cond ((x32 != x34)) (Option.bind (idx r1 x12) fun x39 =>
  Option.bind (idx a1 x12) fun x41 =>
  some (x39 != x41)) (some false)) fun b37 =>
  some b37)) fun b30 =>
  cond (b30)
  (some (.ret false))
  (some (.nxt (w64 (x12 + 1)))))
  (some (.brk ()))
/-- the model of beaconry/beaconrylaw.VectorJoins -/
noncomputable def F4 (a0 : List Int) (a1 : List Int) : Option (Bool) :=
  Option.bind (F18 a0 a1) fun (r1, r2) =>
  Option.bind (F16 a0 a1) fun r6 =>
  cond ((r6 != 0))
  (some ((r2 == r6) && ((r1.length : Int) == 0)))
  (cond (((r2 != 0) || ((r1.length : Int) != (a0.length : Int))))
  (some false)
  (Option.bind (whileM (F4_L0 a0 a1 r1) 0) fun o14 => Ctl.on o14 (fun _ =>
  some true) (fun r => some r)))
end Go.Proofs.Ytdjmlbjkendobaa
