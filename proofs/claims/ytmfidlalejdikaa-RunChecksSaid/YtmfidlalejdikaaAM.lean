/-
  Pure models of Go functions, written by a program (gen.py).
-/
import Derived.Test.YtmfidlalejdikaaBk10
namespace Go.Proofs.Ytmfidlalejdikaa
open Go Go.Bk
set_option linter.unusedVariables false
@[reducible] def cTiii (x : Int × Int × Int) : List Value := [I x.1, I x.2.1, I x.2.2]
noncomputable def F15_L0 (a0 : Int) (a1 : List (Int × Int × Int)) : ((List (Int × Int)) × Int) → Option (Ctl ((List (Int × Int)) × Int) ((List (Int × Int))) (Int)) := fun (y6, x7) =>
  cond ((decide (x7 < (a1.length : Int))))
  (Option.bind (idx a1 x7) fun x15 =>
  cond (((decide (x15.1 < 0)) || (decide (x15.1 ≥ a0))))
  (some (.ret 2))
  (cond (((decide (x15.2.1 < 1)) || (decide (x15.2.1 > 3))))
  (some (.ret 6))
  (cond ((x15.2.1 == 1))
  (some (.nxt (y6, w64 (x7 + 1))))
  (cond (((decide (x15.2.2 < 0)) || (decide (x15.2.2 > 20))))
  (some (.ret 4))
  (cond (((mget y6 x15.2.2) != (w64 (x15.2.1 - 2))))
  (some (.ret 3))
  (some (.nxt (mset y6 x15.2.2 (w64 ((mget y6 x15.2.2) + 1)), w64 (x7 + 1)))))))))
  (some (.brk y6))
/-- the model of beaconry/run.Check -/
noncomputable def F15 (a0 : Int) (a1 : List (Int × Int × Int)) : Option (Int) :=
  cond ((((decide (a0 < 1)) || (decide (a0 > 6))) || (decide ((a1.length : Int) > 30))))
  (some 1)
  (Option.bind (whileM (F15_L0 a0 a1) (([] : List (Int × Int)), 0)) fun o11 => Ctl.on o11 (fun y10 =>
  some 0) (fun r => some r))

noncomputable def F16_L1 (x10 : Int × Int × Int) (y20 : List (Int × Int × Int)) : (Int × Int × Int) → Option (Ctl (Int × Int × Int) (Int × Int) (Unit)) := fun (x23, x24, x25) =>
  cond ((decide (x25 < (y20.length : Int))))
  (Option.bind (α := Int × Int) (Option.bind (idx y20 x25) fun x38 =>
  Option.bind (α := Int) (cond (((x38.2.1 == 2) && (x38.2.2 == x10.2.2)))
  (some (w64 (x23 + 1)))
  (some x23))
  fun x42 =>
  cond (((x38.2.1 == 3) && (x38.2.2 == x10.2.2)))
  (some (x42, w64 (x24 + 1)))
  (some (x42, x24)))
  fun (x35, x36) =>
  some (.nxt (x35, x36, w64 (x25 + 1))))
  (some (.brk (x23, x24)))
noncomputable def F16_L0 (a0 : Int) (a1 : List (Int × Int × Int)) : Int → Option (Ctl (Int) (Unit) (Int)) := fun x4 =>
  cond ((decide (x4 < (a1.length : Int))))
  (Option.bind (idx a1 x4) fun x10 =>
  cond (((decide (x10.1 < 0)) || (decide (x10.1 ≥ a0))))
  (some (.ret 2))
  (cond (((decide (x10.2.1 < 1)) || (decide (x10.2.1 > 3))))
  (some (.ret 6))
  (cond ((x10.2.1 == 1))
  (some (.nxt (w64 (x4 + 1))))
  (cond (((decide (x10.2.2 < 0)) || (decide (x10.2.2 > 20))))
  (some (.ret 4))
  (Option.bind (slI a1 0 x4) fun y20 =>
  Option.bind (whileM (F16_L1 x10 y20) (0, 0, 0)) fun o31 => Ctl.on o31 (fun (x29, x30) =>
  cond ((((x10.2.1 == 2) && (decide (x29 > 0))) || ((x10.2.1 == 3) && ((x29 == 0) || (decide (x30 > 0))))))
  (some (.ret 3))
  (some (.nxt (w64 (x4 + 1))))) (fun _ => none))))))
  (some (.brk ()))
/-- the model of beaconry/beaconryref.RunCheck -/
noncomputable def F16 (a0 : Int) (a1 : List (Int × Int × Int)) : Option (Int) :=
  cond ((((decide (a0 < 1)) || (decide (a0 > 6))) || (decide ((a1.length : Int) > 30))))
  (some 1)
  (Option.bind (whileM (F16_L0 a0 a1) 0) fun o6 => Ctl.on o6 (fun _ =>
  some 0) (fun r => some r))

/-- the model of beaconry/beaconrylaw.RunChecks -/
noncomputable def F3 (a0 : Int) (a1 : List (Int × Int × Int)) : Option (Bool) :=
  Option.bind (F15 a0 a1) fun r1 =>
  Option.bind (F16 a0 a1) fun r3 =>
  some (r1 == r3)
end Go.Proofs.Ytmfidlalejdikaa
