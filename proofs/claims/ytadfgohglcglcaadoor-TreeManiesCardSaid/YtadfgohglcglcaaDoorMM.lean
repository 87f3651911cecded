/-
  Pure models of Go functions, written by a program (gen.py).
-/
import Derived.Test.YtadfgohglcglcaaDoorBk38
import Derived.Test.YtadfgohglcglcaaDoorSM
import Derived.Test.YtadfgohglcglcaaDoorNM
import Derived.Test.YtadfgohglcglcaaDoorKM
namespace Go.Proofs.YtadfgohglcglcaaDoor
open Go Go.Bk
set_option linter.unusedVariables false

noncomputable def F21_L1 (a1 : List (Int × ByteArray × ByteArray × Int)) : ((List (Int × ByteArray × Int × List ByteArray)) × (ByteArray → Option (ByteArray × Int)) × Int) → Option (Ctl ((List (Int × ByteArray × Int × List ByteArray)) × (ByteArray → Option (ByteArray × Int)) × Int) ((List (Int × ByteArray × Int × List ByteArray)) × (ByteArray → Option (ByteArray × Int))) ((List (Int × ByteArray × Int × List ByteArray)) × Bool × Int)) := fun (y36, y39, x40) =>
  cond ((decide (x40 < (a1.length : Int))))
  (Option.bind (idx a1 x40) fun x60 =>
  Option.bind (F29 y39 (x60.1, x60.2.1, x60.2.2.1, x60.2.2.2)) fun (r63, r64) =>
  Option.bind (appl 56 y36 [(r63.1, r63.2.1, r63.2.2.1, r63.2.2.2)]) fun (y75 : List (Int × ByteArray × Int × List ByteArray)) =>
  cond ((r63.1 != 0))
  (some (.ret (y75, false, 0)))
  (some (.nxt (y75, r64, w64 (x40 + 1)))))
  (some (.brk (y36, y39)))
noncomputable def F21_L0 (a0 : List (Int × ByteArray × ByteArray × Int)) : ((ByteArray → Option (ByteArray × Int)) × Int) → Option (Ctl ((ByteArray → Option (ByteArray × Int)) × Int) ((ByteArray → Option (ByteArray × Int))) (Unit)) := fun (y10, x11) =>
  cond ((decide (x11 < (a0.length : Int))))
  (Option.bind (idx a0 x11) fun x23 =>
  Option.bind (F29 y10 (x23.1, x23.2.1, x23.2.2.1, x23.2.2.2)) fun (r26, r27) =>
  some (.nxt (r27, w64 (x11 + 1))))
  (some (.brk y10))
/-- the model of beaconry/tree.Many -/
noncomputable def F21 (a0 : List (Int × ByteArray × ByteArray × Int)) (a1 : List (Int × ByteArray × ByteArray × Int)) : Option ((List (Int × ByteArray × Int × List ByteArray)) × Bool × Int) :=
  cond ((decide ((w64 ((a0.length : Int) + (a1.length : Int))) > 60)))
  (some ([], false, 1))
  (Option.bind (F26) fun r3 =>
  Option.bind (whileM (F21_L0 a0) (r3, 0)) fun o19 => Ctl.on o19 (fun y18 =>
  Option.bind (whileM (F21_L1 a1) ([], y18, 0)) fun o56 => Ctl.on o56 (fun (y52, y55) =>
  some (y52, true, 0)) (fun r => some r)) (fun _ => none))

noncomputable def F7_L0 (r26 : List (Int × ByteArray × Int × List ByteArray)) : (Int × Bool × Int) → Option (Ctl (Int × Bool × Int) (Int × Bool) (Unit)) := fun (x33, b34, x35) =>
  cond ((decide (x35 ≥ 0)))
  (Option.bind (α := Int × Bool) (Option.bind (idx r26 x35) fun (x48 : Int × ByteArray × Int × List ByteArray) =>
  cond ((x48.1 != 0))
  (some (w64 (x35 + 1), false))
  (some (x33, b34)))
  fun (x45, b46) =>
  some (.nxt (x45, b46, w64 (x35 - 1))))
  (some (.brk (x33, b34)))
/-- the model of beaconry/beaconrylaw.TreeManies -/
noncomputable def F7 (a0 : List (Int × ByteArray × ByteArray × Int)) (a1 : List (Int × ByteArray × ByteArray × Int)) : Option (Bool) :=
  Option.bind (F21 a0 a1) fun (r1, r2, r3) =>
  cond ((((decide ((a0.length : Int) > 60)) || (decide ((a1.length : Int) > 60))) || (decide ((w64 ((a0.length : Int) + (a1.length : Int))) > 60))))
  (some (((r3 == 1) && ((r1.length : Int) == 0)) && (!r2)))
  (Option.bind (F20) fun r13 =>
  Option.bind (F19 r13 a0) fun (r17, r18) =>
  Option.bind (F19 r17 a1) fun (r25, r26) =>
  Option.bind (whileM (F7_L0 r26) ((r26.length : Int), true, w64 ((r26.length : Int) - 1))) fun o41 => Ctl.on o41 (fun (x39, b40) =>
  Option.bind (cond (((r3 == 0) && (r2 == b40))) (Option.bind (slI r26 0 x39) fun (y55 : List (Int × ByteArray × Int × List ByteArray)) =>
  Option.bind (F13 r1 y55) fun r57 =>
  some r57) (some false)) fun b53 =>
  some b53) (fun _ => none))
end Go.Proofs.YtadfgohglcglcaaDoor
