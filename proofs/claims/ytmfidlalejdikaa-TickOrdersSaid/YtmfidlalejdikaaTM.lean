/-
  Pure models of Go functions, written by a program (gen.py).
-/
import Derived.Test.YtmfidlalejdikaaBk37
import Derived.Test.YtmfidlalejdikaaAM
namespace Go.Proofs.Ytmfidlalejdikaa
open Go Go.Bk
set_option linter.unusedVariables false

/-- the model of cmp.isNaN[int] -/
noncomputable def F58 (a0 : Int) : Option (Bool) :=
  some (a0 != a0)

/-- the model of cmp.Compare[int] -/
noncomputable def F50 (a0 : Int) (a1 : Int) : Option (Int) :=
  Option.bind (F58 a0) fun r1 =>
  Option.bind (F58 a1) fun r3 =>
  cond (r1)
  (cond (r3)
  (some 0)
  (some (-1)))
  (cond (r3)
  (some 1)
  (cond ((decide (a0 < a1)))
  (some (-1))
  (cond ((decide (a0 > a1)))
  (some 1)
  (some 0))))

noncomputable def F49_L0 (a0 : List Int) : Int → Option (Ctl (Int) (Unit) (Int)) := fun x1 =>
  cond ((decide (x1 < (a0.length : Int))))
  (Option.bind (idx a0 x1) fun x7 =>
  cond ((x7 != 0))
  (some (.ret x7))
  (some (.nxt (w64 (x1 + 1)))))
  (some (.brk ()))
/-- the model of cmp.Or[int] -/
noncomputable def F49 (a0 : List Int) : Option (Int) :=
  Option.bind (whileM (F49_L0 a0) 0) fun o3 => Ctl.on o3 (fun _ =>
  some 0) (fun r => some r)

/-- the model of beaconry/tick.Order$1 -/
noncomputable def F48 (a0 : Int) (a1 : Int) (a2 : List Int) (a3 : List (Int × Int × Int)) : Option (Int) :=
  Option.bind (idx a2 a0) fun xq1_2_1 =>
  Option.bind (idx a2 a1) fun xq1_6_1 =>
  Option.bind (idx a3 a0) fun xq1_11_1 =>
  Option.bind (idx a3 a1) fun xq1_16_1 =>
  Option.bind (F50 xq1_2_1 xq1_6_1) fun rq1_8_1 =>
  Option.bind (F50 xq1_11_1.1 xq1_16_1.1) fun rq1_19_1 =>
  Option.bind (F49 ([rq1_8_1, rq1_19_1] : List Int)) fun rq1_21_1 =>
  some rq1_21_1

noncomputable def F37_L0 (a1 : List (Int × Int × Int)) : ((List Int) × Int) → Option (Ctl ((List Int) × Int) ((List Int)) (Unit)) := fun (y14, x15) =>
  cond ((decide (x15 < (a1.length : Int))))
  (Option.bind (appl 8 y14 ([x15] : List Int)) fun (y29 : List Int) =>
  some (.nxt (y29, w64 (x15 + 1))))
  (some (.brk y14))
/-- the model of beaconry/tick.Order -/
noncomputable def F37 (a0 : Int) (a1 : List (Int × Int × Int)) : Option ((List Int) × Int) :=
  Option.bind (F15 a0 a1) fun r3 =>
  cond ((r3 != 0))
  (some ([], r3))
  (Option.bind (F42 a0 a1) fun r6 =>
  Option.bind (whileM (F37_L0 a1) ([], 0)) fun o23 => Ctl.on o23 (fun y22 =>
  Option.bind (srtF (fun z => F48 z.1 z.2 r6 a1) y22) fun y32 =>
  some (y32, 0)) (fun _ => none))

noncomputable def F38_L1 (a0 : List (Int × Int × Int)) (r2 : List Int) (x11 : Int) : (Int × Int) → Option (Ctl (Int × Int) (Int) (Unit)) := fun (x19, x20) =>
  cond ((decide (x20 < (a0.length : Int))))
  (Option.bind (α := Int) (Option.bind (idx r2 x20) fun x30 =>
  Option.bind (idx r2 x11) fun x32 =>
  Option.bind (cond ((decide (x30 < x32))) (some true) (Option.bind (idx r2 x20) fun x37 =>
  Option.bind (idx r2 x11) fun x39 =>
  Option.bind (cond ((x37 == x39)) (Option.bind (idx a0 x20) fun x44 =>
  Option.bind (idx a0 x11) fun x46 =>
  some (decide (x44.1 < x46.1))) (some false)) fun b42 =>
  some b42)) fun b35 =>
  cond (b35)
  (some (w64 (x19 + 1)))
  (some x19))
  fun x28 =>
  some (.nxt (x28, w64 (x20 + 1))))
  (some (.brk x19))
noncomputable def F38_L0 (a0 : List (Int × Int × Int)) (r2 : List Int) : ((List Int) × Int) → Option (Ctl ((List Int) × Int) ((List Int)) (Unit)) := fun (y10, x11) =>
  cond ((decide (x11 < (a0.length : Int))))
  (Option.bind (whileM (F38_L1 a0 r2 x11) (0, 0)) fun o24 => Ctl.on o24 (fun x23 =>
  Option.bind (idx y10 x23) fun x49 =>
  some (.nxt (y10.set x23.toNat x11, w64 (x11 + 1)))) (fun _ => none))
  (some (.brk y10))
/-- the model of beaconry/beaconryref.Order -/
noncomputable def F38 (a0 : List (Int × Int × Int)) : Option ((List Int)) :=
  Option.bind (F25 a0) fun r2 =>
  Option.bind (mkl (a0.length : Int) 8 0) fun (y6 : List Int) =>
  Option.bind (whileM (F38_L0 a0 r2) (y6, 0)) fun o15 => Ctl.on o15 (fun y14 =>
  some y14) (fun _ => none)

/-- the model of beaconry/beaconrylaw.TickOrders -/
noncomputable def F13 (a0 : Int) (a1 : List (Int × Int × Int)) : Option (Bool) :=
  Option.bind (F37 a0 a1) fun (r1, r2) =>
  Option.bind (F16 a0 a1) fun r6 =>
  cond ((r6 != 0))
  (some ((r2 == r6) && ((r1.length : Int) == 0)))
  (Option.bind (cond ((r2 == 0)) (Option.bind (F38 a1) fun r13 =>
  Option.bind (F24 r1 r13) fun r17 =>
  some r17) (some false)) fun b11 =>
  some b11)
end Go.Proofs.Ytmfidlalejdikaa
