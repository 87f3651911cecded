/-
  Pure models of Go functions, written by a program (gen.py).
-/
import Derived.Test.YtdjmlbjkendobaaBk8
namespace Go.Proofs.Ytdjmlbjkendobaa
open Go Go.Bk
set_option linter.unusedVariables false

noncomputable def F91_L0 (a0 : List Int) (a1 : Int) : Int → Option (Ctl (Int) (Unit) (Int)) := fun x1 =>
  cond ((decide (x1 < (a0.length : Int))))
  (Option.bind (idx a0 x1) fun x7 =>
  cond ((a1 == x7))
  (some (.ret x1))
  (some (.nxt (w64 (x1 + 1)))))
  (some (.brk ()))
/-- the model of slices.Index[[]int,int] -/
noncomputable def F91 (a0 : List Int) (a1 : Int) : Option (Int) :=
  Option.bind (whileM (F91_L0 a0 a1) 0) fun o3 => Ctl.on o3 (fun _ =>
  some (-1)) (fun r => some r)

/-- the model of slices.Contains[[]int,int] -/
noncomputable def F80 (a0 : List Int) (a1 : Int) : Option (Bool) :=
  Option.bind (F91 a0 a1) fun r1 =>
  some (decide (r1 ≥ 0))

noncomputable def F55_L0 (a0 : List Int) : Int → Option (Ctl (Int) (Unit) (Int)) := fun x3 =>
  cond ((decide (x3 < (a0.length : Int))))
  (Option.bind (idx a0 x3) fun x9 =>
  Option.bind (slI a0 0 x3) fun y11 =>
  Option.bind (F80 y11 x9) fun r14 =>
  cond (r14)
  (some (.ret 3))
  (some (.nxt (w64 (x3 + 1)))))
  (some (.brk ()))
/-- the model of beaconry/ring.wrong -/
noncomputable def F55 (a0 : List Int) : Option (Int) :=
  cond (((decide ((a0.length : Int) < 1)) || (decide ((a0.length : Int) > 12))))
  (some 1)
  (Option.bind (whileM (F55_L0 a0) 0) fun o5 => Ctl.on o5 (fun _ =>
  some 0) (fun r => some r))

noncomputable def F56_L0 (a0 : List Int) : (Int × Int) → Option (Ctl (Int × Int) (Int) (Unit)) := fun (x4, x5) =>
  cond ((decide (x5 < (a0.length : Int))))
  (Option.bind (idx a0 x5) fun x13 =>
  some (.nxt (mx x4 x13, w64 (x5 + 1))))
  (some (.brk x4))
/-- the model of slices.Max[[]int,int] -/
noncomputable def F56 (a0 : List Int) : Option (Int) :=
  cond ((decide ((a0.length : Int) < 1)))
  (none)
  (Option.bind (idx a0 0) fun x2 =>
  Option.bind (whileM (F56_L0 a0) (x2, 1)) fun o9 => Ctl.on o9 (fun x8 =>
  some x8) (fun _ => none))

noncomputable def F57_L0 (a0 : List Int) : ((List Int) × Int) → Option (Ctl ((List Int) × Int) ((List Int)) (Unit)) := fun (y3, x4) =>
  cond ((decide (x4 < (a0.length : Int))))
  (Option.bind (α := (List Int)) (Option.bind (nz (a0.length : Int)) fun _ =>
  Option.bind (idx a0 ((w64 ((w64 (x4 + (a0.length : Int))) - 2)).tmod (a0.length : Int))) fun x21 =>
  Option.bind (nz (a0.length : Int)) fun _ =>
  Option.bind (idx a0 ((w64 ((w64 (x4 + (a0.length : Int))) - 1)).tmod (a0.length : Int))) fun x25 =>
  Option.bind (idx a0 x4) fun x27 =>
  cond (((decide (x25 > x21)) && (decide (x25 > x27))))
  (Option.bind (appl 8 y3 ([x25] : List Int)) fun (y33 : List Int) =>
  some y33)
  (some y3))
  fun y16 =>
  some (.nxt (y16, w64 (x4 + 1))))
  (some (.brk y3))
/-- the model of beaconry/ring.half -/
noncomputable def F57 (a0 : List Int) : Option ((List Int)) :=
  Option.bind (whileM (F57_L0 a0) ([], 0)) fun o12 => Ctl.on o12 (fun y11 =>
  some y11) (fun _ => none)

/-- the model of beaconry/ring.Half -/
noncomputable def F30 (a0 : List Int) : Option ((List Int) × Int) :=
  Option.bind (F55 a0) fun r1 =>
  cond ((r1 != 0))
  (some ([], r1))
  (cond ((decide ((a0.length : Int) < 3)))
  (Option.bind (F56 a0) fun r5 =>
  some (([r5] : List Int), 0))
  (Option.bind (F57 a0) fun r9 =>
  some (r9, 0)))

noncomputable def F31_L1 (a0 : List Int) (x3 : Int) : Int → Option (Ctl (Int) (Unit) (Int)) := fun x9 =>
  cond ((decide (x9 < x3)))
  (Option.bind (idx a0 x3) fun x15 =>
  Option.bind (idx a0 x9) fun x17 =>
  cond ((x15 == x17))
  (some (.ret 3))
  (some (.nxt (w64 (x9 + 1)))))
  (some (.brk ()))
noncomputable def F31_L0 (a0 : List Int) : Int → Option (Ctl (Int) (Unit) (Int)) := fun x3 =>
  cond ((decide (x3 < (a0.length : Int))))
  (Option.bind (whileM (F31_L1 a0 x3) 0) fun o11 => Ctl.on o11 (fun _ =>
  some (.nxt (w64 (x3 + 1)))) (fun r => some (.ret r)))
  (some (.brk ()))
/-- the model of beaconry/beaconryref.RingCheck -/
noncomputable def F31 (a0 : List Int) : Option (Int) :=
  cond (((decide ((a0.length : Int) < 1)) || (decide ((a0.length : Int) > 12))))
  (some 1)
  (Option.bind (whileM (F31_L0 a0) 0) fun o5 => Ctl.on o5 (fun _ =>
  some 0) (fun r => some r))

noncomputable def F32_L0 (a0 : List Int) : ((List Int) × Int) → Option (Ctl ((List Int) × Int) ((List Int)) (Unit)) := fun (y22, x23) =>
  cond ((decide (x23 < (a0.length : Int))))
  (Option.bind (α := (List Int)) (Option.bind (nz (a0.length : Int)) fun _ =>
  Option.bind (idx a0 ((w64 ((w64 (x23 + (a0.length : Int))) - 1)).tmod (a0.length : Int))) fun x40 =>
  Option.bind (idx a0 x23) fun x42 =>
  Option.bind (cond ((decide (x40 > x42))) (Option.bind (nz (a0.length : Int)) fun _ =>
  Option.bind (idx a0 ((w64 ((w64 (x23 + (a0.length : Int))) - 2)).tmod (a0.length : Int))) fun x49 =>
  some (decide (x40 > x49))) (some false)) fun b45 =>
  cond (b45)
  (Option.bind (appl 8 y22 ([x40] : List Int)) fun (y54 : List Int) =>
  some y54)
  (some y22))
  fun y35 =>
  some (.nxt (y35, w64 (x23 + 1))))
  (some (.brk y22))
/-- the model of beaconry/beaconryref.Half -/
noncomputable def F32 (a0 : List Int) : Option ((List Int)) :=
  cond (((a0.length : Int) == 1))
  (Option.bind (idx a0 0) fun x2 =>
  some ([x2] : List Int))
  (cond (((a0.length : Int) == 2))
  (Option.bind (idx a0 0) fun x7 =>
  Option.bind (idx a0 1) fun x9 =>
  cond ((decide (x7 > x9)))
  (Option.bind (idx a0 0) fun x12 =>
  some ([x12] : List Int))
  (Option.bind (idx a0 1) fun x16 =>
  some ([x16] : List Int)))
  (Option.bind (whileM (F32_L0 a0) ([], 0)) fun o31 => Ctl.on o31 (fun y30 =>
  some y30) (fun _ => none)))

noncomputable def F29_L0 (a0 : List Int) (a1 : List Int) : Int → Option (Ctl (Int) (Unit) (Bool)) := fun x2 =>
  cond ((decide (x2 < (a0.length : Int))))
  (Option.bind (idx a0 x2) fun x8 =>
  Option.bind (idx a1 x2) fun x10 =>
  cond ((x8 != x10))
  (some (.ret false))
  (some (.nxt (w64 (x2 + 1)))))
  (some (.brk ()))
/-- the model of beaconry/beaconryref.Ints -/
noncomputable def F29 (a0 : List Int) (a1 : List Int) : Option (Bool) :=
  cond (((a0.length : Int) != (a1.length : Int)))
  (some false)
  (Option.bind (whileM (F29_L0 a0 a1) 0) fun o4 => Ctl.on o4 (fun _ =>
  some true) (fun r => some r))

/-- the model of beaconry/beaconrylaw.RingHalf -/
noncomputable def F9 (a0 : List Int) : Option (Bool) :=
  Option.bind (F30 a0) fun (r1, r2) =>
  Option.bind (F31 a0) fun r6 =>
  cond ((r6 != 0))
  (some ((r2 == r6) && ((r1.length : Int) == 0)))
  (Option.bind (cond ((r2 == 0)) (Option.bind (F32 a0) fun r13 =>
  Option.bind (F29 r1 r13) fun r17 =>
  some r17) (some false)) fun b11 =>
  some b11)
end Go.Proofs.Ytdjmlbjkendobaa
