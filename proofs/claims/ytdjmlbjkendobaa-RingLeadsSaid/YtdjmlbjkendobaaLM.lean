/-
  Pure models of Go functions, written by a program (gen.py).
-/
import Derived.Test.YtdjmlbjkendobaaBk25
namespace Go.Proofs.Ytdjmlbjkendobaa
open Go Go.Bk
set_option linter.unusedVariables false

noncomputable def F91_L0 (a0 : List Int) (a1 : Int) : Int → Option (Ctl (Int) (Unit) (Int)) := fun x1 =>
  cond ((decide (x1 < (a0.length : Int))))
  (Option.bind (idx a0 x1) fun x7 =>
  cond ((a1 == x7))
  (some (.ret x1))
  (some (.nxt (w64 (x1 + 1)))))
  (some (.brk ()))
/-- the model of slices.Index[[]int,int] -/
noncomputable def F91 (a0 : List Int) (a1 : Int) : Option (Int) :=
  Option.bind (whileM (F91_L0 a0 a1) 0) fun o3 => Ctl.on o3 (fun _ =>
  some (-1)) (fun r => some r)

/-- the model of slices.Contains[[]int,int] -/
noncomputable def F80 (a0 : List Int) (a1 : Int) : Option (Bool) :=
  Option.bind (F91 a0 a1) fun r1 =>
  some (decide (r1 ≥ 0))

noncomputable def F55_L0 (a0 : List Int) : Int → Option (Ctl (Int) (Unit) (Int)) := fun x3 =>
  cond ((decide (x3 < (a0.length : Int))))
  (Option.bind (idx a0 x3) fun x9 =>
  Option.bind (slI a0 0 x3) fun y11 =>
  Option.bind (F80 y11 x9) fun r14 =>
  cond (r14)
  (some (.ret 3))
  (some (.nxt (w64 (x3 + 1)))))
  (some (.brk ()))
/-- the model of beaconry/ring.wrong -/
noncomputable def F55 (a0 : List Int) : Option (Int) :=
  cond (((decide ((a0.length : Int) < 1)) || (decide ((a0.length : Int) > 12))))
  (some 1)
  (Option.bind (whileM (F55_L0 a0) 0) fun o5 => Ctl.on o5 (fun _ =>
  some 0) (fun r => some r))

noncomputable def F81_L0 (a0 : List Bool) (a1 : Bool) : Int → Option (Ctl (Int) (Unit) (Int)) := fun x1 =>
  cond ((decide (x1 < (a0.length : Int))))
  (Option.bind (idx a0 x1) fun x7 =>
  cond ((a1 == x7))
  (some (.ret x1))
  (some (.nxt (w64 (x1 + 1)))))
  (some (.brk ()))
/-- the model of slices.Index[[]bool,bool] -/
noncomputable def F81 (a0 : List Bool) (a1 : Bool) : Option (Int) :=
  Option.bind (whileM (F81_L0 a0 a1) 0) fun o3 => Ctl.on o3 (fun _ =>
  some (-1)) (fun r => some r)

/-- the model of slices.Contains[[]bool,bool] -/
noncomputable def F58 (a0 : List Bool) (a1 : Bool) : Option (Bool) :=
  Option.bind (F81 a0 a1) fun r1 =>
  some (decide (r1 ≥ 0))

/-- the model of slices.Clone[[]bool,bool] -/
noncomputable def F59 (a0 : List Bool) : Option (List Bool) := appl 1 ([] : List Bool) a0

noncomputable def F34_L2 (a0 : List Int) (x36 : Int) : Int → Int → ((Int → Option Int) × (List Bool)) → Option (Ctl ((Int → Option Int) × (List Bool)) Unit (Int × Int × Int)) := fun k49 v50 (y51, y52) =>
  Option.bind (idx a0 k49) fun x61 =>
  cond ((v50 == x61))
  (some (.ret (k49, x36, 0)))
  (Option.bind (idx a0 k49) fun x64 =>
  cond ((decide (v50 < x64)))
  (Option.bind (idx y52 k49) fun x67 =>
  cond (x67)
  (some (.nxt (y51, y52)))
  (Option.bind (idx a0 k49) fun x70 =>
  Option.bind (idx y52 k49) fun x72 =>
  Option.bind (nz (a0.length : Int)) fun _ =>
  some (.nxt (mupd y51 ((w64 (k49 + 1)).tmod (a0.length : Int)) x70, y52.set k49.toNat true))))
  (Option.bind (nz (a0.length : Int)) fun _ =>
  some (.nxt (mupd y51 ((w64 (k49 + 1)).tmod (a0.length : Int)) v50, y52))))
noncomputable def F34_L1 (a0 : List Int) : ((Int → Option Int) × (List Bool) × Int) → Option (Ctl ((Int → Option Int) × (List Bool) × Int) (Unit) (Int × Int × Int)) := fun (y34, y35, x36) =>
  Option.bind (rangeM y34 (F34_L2 a0 x36) ((mzero : Int → Option Int), y35)) fun o55 => Ctl.onN o55 (fun (y51, y52) =>
  some (.nxt (y51, y52, w64 (x36 + (mlen y51 : Int))))) (fun r => some (.ret r))
noncomputable def F34_L0 (a0 : List Int) (a1 : List Bool) : ((Int → Option Int) × Int) → Option (Ctl ((Int → Option Int) × Int) ((Int → Option Int)) (Unit)) := fun (y14, x15) =>
  cond ((decide (x15 < (a1.length : Int))))
  (Option.bind (α := (Int → Option Int)) (Option.bind (idx a1 x15) fun x25 =>
  cond (x25)
  (Option.bind (nz (a0.length : Int)) fun _ =>
  Option.bind (idx a0 x15) fun x30 =>
  some (mupd y14 ((w64 (x15 + 1)).tmod (a0.length : Int)) x30))
  (some y14))
  fun y23 =>
  some (.nxt (y23, w64 (x15 + 1))))
  (some (.brk y14))
/-- the model of beaconry/ring.Lead -/
noncomputable def F34 (a0 : List Int) (a1 : List Bool) : Option (Int × Int × Int) :=
  Option.bind (F55 a0) fun r1 =>
  cond ((r1 != 0))
  (some (0, 0, r1))
  (cond (((a1.length : Int) != (a0.length : Int)))
  (some (0, 0, 3))
  (Option.bind (F58 a1 true) fun r5 =>
  cond ((!r5))
  (some (0, 0, 5))
  (Option.bind (F59 a1) fun r8 =>
  Option.bind (whileM (F34_L0 a0 a1) ((mzero : Int → Option Int), 0)) fun o19 => Ctl.on o19 (fun y18 =>
  Option.bind (whileM (F34_L1 a0) (y18, r8, (mlen y18 : Int))) fun o42 => Ctl.on o42 (fun _ =>
  none) (fun r => some r)) (fun _ => none))))

noncomputable def F31_L1 (a0 : List Int) (x3 : Int) : Int → Option (Ctl (Int) (Unit) (Int)) := fun x9 =>
  cond ((decide (x9 < x3)))
  (Option.bind (idx a0 x3) fun x15 =>
  Option.bind (idx a0 x9) fun x17 =>
  cond ((x15 == x17))
  (some (.ret 3))
  (some (.nxt (w64 (x9 + 1)))))
  (some (.brk ()))
noncomputable def F31_L0 (a0 : List Int) : Int → Option (Ctl (Int) (Unit) (Int)) := fun x3 =>
  cond ((decide (x3 < (a0.length : Int))))
  (Option.bind (whileM (F31_L1 a0 x3) 0) fun o11 => Ctl.on o11 (fun _ =>
  some (.nxt (w64 (x3 + 1)))) (fun r => some (.ret r)))
  (some (.brk ()))
/-- the model of beaconry/beaconryref.RingCheck -/
noncomputable def F31 (a0 : List Int) : Option (Int) :=
  cond (((decide ((a0.length : Int) < 1)) || (decide ((a0.length : Int) > 12))))
  (some 1)
  (Option.bind (whileM (F31_L0 a0) 0) fun o5 => Ctl.on o5 (fun _ =>
  some 0) (fun r => some r))

noncomputable def F35_L2 (a0 : List Int) (y48 : List Bool) (y51 : List Int) (x53 : Int) : ((List Int) × (List Bool) × (List Bool) × Int × Int) → Option (Ctl ((List Int) × (List Bool) × (List Bool) × Int × Int) ((List Int) × (List Bool) × (List Bool) × Int) (Int × Int)) := fun (y73, y74, y75, x76, x77) =>
  cond ((decide (x77 < (a0.length : Int))))
  (Option.bind (idx y48 x77) fun x91 =>
  cond ((!x91))
  (some (.nxt (y73, y74, y75, x76, w64 (x77 + 1))))
  (Option.bind (idx y51 x77) fun x94 =>
  Option.bind (idx a0 x77) fun x96 =>
  cond ((x94 == x96))
  (some (.ret (x77, x53)))
  (Option.bind (idx y51 x77) fun x99 =>
  Option.bind (idx a0 x77) fun x101 =>
  Option.bind (cond ((decide (x99 < x101))) (Option.bind (idx y75 x77) fun x106 =>
  some x106) (some false)) fun b104 =>
  cond (b104)
  (some (.nxt (y73, y74, y75, x76, w64 (x77 + 1))))
  (Option.bind (idx a0 x77) fun x109 =>
  Option.bind (α := (List Bool) × Int) (cond ((decide (x99 < x109)))
  (Option.bind (idx a0 x77) fun x115 =>
  Option.bind (idx y75 x77) fun x117 =>
  some (y75.set x77.toNat true, x115))
  (some (y75, x99)))
  fun (y111, x112) =>
  Option.bind (nz (a0.length : Int)) fun _ =>
  Option.bind (idx y74 ((w64 (x77 + 1)).tmod (a0.length : Int))) fun x121 =>
  Option.bind (nz (a0.length : Int)) fun _ =>
  Option.bind (idx y73 ((w64 (x77 + 1)).tmod (a0.length : Int))) fun x125 =>
  some (.nxt (y73.set ((w64 (x77 + 1)).tmod (a0.length : Int)).toNat x112, y74.set ((w64 (x77 + 1)).tmod (a0.length : Int)).toNat true, y111, w64 (x76 + 1), w64 (x77 + 1)))))))
  (some (.brk (y73, y74, y75, x76)))
noncomputable def F35_L1 (a0 : List Int) : ((List Bool) × (List Int) × (List Bool) × Int) → Option (Ctl ((List Bool) × (List Int) × (List Bool) × Int) (Unit) (Int × Int)) := fun (y48, y51, y52, x53) =>
  Option.bind (mkl (a0.length : Int) 1 false) fun (y65 : List Bool) =>
  Option.bind (mkl (a0.length : Int) 8 0) fun (y69 : List Int) =>
  Option.bind (whileM (F35_L2 a0 y48 y51 x53) (y69, y65, y52, 0, 0)) fun o87 => Ctl.on o87 (fun (y83, y84, y85, x86) =>
  some (.nxt (y84, y83, y85, w64 (x53 + x86)))) (fun r => some (.ret r))
noncomputable def F35_L0 (a0 : List Int) (a1 : List Bool) : ((List Int) × (List Bool) × Int × Int) → Option (Ctl ((List Int) × (List Bool) × Int × Int) ((List Int) × (List Bool) × Int) (Unit)) := fun (y14, y15, x16, x17) =>
  cond ((decide (x17 < (a0.length : Int))))
  (Option.bind (α := (List Int) × (List Bool) × Int) (Option.bind (idx a1 x17) fun x33 =>
  cond (x33)
  (Option.bind (nz (a0.length : Int)) fun _ =>
  Option.bind (idx y15 ((w64 (x17 + 1)).tmod (a0.length : Int))) fun x38 =>
  Option.bind (nz (a0.length : Int)) fun _ =>
  Option.bind (idx a0 x17) fun x42 =>
  Option.bind (idx y14 ((w64 (x17 + 1)).tmod (a0.length : Int))) fun x44 =>
  some (y14.set ((w64 (x17 + 1)).tmod (a0.length : Int)).toNat x42, y15.set ((w64 (x17 + 1)).tmod (a0.length : Int)).toNat true, w64 (x16 + 1)))
  (some (y14, y15, x16)))
  fun (y29, y30, x31) =>
  some (.nxt (y29, y30, x31, w64 (x17 + 1))))
  (some (.brk (y14, y15, x16)))
/-- the model of beaconry/beaconryref.Leader -/
noncomputable def F35 (a0 : List Int) (a1 : List Bool) : Option (Int × Int) :=
  Option.bind (appl 1 ([] : List Bool) a1) fun (y3 : List Bool) =>
  Option.bind (mkl (a0.length : Int) 1 false) fun (y6 : List Bool) =>
  Option.bind (mkl (a0.length : Int) 8 0) fun (y10 : List Int) =>
  Option.bind (whileM (F35_L0 a0 a1) (y10, y6, 0, 0)) fun o25 => Ctl.on o25 (fun (y22, y23, x24) =>
  Option.bind (whileM (F35_L1 a0) (y23, y22, y3, x24)) fun o62 => Ctl.on o62 (fun _ =>
  none) (fun r => some r)) (fun _ => none)

noncomputable def F11_L0 (a1 : List Bool) : (Bool × Int) → Option (Ctl (Bool × Int) (Bool) (Unit)) := fun (b11, x12) =>
  cond ((decide (x12 < (a1.length : Int))))
  (Option.bind (idx a1 x12) fun x20 =>
  some (.nxt ((b11 || x20), w64 (x12 + 1))))
  (some (.brk b11))
/-- the model of beaconry/beaconrylaw.RingLeads -/
noncomputable def F11 (a0 : List Int) (a1 : List Bool) : Option (Bool) :=
  Option.bind (F34 a0 a1) fun (r1, r2, r3) =>
  Option.bind (F31 a0) fun r5 =>
  Option.bind (α := Int) (cond (((r5 == 0) && ((a1.length : Int) != (a0.length : Int))))
  (some 3)
  (some r5))
  fun x8 =>
  Option.bind (whileM (F11_L0 a1) (false, 0)) fun o16 => Ctl.on o16 (fun b15 =>
  Option.bind (α := Int) (cond (((x8 == 0) && (!b15)))
  (some 5)
  (some x8))
  fun x24 =>
  cond ((x24 != 0))
  (some (((r3 == x24) && (r1 == 0)) && (r2 == 0)))
  (Option.bind (F35 a0 a1) fun (r30, r31) =>
  some (((r3 == 0) && (r1 == r30)) && (r2 == r31)))) (fun _ => none)
end Go.Proofs.Ytdjmlbjkendobaa
