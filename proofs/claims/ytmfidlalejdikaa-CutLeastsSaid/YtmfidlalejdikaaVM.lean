/-
  Pure models of Go functions, written by a program (gen.py).
-/
import Derived.Test.YtmfidlalejdikaaBk35
import Derived.Test.YtmfidlalejdikaaAM
namespace Go.Proofs.Ytmfidlalejdikaa
open Go Go.Bk
set_option linter.unusedVariables false

/-- the model of slices.Clone[[]int,int] -/
noncomputable def F43 (a0 : List Int) : Option (List Int) := appl 8 ([] : List Int) a0

noncomputable def F44_L0 (a1 : List Int) : ((List Int) × Int) → Option (Ctl ((List Int) × Int) ((List Int)) (Unit)) := fun (y6, x7) =>
  cond ((decide (x7 < (a1.length : Int))))
  (Option.bind (idx a1 x7) fun x15 =>
  Option.bind (idx y6 x7) fun x17 =>
  Option.bind (idx y6 x7) fun x19 =>
  some (.nxt (y6.set x7.toNat (mx x17 x15), w64 (x7 + 1))))
  (some (.brk y6))
/-- the model of beaconry/vector.join -/
noncomputable def F44 (a0 : List Int) (a1 : List Int) : Option ((List Int)) :=
  Option.bind (F43 a0) fun r2 =>
  Option.bind (whileM (F44_L0 a1) (r2, 0)) fun o11 => Ctl.on o11 (fun y10 =>
  some y10) (fun _ => none)

noncomputable def F28_L1 (a1 : List (Int × Int × Int)) : ((List (List Int)) × (Int → Option (List Int)) × (List (List Int)) × Int) → Option (Ctl ((List (List Int)) × (Int → Option (List Int)) × (List (List Int)) × Int) ((List (List Int)) × (Int → Option (List Int)) × (List (List Int))) (Unit)) := fun (y40, y41, y43, x46) =>
  cond ((decide (x46 < (a1.length : Int))))
  (Option.bind (idx a1 x46) fun x70 =>
  Option.bind (idx y43 x70.1) fun (x73 : List Int) =>
  Option.bind (F43 x73) fun r76 =>
  Option.bind (α := (List Int)) (cond ((x70.2.1 == 3))
  (Option.bind (F44 r76 ((y41 x70.2.2).getD [])) fun r85 =>
  some r85)
  (some r76))
  fun y82 =>
  Option.bind (idx y82 x70.1) fun x89 =>
  Option.bind (idx y82 x70.1) fun x91 =>
  Option.bind (idx y43 x70.1) fun (x93 : List Int) =>
  Option.bind (α := (Int → Option (List Int))) (cond ((x70.2.1 == 2))
  (some (mupd y41 x70.2.2 (y82.set x70.1.toNat (w64 (x89 + 1)))))
  (some y41))
  fun y97 =>
  Option.bind (F43 (y82.set x70.1.toNat (w64 (x89 + 1)))) fun r102 =>
  Option.bind (appl 24 y40 [r102]) fun (y109 : List (List Int)) =>
  some (.nxt (y109, y97, y43.set x70.1.toNat (y82.set x70.1.toNat (w64 (x89 + 1))), w64 (x46 + 1))))
  (some (.brk (y40, y41, y43)))
noncomputable def F28_L0 (a0 : Int) (y6 : List (List Int)) : ((List (List Int)) × Int) → Option (Ctl ((List (List Int)) × Int) ((List (List Int))) (Unit)) := fun (y11, x14) =>
  cond ((decide (x14 < (y6.length : Int))))
  (Option.bind (mkl a0 8 0) fun (y26 : List Int) =>
  Option.bind (idx y11 x14) fun (x30 : List Int) =>
  some (.nxt (y11.set x14.toNat y26, w64 (x14 + 1))))
  (some (.brk y11))
/-- the model of beaconry/vector.Vectors -/
noncomputable def F28 (a0 : Int) (a1 : List (Int × Int × Int)) : Option ((List (List Int)) × Int) :=
  Option.bind (F15 a0 a1) fun r2 =>
  cond ((r2 != 0))
  (some ([], r2))
  (Option.bind (mkl a0 24 ([] : List Int)) fun (y6 : List (List Int)) =>
  Option.bind (whileM (F28_L0 a0 y6) (y6, 0)) fun o22 => Ctl.on o22 (fun y19 =>
  Option.bind (whileM (F28_L1 a1) ([], (mzero : Int → Option (List Int)), y19, 0)) fun o66 => Ctl.on o66 (fun (y60, y61, y63) =>
  some (y60, 0)) (fun _ => none)) (fun _ => none))

noncomputable def F29_L0 (a1 : List (Int × Int × Int)) (a2 : List (List Bool)) (a3 : Int) : ((List Int) × Int) → Option (Ctl ((List Int) × Int) ((List Int)) (Unit)) := fun (y6, x7) =>
  cond ((decide (x7 ≤ a3)))
  (Option.bind (α := (List Int)) (Option.bind (cond ((x7 == a3)) (some true) (Option.bind (idx a2 x7) fun (x20 : List Bool) =>
  Option.bind (idx x20 a3) fun x23 =>
  some x23)) fun b18 =>
  cond (b18)
  (Option.bind (idx a1 x7) fun x26 =>
  Option.bind (idx a1 x7) fun x28 =>
  Option.bind (idx y6 x28.1) fun x30 =>
  Option.bind (idx y6 x26.1) fun x32 =>
  some (y6.set x26.1.toNat (w64 (x30 + 1))))
  (some y6))
  fun y15 =>
  some (.nxt (y15, w64 (x7 + 1))))
  (some (.brk y6))
/-- the model of beaconry/beaconryref.Vector -/
noncomputable def F29 (a0 : Int) (a1 : List (Int × Int × Int)) (a2 : List (List Bool)) (a3 : Int) : Option ((List Int)) :=
  Option.bind (mkl a0 8 0) fun (y2 : List Int) =>
  Option.bind (whileM (F29_L0 a1 a2 a3) (y2, 0)) fun o11 => Ctl.on o11 (fun y10 =>
  some y10) (fun _ => none)

noncomputable def F9_L0 (a0 : Int) (a1 : List (Int × Int × Int)) (r1 : List (List Int)) (r13 : List (List Bool)) : Int → Option (Ctl (Int) (Unit) (Bool)) := fun x18 =>
  cond ((decide (x18 < (a1.length : Int))))
  (Option.bind (idx r1 x18) fun (xq24_2_1 : List Int) =>
  Option.bind (F29 a0 a1 r13 x18) fun rq24_8_1 =>
  Option.bind (F24 xq24_2_1 rq24_8_1) fun rq24_9_1 =>
  cond ((!rq24_9_1))
  (some (.ret false))
  (some (.nxt (w64 (x18 + 1)))))
  (some (.brk ()))
/-- the model of beaconry/beaconrylaw.VectorTells -/
noncomputable def F9 (a0 : Int) (a1 : List (Int × Int × Int)) : Option (Bool) :=
  Option.bind (F28 a0 a1) fun (r1, r2) =>
  Option.bind (F16 a0 a1) fun r7 =>
  cond ((r7 != 0))
  (some ((r2 == r7) && ((r1.length : Int) == 0)))
  (cond (((r2 != 0) || ((r1.length : Int) != (a1.length : Int))))
  (some false)
  (Option.bind (F18 a1) fun r13 =>
  Option.bind (whileM (F9_L0 a0 a1 r1 r13) 0) fun o20 => Ctl.on o20 (fun _ =>
  some true) (fun r => some r)))

/-- the model of beaconry/cut.Least -/
noncomputable def F32 (a0 : Int) (a1 : List (Int × Int × Int)) (a2 : Int) : Option ((List Int) × Int) :=
  Option.bind (F28 a0 a1) fun (r2, r3) =>
  cond ((r3 != 0))
  (some ([], r3))
  (cond (((decide (a2 < 0)) || (decide (a2 ≥ (a1.length : Int)))))
  (some ([], 4))
  (Option.bind (idx r2 a2) fun (x11 : List Int) =>
  some (x11, 0)))

/-- the model of beaconry/beaconrylaw.CutLeasts -/
noncomputable def F11 (a0 : Int) (a1 : List (Int × Int × Int)) (a2 : Int) : Option (Bool) :=
  Option.bind (F32 a0 a1 a2) fun (r1, r2) =>
  Option.bind (F16 a0 a1) fun r6 =>
  Option.bind (α := Int) (cond (((r6 == 0) && ((decide (a2 < 0)) || (decide (a2 ≥ (a1.length : Int))))))
  (some 4)
  (some r6))
  fun x10 =>
  cond ((x10 != 0))
  (some ((r2 == x10) && ((r1.length : Int) == 0)))
  (Option.bind (cond ((r2 == 0)) (Option.bind (F18 a1) fun r18 =>
  Option.bind (F29 a0 a1 r18 a2) fun r23 =>
  Option.bind (F24 r1 r23) fun r27 =>
  some r27) (some false)) fun b16 =>
  some b16)
end Go.Proofs.Ytmfidlalejdikaa
