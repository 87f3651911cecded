/-
  Pure models of Go functions, written by a program (gen.py).
-/
import Derived.Test.YthfkdepcnhhepaaBk30
import Derived.Test.YthfkdepcnhhepaaKM
import Derived.Test.YthfkdepcnhhepaaXM
namespace Go.Proofs.Ythfkdepcnhhepaa
open Go Go.Bk
set_option linter.unusedVariables false

/-- the model of beaconry/token.root$1 -/
noncomputable def F123 (a0 : Int) (a1 : List Int) : Option (Bool) :=
  some ((decide (a0 < 0)) || (decide (a0 ≥ (a1.length : Int))))

noncomputable def F87_L0 (a0 : List Int) (a1 : Int → Option Bool) : Int → Option (Ctl (Int) (Unit) (Int)) := fun x1 =>
  cond ((decide (x1 < (a0.length : Int))))
  (Option.bind (idx a0 x1) fun x7 =>
  Option.bind (a1 x7) fun r9 =>
  cond (r9)
  (some (.ret x1))
  (some (.nxt (w64 (x1 + 1)))))
  (some (.brk ()))
/-- the model of slices.IndexFunc[[]int,int] -/
noncomputable def F87 (a0 : List Int) (a1 : Int → Option Bool) : Option (Int) :=
  Option.bind (whileM (F87_L0 a0 a1) 0) fun o3 => Ctl.on o3 (fun _ =>
  some (-1)) (fun r => some r)

/-- the model of slices.ContainsFunc[[]int,int] -/
noncomputable def F49 (a0 : List Int) (a1 : Int → Option Bool) : Option (Bool) :=
  Option.bind (F87 a0 a1) fun r1 =>
  some (decide (r1 ≥ 0))

noncomputable def F81_L2 (a0 : List Int) : (Int × Int) → Option (Ctl (Int × Int) (Int) (Unit)) := fun (x38, x39) =>
  cond ((decide (x39 < (a0.length : Int))))
  (Option.bind (idx a0 x38) fun x47 =>
  some (.nxt (x47, w64 (x39 + 1))))
  (some (.brk x38))
noncomputable def F81_L1 (a0 : List Int) (y15 : List Int) : Int → Option (Ctl (Int) (Unit) (Int × Int)) := fun x32 =>
  cond ((decide (x32 < (a0.length : Int))))
  (Option.bind (whileM (F81_L2 a0) (x32, 0)) fun o43 => Ctl.on o43 (fun x42 =>
  Option.bind (idx y15 0) fun x49 =>
  cond ((x42 != x49))
  (some (.ret (0, 3)))
  (some (.nxt (w64 (x32 + 1))))) (fun _ => none))
  (some (.brk ()))
noncomputable def F81_L0 (a0 : List Int) : ((List Int) × Int) → Option (Ctl ((List Int) × Int) ((List Int)) (Unit)) := fun (y7, x8) =>
  cond ((decide (x8 < (a0.length : Int))))
  (Option.bind (α := (List Int)) (Option.bind (idx a0 x8) fun x23 =>
  cond ((x8 == x23))
  (Option.bind (appl 8 y7 ([x8] : List Int)) fun (y28 : List Int) =>
  some y28)
  (some y7))
  fun y20 =>
  some (.nxt (y20, w64 (x8 + 1))))
  (some (.brk y7))
/-- the model of beaconry/token.root -/
noncomputable def F81 (a0 : List Int) : Option (Int × Int) :=
  Option.bind (F49 a0 (fun z => F123 z a0)) fun r2 =>
  cond (r2)
  (some (0, 2))
  (Option.bind (whileM (F81_L0 a0) ([], 0)) fun o16 => Ctl.on o16 (fun y15 =>
  cond (((y15.length : Int) != 1))
  (some (0, 3))
  (Option.bind (whileM (F81_L1 a0 y15) 0) fun o34 => Ctl.on o34 (fun _ =>
  Option.bind (idx y15 0) fun x52 =>
  some (x52, 0)) (fun r => some r))) (fun _ => none))

/-- the model of slices.Clone[[]int,int] -/
noncomputable def F82 (a0 : List Int) : Option (List Int) := appl 8 ([] : List Int) a0

/-- the model of (*beaconry/token.tree).do$1 -/
noncomputable def F124 (a0 : Int) (a1_1 : Nat) : Option (Bool) :=
  some ((decide (a0 < 0)) || (decide (a0 ≥ (a1_1 : Int))))

/-- the model of (*beaconry/token.tree).send -/
noncomputable def F139 (a0 : (Int × Int) → Option (List Bool)) (a1 : Int) (a2 : Int) (a3 : Bool) : Option (((Int × Int) → Option (List Bool))) :=
  Option.bind (appl 1 ((a0 (a1, a2)).getD []) ([a3] : List Bool)) fun (yq4_9_1 : List Bool) =>
  some (mupd a0 (a1, a2) yq4_9_1)

/-- the model of (*beaconry/token.tree).give -/
noncomputable def F127 (a0 : (List Int) × (List (List Int)) × Int × Int × ((Int × Int) → Option (List Bool))) (a1 : Int) : Option (((List Int) × (List (List Int)) × Int × Int × ((Int × Int) → Option (List Bool)))) :=
  Option.bind (cond (((a0.2.2.1 != a1) || (a0.2.2.2.1 == a1))) (some true) (Option.bind (idx a0.2.1 a1) fun (x11 : List Int) =>
  some ((x11.length : Int) == 0))) fun b9 =>
  cond (b9)
  (some (a0.1, a0.2.1, a0.2.2.1, a0.2.2.2.1, a0.2.2.2.2))
  (Option.bind (idx a0.2.1 a1) fun (x15 : List Int) =>
  Option.bind (idx x15 0) fun x18 =>
  Option.bind (idx a0.2.1 a1) fun (x20 : List Int) =>
  Option.bind (slI x20 1 (x20.length : Int)) fun y23 =>
  Option.bind (idx a0.2.1 a1) fun (x26 : List Int) =>
  cond ((x18 == a1))
  (some (a0.1, a0.2.1.set a1.toNat y23, a0.2.2.1, a1, a0.2.2.2.2))
  (Option.bind (idx a0.1 a1) fun x30 =>
  Option.bind (F139 a0.2.2.2.2 a1 x18 true) fun r32 =>
  Option.bind (idx (a0.2.1.set a1.toNat y23) a1) fun (x37 : List Int) =>
  cond ((decide ((x37.length : Int) > 0)))
  (Option.bind (F139 r32 a1 x18 false) fun r41 =>
  some (a0.1.set a1.toNat x18, a0.2.1.set a1.toNat y23, (-1), a0.2.2.2.1, r41))
  (some (a0.1.set a1.toNat x18, a0.2.1.set a1.toNat y23, (-1), a0.2.2.2.1, r32))))

/-- the model of (*beaconry/token.tree).stand -/
noncomputable def F126 (a0 : (List Int) × (List (List Int)) × Int × Int × ((Int × Int) → Option (List Bool))) (a1 : Int) (a2 : Int) : Option (((List Int) × (List (List Int)) × Int × Int × ((Int × Int) → Option (List Bool)))) :=
  Option.bind (α := (List (List Int))) (Option.bind (idx a0.2.1 a1) fun (xq7_10_1 : List Int) =>
  Option.bind (appl 8 xq7_10_1 ([a2] : List Int)) fun (yq7_14_2 : List Int) =>
  Option.bind (idx a0.2.1 a1) fun (xq7_15_1 : List Int) =>
  some (a0.2.1.set a1.toNat yq7_14_2))
  fun y8 =>
  Option.bind (idx y8 a1) fun (x11 : List Int) =>
  Option.bind (cond (((x11.length : Int) == 1)) (Option.bind (idx a0.1 a1) fun x17 =>
  some (x17 != a1)) (some false)) fun b15 =>
  Option.bind (α := ((Int × Int) → Option (List Bool))) (cond (b15)
  (Option.bind (idx a0.1 a1) fun x25 =>
  Option.bind (F139 a0.2.2.2.2 a1 x25 false) fun r27 =>
  some r27)
  (some a0.2.2.2.2))
  fun y21 =>
  Option.bind (F127 (a0.1, y8, a0.2.2.1, a0.2.2.2.1, y21) a1) fun r32 =>
  some (r32.1, r32.2.1, r32.2.2.1, r32.2.2.2.1, r32.2.2.2.2)

/-- the model of (*beaconry/token.tree).come -/
noncomputable def F125 (a0 : (List Int) × (List (List Int)) × Int × Int × ((Int × Int) → Option (List Bool))) (a1 : Int) (a2 : Int) : Option (Int × ((List Int) × (List (List Int)) × Int × Int × ((Int × Int) → Option (List Bool)))) :=
  cond (((((a0.2.2.2.2 (a1, a2)).getD []).length : Int) == 0))
  (some (5, (a0.1, a0.2.1, a0.2.2.1, a0.2.2.2.1, a0.2.2.2.2)))
  (Option.bind (idx ((a0.2.2.2.2 (a1, a2)).getD []) 0) fun x9 =>
  Option.bind (slI ((a0.2.2.2.2 (a1, a2)).getD []) 1 (((a0.2.2.2.2 (a1, a2)).getD []).length : Int)) fun y11 =>
  cond ((!x9))
  (Option.bind (F126 (a0.1, a0.2.1, a0.2.2.1, a0.2.2.2.1, mupd a0.2.2.2.2 (a1, a2) y11) a2 a1) fun r17 =>
  some (0, (r17.1, r17.2.1, r17.2.2.1, r17.2.2.2.1, r17.2.2.2.2)))
  (Option.bind (idx a0.1 a2) fun x25 =>
  Option.bind (F127 (a0.1.set a2.toNat a2, a0.2.1, a2, a0.2.2.2.1, mupd a0.2.2.2.2 (a1, a2) y11) a2) fun r27 =>
  some (0, (r27.1, r27.2.1, r27.2.2.1, r27.2.2.2.1, r27.2.2.2.2))))

noncomputable def F128_L0 (a0 : List Int) (a1 : Int) : Int → Option (Ctl (Int) (Unit) (Int)) := fun x1 =>
  cond ((decide (x1 < (a0.length : Int))))
  (Option.bind (idx a0 x1) fun x7 =>
  cond ((a1 == x7))
  (some (.ret x1))
  (some (.nxt (w64 (x1 + 1)))))
  (some (.brk ()))
/-- the model of slices.Index[[]int,int] -/
noncomputable def F128 (a0 : List Int) (a1 : Int) : Option (Int) :=
  Option.bind (whileM (F128_L0 a0 a1) 0) fun o3 => Ctl.on o3 (fun _ =>
  some (-1)) (fun r => some r)

/-- the model of slices.Contains[[]int,int] -/
noncomputable def F84 (a0 : List Int) (a1 : Int) : Option (Bool) :=
  Option.bind (F128 a0 a1) fun r1 =>
  some (decide (r1 ≥ 0))

/-- the model of (*beaconry/token.tree).do -/
noncomputable def F83 (a0 : (List Int) × (List (List Int)) × Int × Int × ((Int × Int) → Option (List Bool))) (a1 : Int × Int × Int × Int) : Option (Int × ((List Int) × (List (List Int)) × Int × Int × ((Int × Int) → Option (List Bool)))) :=
  cond (((decide (a1.1 < 1)) || (decide (a1.1 > 3))))
  (some (6, (a0.1, a0.2.1, a0.2.2.1, a0.2.2.2.1, a0.2.2.2.2)))
  (Option.bind (F124 a1.2.1 (a0.2.1.length)) fun r11 =>
  Option.bind (cond (r11) (some true) (Option.bind (cond ((a1.1 == 2)) (Option.bind (F124 a1.2.2.1 (a0.2.1.length)) fun r19 =>
  some (r19 || (a1.2.1 == a1.2.2.1))) (some false)) fun b17 =>
  some b17)) fun b14 =>
  cond (b14)
  (some (2, (a0.1, a0.2.1, a0.2.2.1, a0.2.2.2.1, a0.2.2.2.2)))
  (cond ((a1.1 == 2))
  (Option.bind (F125 (a0.1, a0.2.1, a0.2.2.1, a0.2.2.2.1, a0.2.2.2.2) a1.2.1 a1.2.2.1) fun (r24, r25) =>
  some (r24, (r25.1, r25.2.1, r25.2.2.1, r25.2.2.2.1, r25.2.2.2.2)))
  (cond ((a1.1 == 1))
  (Option.bind (cond ((a0.2.2.2.1 == a1.2.1)) (some true) (Option.bind (idx a0.2.1 a1.2.1) fun (x37 : List Int) =>
  Option.bind (F84 x37 a1.2.1) fun r40 =>
  some r40)) fun b35 =>
  cond (b35)
  (some (7, (a0.1, a0.2.1, a0.2.2.1, a0.2.2.2.1, a0.2.2.2.2)))
  (Option.bind (F126 (a0.1, a0.2.1, a0.2.2.1, a0.2.2.2.1, a0.2.2.2.2) a1.2.1 a1.2.1) fun r43 =>
  some (0, (r43.1, r43.2.1, r43.2.2.1, r43.2.2.2.1, r43.2.2.2.2))))
  (cond ((a0.2.2.2.1 != a1.2.1))
  (some (7, (a0.1, a0.2.1, a0.2.2.1, a0.2.2.2.1, a0.2.2.2.2)))
  (Option.bind (F127 (a0.1, a0.2.1, a0.2.2.1, (-1), a0.2.2.2.2) a1.2.1) fun r52 =>
  some (0, (r52.1, r52.2.1, r52.2.2.1, r52.2.2.2.1, r52.2.2.2.2)))))))

noncomputable def F46_L2 : (Int × Int) → (List Bool) → Int → Option (Ctl (Int) Unit (Unit)) := fun k100 v101 x103 =>
  some (.nxt (w64 (x103 + (v101.length : Int))))
noncomputable def F46_L1 (y58 : List (List Int)) (x61 : Int) : ((BitVec 32) × (BitVec 32) × Int) → Option (Ctl ((BitVec 32) × (BitVec 32) × Int) ((BitVec 32) × (BitVec 32)) (Unit)) := fun (x70, x71, x72) =>
  cond ((decide (x72 < (y58.length : Int))))
  (Option.bind (α := (BitVec 32) × (BitVec 32)) (Option.bind (idx y58 x72) fun (x85 : List Int) =>
  Option.bind (α := (BitVec 32)) (cond ((x61 == x72))
  (Option.bind (shc x72) fun k91 =>
  some (x70 ||| ((1#32) <<< k91)))
  (some x70))
  fun x88 =>
  Option.bind (F84 x85 x72) fun r93 =>
  cond (r93)
  (Option.bind (shc x72) fun k96 =>
  some (x88, (x71 ||| ((1#32) <<< k96))))
  (some (x88, x71)))
  fun (x82, x83) =>
  some (.nxt (x82, x83, w64 (x72 + 1))))
  (some (.brk (x70, x71)))
noncomputable def F46_L0 (a1 : List (Int × Int × Int × Int)) : ((List Int) × ((Int × Int) → Option (List Bool)) × (List Int) × (List (List Int)) × Int × Int × Int) → Option (Ctl ((List Int) × ((Int × Int) → Option (List Bool)) × (List Int) × (List (List Int)) × Int × Int × Int) ((List Int) × ((Int × Int) → Option (List Bool)) × (List Int) × (List (List Int)) × Int × Int) (Unit)) := fun (y26, y29, y31, y32, x34, x35, x36) =>
  cond ((decide (x36 < (a1.length : Int))))
  (Option.bind (idx a1 x36) fun x66 =>
  Option.bind (F83 (y31, y32, x34, x35, y29) (x66.1, x66.2.1, x66.2.2.1, x66.2.2.2)) fun (rq69_4_1, rq69_4_2) =>
  Option.bind (appl 8 y26 ([rq69_4_1] : List Int)) fun (yq69_6_1 : List Int) =>
  some (.nxt (yq69_6_1, rq69_4_2.2.2.2.2, rq69_4_2.1, rq69_4_2.2.1, rq69_4_2.2.2.1, rq69_4_2.2.2.2.1, w64 (x36 + 1))))
  (some (.brk (y26, y29, y31, y32, x34, x35)))
/-- the model of beaconry/token.Play -/
noncomputable def F46 (a0 : List Int) (a1 : List (Int × Int × Int × Int)) : Option (((List Int) × (BitVec 32) × (BitVec 32) × Int) × Int) :=
  cond ((((decide ((a0.length : Int) < 1)) || (decide ((a0.length : Int) > 6))) || (decide ((a1.length : Int) > 60))))
  (some (([], 0, 0, 0), 1))
  (Option.bind (F81 a0) fun (r6, r7) =>
  cond ((r7 != 0))
  (some (([], 0, 0, 0), r7))
  (Option.bind (α := (List Int) × (List (List Int)) × ((Int × Int) → Option (List Bool))) (Option.bind (F82 a0) fun rq10_1_1 =>
  Option.bind (mkl (a0.length : Int) 24 ([] : List Int)) fun (yq10_4_1 : List (List Int)) =>
  some (rq10_1_1, yq10_4_1, (mzero : (Int × Int) → Option (List Bool))))
  fun (y13, y17, y20) =>
  Option.bind (whileM (F46_L0 a1) ([], y20, y13, y17, r6, (-1), 0)) fun o62 => Ctl.on o62 (fun (y52, y55, y57, y58, x60, x61) =>
  Option.bind (whileM (F46_L1 y58 x61) (0, 0, 0)) fun o78 => Ctl.on o78 (fun (x76, x77) =>
  Option.bind (rangeM y55 (F46_L2) 0) fun o105 => Ctl.onN o105 (fun x103 =>
  some ((y52, x76, x77, x103), 0)) (fun _ => none)) (fun _ => none)) (fun _ => none)))

noncomputable def F47_L2 (a0 : List Int) : (Int × Int) → Option (Ctl (Int × Int) (Int) (Unit)) := fun (x25, x26) =>
  cond ((decide (x26 < (a0.length : Int))))
  (Option.bind (idx a0 x25) fun x34 =>
  some (.nxt (x34, w64 (x26 + 1))))
  (some (.brk x25))
noncomputable def F47_L1 (a0 : List Int) : (Int × Int) → Option (Ctl (Int × Int) (Int) (Int)) := fun (x11, x12) =>
  cond ((decide (x12 < (a0.length : Int))))
  (Option.bind (idx a0 x12) fun x20 =>
  Option.bind (α := Int) (cond ((x12 == x20))
  (some (w64 (x11 + 1)))
  (some x11))
  fun x22 =>
  Option.bind (whileM (F47_L2 a0) (x12, 0)) fun o30 => Ctl.on o30 (fun x29 =>
  Option.bind (idx a0 x29) fun x36 =>
  cond ((x36 != x29))
  (some (.ret 3))
  (some (.nxt (x22, w64 (x12 + 1))))) (fun _ => none))
  (some (.brk x11))
noncomputable def F47_L0 (a0 : List Int) : Int → Option (Ctl (Int) (Unit) (Int)) := fun x1 =>
  cond ((decide (x1 < (a0.length : Int))))
  (Option.bind (idx a0 x1) fun x7 =>
  cond (((decide (x7 < 0)) || (decide (x7 ≥ (a0.length : Int)))))
  (some (.ret 2))
  (some (.nxt (w64 (x1 + 1)))))
  (some (.brk ()))
/-- the model of beaconry/beaconryref.TreeCheck -/
noncomputable def F47 (a0 : List Int) : Option (Int) :=
  Option.bind (whileM (F47_L0 a0) 0) fun o3 => Ctl.on o3 (fun _ =>
  Option.bind (whileM (F47_L1 a0) (0, 0)) fun o16 => Ctl.on o16 (fun x15 =>
  cond ((x15 != 1))
  (some 3)
  (some 0)) (fun r => some r)) (fun r => some r)

/-- the model of beaconry/beaconrylaw.same -/
noncomputable def F40 (a0 : (List Int) × (BitVec 32) × (BitVec 32) × Int) (a1 : (List Int) × (BitVec 32) × (BitVec 32) × Int) : Option (Bool) :=
  Option.bind (F18 a0.1 a1.1) fun r5 =>
  some (((r5 && (a0.2.1 == a1.2.1)) && (a0.2.2.1 == a1.2.2.1)) && (a0.2.2.2 == a1.2.2.2))

/-- the model of beaconry/beaconrylaw.TokenPlays -/
noncomputable def F14 (a0 : List Int) (a1 : List (Int × Int × Int × Int)) : Option (Bool) :=
  Option.bind (F46 a0 a1) fun (r1, r2) =>
  Option.bind (F21 (a0.length : Int) (a1.length : Int)) fun r8 =>
  Option.bind (α := Int) (cond ((r8 == 0))
  (Option.bind (F47 a0) fun r13 =>
  some r13)
  (some r8))
  fun x10 =>
  Option.bind (α := (List Int) × (BitVec 32) × (BitVec 32) × Int) (cond ((x10 == 0))
  (Option.bind (F48 a0 a1) fun r24 =>
  some (r24.1, r24.2.1, r24.2.2.1, r24.2.2.2))
  (some ([], 0, 0, 0)))
  fun (y18, x19, x20, x21) =>
  Option.bind (cond ((r2 == x10)) (Option.bind (F40 (r1.1, r1.2.1, r1.2.2.1, r1.2.2.2) (y18, x19, x20, x21)) fun r32 =>
  some r32) (some false)) fun b30 =>
  some b30
end Go.Proofs.Ythfkdepcnhhepaa
