/-
  Pure models of Go functions, written by a program (gen.py).
-/
import Derived.Test.YthfkdepcnhhepaaBk16
namespace Go.Proofs.Ythfkdepcnhhepaa
open Go Go.Bk
set_option linter.unusedVariables false
@[reducible] def cTii (x : Int × Int) : List Value := [I x.1, I x.2]
@[reducible] def cTiiii (x : Int × Int × Int × Int) : List Value := [I x.1, I x.2.1, I x.2.2.1, I x.2.2.2]
noncomputable def F87_L0 (a0 : List Int) (a1 : Int → Option Bool) : Int → Option (Ctl (Int) (Unit) (Int)) := fun x1 =>
  cond ((decide (x1 < (a0.length : Int))))
  (Option.bind (idx a0 x1) fun x7 =>
  Option.bind (a1 x7) fun r9 =>
  cond (r9)
  (some (.ret x1))
  (some (.nxt (w64 (x1 + 1)))))
  (some (.brk ()))
/-- the model of slices.IndexFunc[[]int,int] -/
noncomputable def F87 (a0 : List Int) (a1 : Int → Option Bool) : Option (Int) :=
  Option.bind (whileM (F87_L0 a0 a1) 0) fun o3 => Ctl.on o3 (fun _ =>
  some (-1)) (fun r => some r)

/-- the model of slices.ContainsFunc[[]int,int] -/
noncomputable def F49 (a0 : List Int) (a1 : Int → Option Bool) : Option (Bool) :=
  Option.bind (F87 a0 a1) fun r1 =>
  some (decide (r1 ≥ 0))

/-- the model of beaconry/lease.Play$1 -/
noncomputable def F50 (a0 : Int) : Option (Bool) :=
  some ((decide (a0 < 9)) || (decide (a0 > 11)))

/-- the model of (beaconry/lease.grant).kept -/
noncomputable def F51 (a0 : Int × Int) (a1 : List Int) (a2 : Int) : Option (Bool) :=
  Option.bind (cond ((decide (a0.1 > 0))) (Option.bind (idx a1 0) fun x5 =>
  some (decide ((w64 (a0.2 * x5)) < a2))) (some false)) fun b3 =>
  some b3

/-- the model of (beaconry/lease.grant).held -/
noncomputable def F52 (a0 : Int × Int) (a1 : List Int) (a2 : Int) : Option (Bool) :=
  Option.bind (cond ((decide (a0.1 > 0))) (Option.bind (idx a1 a0.1) fun x5 =>
  some (decide ((w64 ((w64 (a0.2 * x5)) * 11)) < (w64 (a2 * 9))))) (some false)) fun b3 =>
  some b3

noncomputable def F15_L0 (a0 : List Int) (a1 : Int) (a2 : List (Int × Int × Int × Int)) : ((List Int) × (List (BitVec 32)) × (List (BitVec 32)) × Int × Int × Int) → Option (Ctl ((List Int) × (List (BitVec 32)) × (List (BitVec 32)) × Int × Int × Int) ((List Int) × (List (BitVec 32)) × (List (BitVec 32)) × Int × Int) (Unit)) := fun (y17, y20, y23, x24, x25, x26) =>
  cond ((decide (x26 < (a2.length : Int))))
  (Option.bind (idx a2 x26) fun x54 =>
  Option.bind (α := Int × Int × Int) (cond (((x54.1 != 1) && (x54.1 != 2)))
  (some (x24, x25, 6))
  (cond ((x54.1 == 2))
  (cond (((decide (x54.2.2.2 < 0)) || (decide (x54.2.2.2 > 1000))))
  (some (x24, x25, 4))
  (some (x24, w64 (x25 + x54.2.2.2), 0)))
  (cond (((decide (x54.2.2.1 < 1)) || (decide (x54.2.2.1 ≥ (a0.length : Int)))))
  (some (x24, x25, 2))
  (Option.bind (F51 (x24, x25) a0 a1) fun r68 =>
  cond ((r68 && (x24 != x54.2.2.1)))
  (some (x24, x25, 7))
  (some (x54.2.2.1, 0, 0))))))
  fun (x57, x58, x59) =>
  Option.bind (F52 (x57, x58) a0 a1) fun r72 =>
  Option.bind (α := (BitVec 32)) (cond (r72)
  (Option.bind (shc x57) fun k77 =>
  some ((1#32) <<< k77))
  (some (0#32)))
  fun x74 =>
  Option.bind (F51 (x57, x58) a0 a1) fun r79 =>
  Option.bind (α := (BitVec 32)) (cond (r79)
  (Option.bind (shc x57) fun k84 =>
  some ((1#32) <<< k84))
  (some (0#32)))
  fun x81 =>
  Option.bind (α := (List Int) × (List (BitVec 32)) × (List (BitVec 32))) (Option.bind (appl 8 y17 ([x59] : List Int)) fun (yq86_4_1 : List Int) =>
  Option.bind (appl 4 y20 ([x74] : List (BitVec 32))) fun (yq86_9_1 : List (BitVec 32)) =>
  Option.bind (appl 4 y23 ([x81] : List (BitVec 32))) fun (yq86_14_1 : List (BitVec 32)) =>
  some (yq86_4_1, yq86_9_1, yq86_14_1))
  fun (y87, y89, y91) =>
  some (.nxt (y87, y89, y91, x57, x58, w64 (x26 + 1))))
  (some (.brk (y17, y20, y23, x24, x25)))
/-- the model of beaconry/lease.Play -/
noncomputable def F15 (a0 : List Int) (a1 : Int) (a2 : List (Int × Int × Int × Int)) : Option (((List Int) × (List (BitVec 32)) × List (BitVec 32)) × Int) :=
  cond ((((decide ((a0.length : Int) < 1)) || (decide ((a0.length : Int) > 6))) || (decide ((a2.length : Int) > 60))))
  (some (([], [], []), 1))
  (Option.bind (F49 a0 (fun z => F50 z)) fun r8 =>
  cond (((r8 || (decide (a1 < 1))) || (decide (a1 > 99))))
  (some (([], [], []), 4))
  (Option.bind (whileM (F15_L0 a0 a1 a2) ([], [], [], 0, 0, 0)) fun o50 => Ctl.on o50 (fun (y41, y44, y47, x48, x49) =>
  some ((y41, y44, y47), 0)) (fun _ => none)))

/-- the model of beaconry/beaconryref.PlayCheck -/
noncomputable def F21 (a0 : Int) (a1 : Int) : Option (Int) :=
  cond ((((decide (a0 < 1)) || (decide (a0 > 6))) || (decide (a1 > 60))))
  (some 1)
  (some 0)

noncomputable def F16_L0 (a0 : List Int) : (Int × Int) → Option (Ctl (Int × Int) (Int) (Unit)) := fun (x3, x4) =>
  cond ((decide (x4 < (a0.length : Int))))
  (Option.bind (α := Int) (Option.bind (idx a0 x4) fun x14 =>
  cond (((x3 == 0) && ((decide (x14 < 9)) || (decide (x14 > 11)))))
  (some 4)
  (some x3))
  fun x12 =>
  some (.nxt (x12, w64 (x4 + 1))))
  (some (.brk x3))
/-- the model of beaconry/beaconrylaw.leaseCode -/
noncomputable def F16 (a0 : List Int) (a1 : Int) (a2 : Int) : Option (Int) :=
  Option.bind (F21 (a0.length : Int) a2) fun r1 =>
  Option.bind (whileM (F16_L0 a0) (r1, 0)) fun o8 => Ctl.on o8 (fun x7 =>
  Option.bind (α := Int) (cond (((x7 == 0) && ((decide (a1 < 1)) || (decide (a1 > 99)))))
  (some 4)
  (some x7))
  fun x21 =>
  some x21) (fun _ => none)

noncomputable def F17_L2 (a0 : List Int) (a1 : Int) (y78 : List Int) (x80 : Int) : ((BitVec 32) × (BitVec 32) × Int) → Option (Ctl ((BitVec 32) × (BitVec 32) × Int) ((BitVec 32) × (BitVec 32)) (Unit)) := fun (x94, x95, x96) =>
  cond ((decide (x96 < (a0.length : Int))))
  (Option.bind (α := (BitVec 32) × (BitVec 32)) (Option.bind (idx y78 x96) fun x109 =>
  Option.bind (cond ((decide (x109 ≥ 0))) (Option.bind (idx y78 x96) fun x114 =>
  Option.bind (idx a0 x96) fun x116 =>
  some (decide ((w64 ((w64 ((w64 (x80 - x114)) * x116)) * 11)) < (w64 (a1 * 9))))) (some false)) fun b112 =>
  Option.bind (α := (BitVec 32)) (cond (b112)
  (some (x94 + ((1#32) <<< (u64 x96).toNat)))
  (some x94))
  fun x118 =>
  Option.bind (idx y78 x96) fun x121 =>
  Option.bind (cond ((decide (x121 ≥ 0))) (Option.bind (idx y78 x96) fun x126 =>
  Option.bind (idx a0 0) fun x128 =>
  some (decide ((w64 ((w64 (x80 - x126)) * x128)) < a1))) (some false)) fun b124 =>
  cond (b124)
  (some (x118, (x95 + ((1#32) <<< (u64 x96).toNat))))
  (some (x118, x95)))
  fun (x106, x107) =>
  some (.nxt (x106, x107, w64 (x96 + 1))))
  (some (.brk (x94, x95)))
noncomputable def F17_L1 (a0 : List Int) (a1 : Int) (a2 : List (Int × Int × Int × Int)) : ((List Int) × (List (BitVec 32)) × (List (BitVec 32)) × (List Int) × Int × Int × Int) → Option (Ctl ((List Int) × (List (BitVec 32)) × (List (BitVec 32)) × (List Int) × Int × Int × Int) ((List Int) × (List (BitVec 32)) × (List (BitVec 32)) × (List Int)) (Unit)) := fun (y26, y29, y32, y33, x35, x36, x37) =>
  cond ((decide (x37 < (a2.length : Int))))
  (Option.bind (idx a2 x37) fun x67 =>
  Option.bind (cond ((decide (x36 > 0))) (Option.bind (idx y33 x36) fun x73 =>
  Option.bind (idx a0 0) fun x75 =>
  some (decide ((w64 ((w64 (x35 - x73)) * x75)) < a1))) (some false)) fun b71 =>
  Option.bind (α := (List Int) × Int × Int × Int) (cond (((x67.1 != 1) && (x67.1 != 2)))
  (some (y33, x35, x36, 6))
  (cond ((x67.1 == 2))
  (cond (((decide (x67.2.2.2 < 0)) || (decide (x67.2.2.2 > 1000))))
  (some (y33, x35, x36, 4))
  (some (y33, w64 (x35 + x67.2.2.2), x36, 0)))
  (cond (((decide (x67.2.2.1 < 1)) || (decide (x67.2.2.1 ≥ (a0.length : Int)))))
  (some (y33, x35, x36, 2))
  (cond ((b71 && (x67.2.2.1 != x36)))
  (some (y33, x35, x36, 7))
  (Option.bind (idx y33 x67.2.2.1) fun x92 =>
  some (y33.set x67.2.2.1.toNat x35, x35, x67.2.2.1, 0))))))
  fun (y78, x80, x81, x82) =>
  Option.bind (whileM (F17_L2 a0 a1 y78 x80) (0#32, 0#32, 1)) fun o102 => Ctl.on o102 (fun (x100, x101) =>
  Option.bind (appl 8 y26 ([x82] : List Int)) fun (y133 : List Int) =>
  Option.bind (appl 4 y29 ([x100] : List (BitVec 32))) fun (y139 : List (BitVec 32)) =>
  Option.bind (appl 4 y32 ([x101] : List (BitVec 32))) fun (y145 : List (BitVec 32)) =>
  some (.nxt (y133, y139, y145, y78, x80, x81, w64 (x37 + 1)))) (fun _ => none))
  (some (.brk (y26, y29, y32, y33)))
noncomputable def F17_L0 (a0 : List Int) : ((List Int) × Int) → Option (Ctl ((List Int) × Int) ((List Int)) (Unit)) := fun (y10, x12) =>
  cond ((decide (x12 < (a0.length : Int))))
  (Option.bind (idx y10 x12) fun x22 =>
  some (.nxt (y10.set x12.toNat (-1), w64 (x12 + 1))))
  (some (.brk y10))
/-- the model of beaconry/beaconryref.Lease -/
noncomputable def F17 (a0 : List Int) (a1 : Int) (a2 : List (Int × Int × Int × Int)) : Option (((List Int) × (List (BitVec 32)) × List (BitVec 32))) :=
  Option.bind (mkl (a0.length : Int) 8 0) fun (y6 : List Int) =>
  Option.bind (whileM (F17_L0 a0) (y6, 0)) fun o18 => Ctl.on o18 (fun y16 =>
  Option.bind (whileM (F17_L1 a0 a1 a2) ([], [], [], y16, 0, 0, 0)) fun o63 => Ctl.on o63 (fun (y54, y57, y60, y61) =>
  some (y54, y57, y60)) (fun _ => none)) (fun _ => none)

noncomputable def F18_L0 (a0 : List Int) (a1 : List Int) : Int → Option (Ctl (Int) (Unit) (Bool)) := fun x2 =>
  cond ((decide (x2 < (a0.length : Int))))
  (Option.bind (idx a0 x2) fun x8 =>
  Option.bind (idx a1 x2) fun x10 =>
  cond ((x8 != x10))
  (some (.ret false))
  (some (.nxt (w64 (x2 + 1)))))
  (some (.brk ()))
/-- the model of beaconry/beaconryref.Codes -/
noncomputable def F18 (a0 : List Int) (a1 : List Int) : Option (Bool) :=
  cond (((a0.length : Int) != (a1.length : Int)))
  (some false)
  (Option.bind (whileM (F18_L0 a0 a1) 0) fun o4 => Ctl.on o4 (fun _ =>
  some true) (fun r => some r))

noncomputable def F19_L0 (a0 : List (BitVec 32)) (a1 : List (BitVec 32)) : Int → Option (Ctl (Int) (Unit) (Bool)) := fun x2 =>
  cond ((decide (x2 < (a0.length : Int))))
  (Option.bind (idx a0 x2) fun x8 =>
  Option.bind (idx a1 x2) fun x10 =>
  cond ((x8 != x10))
  (some (.ret false))
  (some (.nxt (w64 (x2 + 1)))))
  (some (.brk ()))
/-- the model of beaconry/beaconryref.Words -/
noncomputable def F19 (a0 : List (BitVec 32)) (a1 : List (BitVec 32)) : Option (Bool) :=
  cond (((a0.length : Int) != (a1.length : Int)))
  (some false)
  (Option.bind (whileM (F19_L0 a0 a1) 0) fun o4 => Ctl.on o4 (fun _ =>
  some true) (fun r => some r))

/-- the model of beaconry/beaconrylaw.LeasePlays -/
noncomputable def F3 (a0 : List Int) (a1 : Int) (a2 : List (Int × Int × Int × Int)) : Option (Bool) :=
  Option.bind (F15 a0 a1 a2) fun (r1, r2) =>
  Option.bind (F16 a0 a1 (a2.length : Int)) fun r14 =>
  Option.bind (α := (List Int) × (List (BitVec 32)) × (List (BitVec 32))) (cond ((r14 == 0))
  (Option.bind (F17 a0 a1 a2) fun r28 =>
  some (r28.1, r28.2.1, r28.2.2))
  (some ([], [], [])))
  fun (y19, y22, y25) =>
  Option.bind (cond ((r2 == r14)) (Option.bind (F18 r1.1 y19) fun r42 =>
  some r42) (some false)) fun b40 =>
  Option.bind (cond (b40) (Option.bind (F19 r1.2.1 y22) fun r47 =>
  some r47) (some false)) fun b45 =>
  Option.bind (cond (b45) (Option.bind (F19 r1.2.2 y25) fun r52 =>
  some r52) (some false)) fun b50 =>
  some b50
end Go.Proofs.Ythfkdepcnhhepaa
