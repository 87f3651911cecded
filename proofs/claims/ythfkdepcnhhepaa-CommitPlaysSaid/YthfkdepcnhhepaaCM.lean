/-
  Pure models of Go functions, written by a program (gen.py).
-/
import Derived.Test.YthfkdepcnhhepaaBk17
namespace Go.Proofs.Ythfkdepcnhhepaa
open Go Go.Bk
set_option linter.unusedVariables false
@[reducible] def cTiiii (x : Int × Int × Int × Int) : List Value := [I x.1, I x.2.1, I x.2.2.1, I x.2.2.2]
/-- the model of (*beaconry/commit.group).do$1 -/
noncomputable def F116 (a0 : Int) (a1 : Int) : Option (Bool) :=
  some ((decide (a0 ≥ 0)) && (decide (a0 < a1)))

/-- the model of (*beaconry/commit.group).do$2 -/
noncomputable def F117 (a0 : Int) (a1 : Int) : Option (Bool) :=
  some ((decide (a0 > 0)) && (decide (a0 < a1)))

/-- the model of beaconry/commit.decided -/
noncomputable def F138 (a0 : Int) : Option (Bool) :=
  some ((a0 == 2) || (a0 == 3))

/-- the model of (*beaconry/commit.group).back -/
noncomputable def F118 (a0 : (List Int) × (List Bool) × List Bool) (a1 : Int) : Option (Int × ((List Int) × (List Bool) × List Bool)) :=
  Option.bind (idx a0.2.1 a1) fun x7 =>
  cond ((!x7))
  (some (7, (a0.1, a0.2.1, a0.2.2)))
  (Option.bind (idx a0.2.1 a1) fun x10 =>
  Option.bind (cond ((a1 == 0)) (Option.bind (idx a0.1 0) fun x15 =>
  Option.bind (F138 x15) fun r17 =>
  some (!r17)) (some false)) fun b13 =>
  Option.bind (α := (List Int)) (cond (b13)
  (Option.bind (idx a0.1 0) fun x23 =>
  some (a0.1.set (0 : Int).toNat 3))
  (some a0.1))
  fun y19 =>
  some (0, (y19, a0.2.1.set a1.toNat false, a0.2.2)))

/-- the model of (*beaconry/commit.group).vote -/
noncomputable def F119 (a0 : (List Int) × (List Bool) × List Bool) (a1 : Int) (a2 : Int) : Option (Int × ((List Int) × (List Bool) × List Bool)) :=
  Option.bind (idx a0.1 a1) fun x7 =>
  cond ((x7 != 0))
  (some (7, (a0.1, a0.2.1, a0.2.2)))
  (Option.bind (idx a0.1 a1) fun x10 =>
  Option.bind (α := (List Int) × (List Bool)) (cond ((a2 == 1))
  (Option.bind (idx (a0.1.set a1.toNat 3) a1) fun x18 =>
  Option.bind (idx a0.2.1 0) fun x20 =>
  Option.bind (idx a0.2.2 a1) fun x22 =>
  some ((a0.1.set a1.toNat 3).set a1.toNat 1, a0.2.2.set a1.toNat (!x20)))
  (some (a0.1.set a1.toNat 3, a0.2.2)))
  fun (y12, y14) =>
  some (0, (y12, a0.2.1, y14)))

noncomputable def F120_L0 (y14 : List Bool) : ((List Int) × Int) → Option (Ctl ((List Int) × Int) ((List Int)) (Unit)) := fun (y17, x19) =>
  cond ((decide (x19 < (y14.length : Int))))
  (Option.bind (α := (List Int)) (Option.bind (idx y14 x19) fun x32 =>
  cond ((!x32))
  (Option.bind (idx y17 0) fun x35 =>
  some (y17.set (0 : Int).toNat 3))
  (some y17))
  fun y29 =>
  some (.nxt (y29, w64 (x19 + 1))))
  (some (.brk y17))
/-- the model of (*beaconry/commit.group).tally -/
noncomputable def F120 (a0 : (List Int) × (List Bool) × List Bool) : Option (Int × ((List Int) × (List Bool) × List Bool)) :=
  Option.bind (idx a0.1 0) fun x7 =>
  Option.bind (F138 x7) fun r9 =>
  cond (r9)
  (some (7, (a0.1, a0.2.1, a0.2.2)))
  (Option.bind (idx a0.1 0) fun x12 =>
  Option.bind (slI a0.2.2 1 (a0.2.2.length : Int)) fun y14 =>
  Option.bind (whileM (F120_L0 y14) (a0.1.set (0 : Int).toNat 2, 0)) fun o25 => Ctl.on o25 (fun y23 =>
  some (0, (y23, a0.2.1, a0.2.2))) (fun _ => none))

/-- the model of (*beaconry/commit.group).tell -/
noncomputable def F121 (a0 : (List Int) × (List Bool) × List Bool) (a1 : Int) : Option (Int × ((List Int) × (List Bool) × List Bool)) :=
  Option.bind (idx a0.1 0) fun x7 =>
  Option.bind (F138 x7) fun r9 =>
  cond ((!r9))
  (some (5, (a0.1, a0.2.1, a0.2.2)))
  (Option.bind (idx a0.1 a1) fun x12 =>
  Option.bind (F138 x12) fun r14 =>
  cond (r14)
  (some (8, (a0.1, a0.2.1, a0.2.2)))
  (Option.bind (idx a0.1 0) fun x17 =>
  Option.bind (idx a0.1 a1) fun x19 =>
  some (0, (a0.1.set a1.toNat x17, a0.2.1, a0.2.2))))

/-- the model of (*beaconry/commit.group).ask -/
noncomputable def F122 (a0 : (List Int) × (List Bool) × List Bool) (a1 : Int) (a2 : Int) : Option (Int × ((List Int) × (List Bool) × List Bool)) :=
  Option.bind (idx a0.1 a1) fun x7 =>
  cond ((x7 == 0))
  (some (3, (a0.1, a0.2.1, a0.2.2)))
  (Option.bind (idx a0.1 a1) fun x10 =>
  Option.bind (F138 x10) fun r12 =>
  cond (r12)
  (some (8, (a0.1, a0.2.1, a0.2.2)))
  (Option.bind (idx a0.1 a2) fun x15 =>
  cond ((x15 == 1))
  (some (5, (a0.1, a0.2.1, a0.2.2)))
  (Option.bind (idx a0.1 a2) fun x18 =>
  Option.bind (α := (List Int)) (cond ((x18 == 0))
  (Option.bind (idx a0.1 a2) fun x24 =>
  some (a0.1.set a2.toNat 3))
  (some a0.1))
  fun y20 =>
  Option.bind (idx y20 a2) fun x26 =>
  Option.bind (idx y20 a1) fun x28 =>
  some (0, (y20.set a1.toNat x26, a0.2.1, a0.2.2)))))

/-- the model of (*beaconry/commit.group).do -/
noncomputable def F78 (a0 : (List Int) × (List Bool) × List Bool) (a1 : Int × Int × Int × Int) : Option (Int × ((List Int) × (List Bool) × List Bool)) :=
  cond (((decide (a1.1 < 1)) || (decide (a1.1 > 6))))
  (some (6, (a0.1, a0.2.1, a0.2.2)))
  (Option.bind (α := Int) (Option.bind (α := Bool) (cond ((a1.1 == 2))
  (some (a1.1 == 2))
  (some (a1.1 == 3)))
  fun b13 =>
  cond (b13)
  (some 0)
  (some a1.2.1))
  fun x11 =>
  Option.bind (F116 x11 (a0.1.length : Int)) fun r18 =>
  Option.bind (cond (((!r18) || (((a1.1 == 1) || (a1.1 == 6)) && (x11 == 0)))) (some true) (Option.bind (cond (((a1.1 == 3) || (a1.1 == 6))) (Option.bind (F117 a1.2.2.1 (a0.1.length : Int)) fun r29 =>
  some (!r29)) (some false)) fun b27 =>
  some b27)) fun b24 =>
  cond ((b24 || ((a1.1 == 6) && (a1.2.1 == a1.2.2.1))))
  (some (2, (a0.1, a0.2.1, a0.2.2)))
  (cond ((a1.1 == 5))
  (Option.bind (F118 (a0.1, a0.2.1, a0.2.2) x11) fun (r35, r36) =>
  some (r35, (r36.1, r36.2.1, r36.2.2)))
  (cond ((a1.1 == 4))
  (Option.bind (idx a0.2.1 x11) fun x45 =>
  cond (x45)
  (some (7, (a0.1, a0.2.1, a0.2.2)))
  (Option.bind (idx a0.2.1 x11) fun x48 =>
  some (0, (a0.1, a0.2.1.set x11.toNat true, a0.2.2))))
  (Option.bind (idx a0.2.1 x11) fun x50 =>
  Option.bind (cond (x50) (some true) (Option.bind (cond (((a1.1 == 3) || (a1.1 == 6))) (Option.bind (idx a0.2.1 a1.2.2.1) fun x58 =>
  some x58) (some false)) fun b56 =>
  some b56)) fun b53 =>
  cond (b53)
  (some (4, (a0.1, a0.2.1, a0.2.2)))
  (cond ((a1.1 == 1))
  (Option.bind (F119 (a0.1, a0.2.1, a0.2.2) x11 a1.2.2.2) fun (r62, r63) =>
  some (r62, (r63.1, r63.2.1, r63.2.2)))
  (cond ((a1.1 == 2))
  (Option.bind (F120 (a0.1, a0.2.1, a0.2.2)) fun (r72, r73) =>
  some (r72, (r73.1, r73.2.1, r73.2.2)))
  (cond ((a1.1 == 3))
  (Option.bind (F121 (a0.1, a0.2.1, a0.2.2) a1.2.2.1) fun (r82, r83) =>
  some (r82, (r83.1, r83.2.1, r83.2.2)))
  (Option.bind (F122 (a0.1, a0.2.1, a0.2.2) a1.2.1 a1.2.2.1) fun (r91, r92) =>
  some (r91, (r92.1, r92.2.1, r92.2.2))))))))))

noncomputable def F44_L0 (a1 : List (Int × Int × Int × Int)) : ((List Int) × (List Int) × (List Bool) × (List Bool) × Int) → Option (Ctl ((List Int) × (List Int) × (List Bool) × (List Bool) × Int) ((List Int) × (List Int) × (List Bool) × (List Bool)) (Unit)) := fun (y20, y23, y26, y29, x30) =>
  cond ((decide (x30 < (a1.length : Int))))
  (Option.bind (idx a1 x30) fun x60 =>
  Option.bind (F78 (y23, y26, y29) (x60.1, x60.2.1, x60.2.2.1, x60.2.2.2)) fun (r63, r64) =>
  Option.bind (appl 8 y20 ([r63] : List Int)) fun (y74 : List Int) =>
  some (.nxt (y74, r64.1, r64.2.1, r64.2.2, w64 (x30 + 1))))
  (some (.brk (y20, y23, y26, y29)))
/-- the model of beaconry/commit.Play -/
noncomputable def F44 (a0 : Int) (a1 : List (Int × Int × Int × Int)) : Option (((List Int) × List Int) × Int) :=
  cond ((((decide (a0 < 1)) || (decide (a0 > 6))) || (decide ((a1.length : Int) > 60))))
  (some (([], []), 1))
  (Option.bind (α := (List Int) × (List Bool) × (List Bool)) (Option.bind (mkl a0 8 0) fun (yq7_1_1 : List Int) =>
  Option.bind (mkl a0 1 false) fun (yq7_3_1 : List Bool) =>
  Option.bind (mkl a0 1 false) fun (yq7_5_1 : List Bool) =>
  some (yq7_1_1, yq7_3_1, yq7_5_1))
  fun (y10, y13, y16) =>
  Option.bind (whileM (F44_L0 a1) ([], y10, y13, y16, 0)) fun o56 => Ctl.on o56 (fun (y46, y49, y52, y55) =>
  some ((y46, y49), 0)) (fun _ => none))

/-- the model of beaconry/beaconryref.PlayCheck -/
noncomputable def F21 (a0 : Int) (a1 : Int) : Option (Int) :=
  cond ((((decide (a0 < 1)) || (decide (a0 > 6))) || (decide (a1 > 60))))
  (some 1)
  (some 0)

/-- the model of beaconry/beaconryref.Commit$1 -/
noncomputable def F79 (a0 : Int) (a1 : (List Int) × List Int) : Option (Bool) :=
  Option.bind (idx a1.2 a0) fun x3 =>
  Option.bind (cond ((x3 == 2)) (some true) (Option.bind (idx a1.2 a0) fun x8 =>
  some (x8 == 3))) fun b6 =>
  some b6

/-- the model of beaconry/beaconryref.Commit$2 -/
noncomputable def F80 (a0 : Int) (a1 : Int) : Option (Bool) :=
  some ((decide (a0 > 0)) && (decide (a0 < a1)))

noncomputable def F45_L1 (a0 : Int) (y23 : List Bool) : ((List Int) × Int) → Option (Ctl ((List Int) × Int) ((List Int)) (Unit)) := fun (y144, x146) =>
  cond ((decide (x146 < a0)))
  (Option.bind (α := (List Int)) (Option.bind (idx y23 x146) fun x159 =>
  cond ((!x159))
  (Option.bind (idx y144 0) fun x162 =>
  some (y144.set (0 : Int).toNat 3))
  (some y144))
  fun y156 =>
  some (.nxt (y156, w64 (x146 + 1))))
  (some (.brk y144))
noncomputable def F45_L0 (a0 : Int) (a1 : List (Int × Int × Int × Int)) : ((List Int) × (List Bool) × (List Bool) × (List Int) × Int) → Option (Ctl ((List Int) × (List Bool) × (List Bool) × (List Int) × Int) ((List Int) × (List Bool) × (List Bool) × (List Int)) (Unit)) := fun (y22, y23, y25, y27, x29) =>
  cond ((decide (x29 < (a1.length : Int))))
  (Option.bind (idx a1 x29) fun x53 =>
  Option.bind (α := Int) (cond (((x53.1 == 2) || (x53.1 == 3)))
  (some 0)
  (some x53.2.1))
  fun x57 =>
  Option.bind (α := Bool) (cond (((x53.1 == 1) || (x53.1 == 6)))
  (Option.bind (F80 x57 a0) fun r65 =>
  some (!r65))
  (some ((decide (x57 < 0)) || (decide (x57 ≥ a0)))))
  fun b62 =>
  Option.bind (α := Bool) (cond (((x53.1 == 3) || (x53.1 == 6)))
  (Option.bind (cond (b62) (some true) (Option.bind (F80 x53.2.2.1 a0) fun r74 =>
  some (!r74))) fun b72 =>
  some b72)
  (some b62))
  fun b68 =>
  Option.bind (α := Bool) (cond ((x53.1 == 6))
  (some (b68 || (x53.2.2.1 == x57)))
  (some b68))
  fun b76 =>
  Option.bind (α := (List Bool) × (List Bool) × (List Int) × Int) (cond (((decide (x53.1 < 1)) || (decide (x53.1 > 6))))
  (some (y23, y25, y27, 6))
  (cond (b76)
  (some (y23, y25, y27, 2))
  (cond ((x53.1 == 5))
  (Option.bind (idx y25 x57) fun x92 =>
  cond ((!x92))
  (some (y23, y25, y27, 7))
  (Option.bind (idx y25 x57) fun x95 =>
  Option.bind (cond ((x57 == 0)) (Option.bind (F79 0 (y22, y27)) fun r100 =>
  some (!r100)) (some false)) fun b98 =>
  cond (b98)
  (Option.bind (idx y27 0) fun x103 =>
  some (y23, y25.set x57.toNat false, y27.set (0 : Int).toNat 3, 0))
  (some (y23, y25.set x57.toNat false, y27, 0))))
  (cond ((x53.1 == 4))
  (Option.bind (idx y25 x57) fun x106 =>
  Option.bind (α := Int) (cond (x106)
  (some 7)
  (some 0))
  fun x108 =>
  Option.bind (idx y25 x57) fun x111 =>
  some (y23, y25.set x57.toNat true, y27, x108))
  (Option.bind (idx y25 x57) fun x113 =>
  Option.bind (cond (x113) (some true) (Option.bind (cond (((x53.1 == 3) || (x53.1 == 6))) (Option.bind (idx y25 x53.2.2.1) fun x122 =>
  some x122) (some false)) fun b120 =>
  some b120)) fun b116 =>
  cond (b116)
  (some (y23, y25, y27, 4))
  (cond ((x53.1 == 1))
  (Option.bind (idx y27 x57) fun x126 =>
  cond ((x126 != 0))
  (some (y23, y25, y27, 7))
  (cond ((x53.2.2.2 == 1))
  (Option.bind (idx y27 x57) fun x130 =>
  Option.bind (idx y25 0) fun x132 =>
  Option.bind (idx y23 x57) fun x134 =>
  some (y23.set x57.toNat (!x132), y25, y27.set x57.toNat 1, 0))
  (Option.bind (idx y27 x57) fun x136 =>
  some (y23, y25, y27.set x57.toNat 3, 0))))
  (cond ((x53.1 == 2))
  (Option.bind (F79 0 (y22, y27)) fun r139 =>
  cond (r139)
  (some (y23, y25, y27, 7))
  (Option.bind (idx y27 0) fun x142 =>
  Option.bind (whileM (F45_L1 a0 y23) (y27.set (0 : Int).toNat 2, 1)) fun o152 => Ctl.on o152 (fun y150 =>
  some (y23, y25, y150, 0)) (fun _ => none)))
  (cond ((x53.1 == 3))
  (Option.bind (F79 0 (y22, y27)) fun r165 =>
  cond ((!r165))
  (some (y23, y25, y27, 5))
  (Option.bind (F79 x53.2.2.1 (y22, y27)) fun r168 =>
  cond (r168)
  (some (y23, y25, y27, 8))
  (Option.bind (idx y27 0) fun x171 =>
  Option.bind (idx y27 x53.2.2.1) fun x173 =>
  some (y23, y25, y27.set x53.2.2.1.toNat x171, 0))))
  (Option.bind (idx y27 x57) fun x175 =>
  cond ((x175 == 0))
  (some (y23, y25, y27, 3))
  (Option.bind (F79 x57 (y22, y27)) fun r178 =>
  cond (r178)
  (some (y23, y25, y27, 8))
  (Option.bind (idx y27 x53.2.2.1) fun x181 =>
  cond ((x181 == 1))
  (some (y23, y25, y27, 5))
  (Option.bind (idx y27 x53.2.2.1) fun x184 =>
  Option.bind (α := (List Int)) (cond ((x184 == 0))
  (Option.bind (idx y27 x53.2.2.1) fun x190 =>
  some (y27.set x53.2.2.1.toNat 3))
  (some y27))
  fun y186 =>
  Option.bind (idx y186 x53.2.2.1) fun x192 =>
  Option.bind (idx y186 x57) fun x194 =>
  some (y23, y25, y186.set x57.toNat x192, 0)))))))))))))
  fun (y81, y83, y85, x87) =>
  Option.bind (appl 8 y22 ([x87] : List Int)) fun (y198 : List Int) =>
  some (.nxt (y198, y81, y83, y85, w64 (x29 + 1))))
  (some (.brk (y22, y23, y25, y27)))
/-- the model of beaconry/beaconryref.Commit -/
noncomputable def F45 (a0 : Int) (a1 : List (Int × Int × Int × Int)) : Option (((List Int) × List Int)) :=
  Option.bind (mkl a0 8 0) fun (y5 : List Int) =>
  Option.bind (mkl a0 1 false) fun (y12 : List Bool) =>
  Option.bind (mkl a0 1 false) fun (y16 : List Bool) =>
  Option.bind (whileM (F45_L0 a0 a1) ([], y16, y12, y5, 0)) fun o49 => Ctl.on o49 (fun (y42, y43, y45, y47) =>
  some (y42, y47)) (fun _ => none)

noncomputable def F18_L0 (a0 : List Int) (a1 : List Int) : Int → Option (Ctl (Int) (Unit) (Bool)) := fun x2 =>
  cond ((decide (x2 < (a0.length : Int))))
  (Option.bind (idx a0 x2) fun x8 =>
  Option.bind (idx a1 x2) fun x10 =>
  cond ((x8 != x10))
  (some (.ret false))
  (some (.nxt (w64 (x2 + 1)))))
  (some (.brk ()))
/-- the model of beaconry/beaconryref.Codes -/
noncomputable def F18 (a0 : List Int) (a1 : List Int) : Option (Bool) :=
  cond (((a0.length : Int) != (a1.length : Int)))
  (some false)
  (Option.bind (whileM (F18_L0 a0 a1) 0) fun o4 => Ctl.on o4 (fun _ =>
  some true) (fun r => some r))

noncomputable def F25_L0 (a0 : List Int) (a1 : List Int) : Int → Option (Ctl (Int) (Unit) (Bool)) := fun x2 =>
  cond ((decide (x2 < (a0.length : Int))))
  (Option.bind (idx a0 x2) fun x8 =>
  Option.bind (idx a1 x2) fun x10 =>
  cond ((x8 != x10))
  (some (.ret false))
  (some (.nxt (w64 (x2 + 1)))))
  (some (.brk ()))
/-- the model of beaconry/beaconryref.Ints -/
noncomputable def F25 (a0 : List Int) (a1 : List Int) : Option (Bool) :=
  cond (((a0.length : Int) != (a1.length : Int)))
  (some false)
  (Option.bind (whileM (F25_L0 a0 a1) 0) fun o4 => Ctl.on o4 (fun _ =>
  some true) (fun r => some r))

/-- the model of beaconry/beaconrylaw.CommitPlays -/
noncomputable def F13 (a0 : Int) (a1 : List (Int × Int × Int × Int)) : Option (Bool) :=
  Option.bind (F44 a0 a1) fun (r1, r2) =>
  Option.bind (F21 a0 (a1.length : Int)) fun r11 =>
  Option.bind (α := (List Int) × (List Int)) (cond ((r11 == 0))
  (Option.bind (F45 a0 a1) fun r22 =>
  some (r22.1, r22.2))
  (some ([], [])))
  fun (y16, y19) =>
  Option.bind (cond ((r2 == r11)) (Option.bind (F18 r1.1 y16) fun r33 =>
  some r33) (some false)) fun b31 =>
  Option.bind (cond (b31) (Option.bind (F25 r1.2 y19) fun r38 =>
  some r38) (some false)) fun b36 =>
  some b36
end Go.Proofs.Ythfkdepcnhhepaa
