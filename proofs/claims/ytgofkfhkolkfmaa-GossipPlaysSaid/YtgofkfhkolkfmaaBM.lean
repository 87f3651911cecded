/-
  Pure models of Go functions, written by a program (gen.py).
-/
import Derived.Test.YtgofkfhkolkfmaaBk35
import Derived.Test.YtgofkfhkolkfmaaBk45
import Derived.Test.YtgofkfhkolkfmaaAM
namespace Go.Proofs.Ytgofkfhkolkfmaa
open Go Go.Bk
set_option linter.unusedVariables false
@[reducible] def cTiiii (x : Int × Int × Int × Int) : List Value := [I x.1, I x.2.1, I x.2.2.1, I x.2.2.2]
noncomputable def F16_L0 (a0 : List Int) (a1 : Int) : Int → Option (Ctl (Int) (Unit) (Bool)) := fun x1 =>
  cond ((decide (x1 < (a0.length : Int))))
  (Option.bind (idx a0 x1) fun x7 =>
  cond ((a1 == x7))
  (some (.ret true))
  (some (.nxt (w64 (x1 + 1)))))
  (some (.brk ()))
/-- the model of beaconry/beaconryref.Has -/
noncomputable def F16 (a0 : List Int) (a1 : Int) : Option (Bool) :=
  Option.bind (whileM (F16_L0 a0 a1) 0) fun o3 => Ctl.on o3 (fun _ =>
  some false) (fun r => some r)

noncomputable def F6_L1 (x42 : Int × Int × Int × Int) (y86 : List Int) : ((List (List Int)) × Int) → Option (Ctl ((List (List Int)) × Int) ((List (List Int))) (Unit)) := fun (y89, x91) =>
  cond ((decide (x91 < (y86.length : Int))))
  (Option.bind (α := (List (List Int))) (Option.bind (idx y86 x91) fun x104 =>
  Option.bind (idx y89 x42.2.2.1) fun (x106 : List Int) =>
  Option.bind (F16 x106 x104) fun r109 =>
  cond ((!r109))
  (Option.bind (α := (List (List Int))) (Option.bind (idx y89 x42.2.2.1) fun (xq112_6_1 : List Int) =>
  Option.bind (appl 8 xq112_6_1 ([x104] : List Int)) fun (yq112_10_2 : List Int) =>
  Option.bind (idx y89 x42.2.2.1) fun (xq112_11_1 : List Int) =>
  some (y89.set x42.2.2.1.toNat yq112_10_2))
  fun y113 =>
  some y113)
  (some y89))
  fun y101 =>
  some (.nxt (y101, w64 (x91 + 1))))
  (some (.brk y89))
noncomputable def F6_L5 (a1 : List (Int × Int × Int × Int)) (x200 : List Int) : ((List Int) × Int) → Option (Ctl ((List Int) × Int) ((List Int)) (Unit)) := fun (y203, x204) =>
  cond ((decide (x204 < (x200.length : Int))))
  (Option.bind (idx x200 x204) fun x212 =>
  Option.bind (idx a1 x212) fun x214 =>
  Option.bind (idx a1 x212) fun x216 =>
  Option.bind (idx y203 x216.2.1) fun x218 =>
  Option.bind (idx y203 x214.2.1) fun x220 =>
  some (.nxt (y203.set x214.2.1.toNat (w64 (x218 + 1)), w64 (x204 + 1))))
  (some (.brk y203))
noncomputable def F6_L4 (y34 : List (List Int)) (x168 : Int) (x170 : List Int) : (Bool × Int) → Option (Ctl (Bool × Int) (Bool) (Unit)) := fun (b173, x174) =>
  cond ((decide (x174 < (x170.length : Int))))
  (Option.bind (idx x170 x174) fun x182 =>
  Option.bind (cond (b173) (Option.bind (cond ((x182 == x168)) (some true) (Option.bind (idx y34 x182) fun (x190 : List Int) =>
  Option.bind (F16 x190 x168) fun r193 =>
  some (!r193))) fun b188 =>
  some b188) (some false)) fun b185 =>
  some (.nxt (b185, w64 (x174 + 1))))
  (some (.brk b173))
noncomputable def F6_L7 (y159 : List (List Int)) : ((List (Int × Nat)) × Int) → Option (Ctl ((List (Int × Nat)) × Int) ((List (Int × Nat))) (Unit)) := fun (y242, x243) =>
  Option.bind (cond ((decide (x243 > 0))) (Option.bind (idx y242 x243) fun x253 =>
  Option.bind (idx y242 (w64 (x243 - 1))) fun x255 =>
  Option.bind (F17 x253 x255 y159) fun r257 =>
  some r257) (some false)) fun b251 =>
  cond (b251)
  (Option.bind (idx y242 (w64 (x243 - 1))) fun xq260_8_1 =>
  Option.bind (idx y242 x243) fun xq260_12_1 =>
  Option.bind (idx y242 x243) fun xq260_14_1 =>
  Option.bind (idx (y242.set x243.toNat xq260_8_1) (w64 (x243 - 1))) fun xq260_16_1 =>
  some (.nxt ((y242.set x243.toNat xq260_8_1).set (w64 (x243 - 1)).toNat xq260_12_1, w64 (x243 - 1))))
  (some (.brk y242))
noncomputable def F6_L6 (y159 : List (List Int)) : ((List (Int × Nat)) × Int) → Option (Ctl ((List (Int × Nat)) × Int) ((List (Int × Nat))) (Unit)) := fun (y233, x234) =>
  cond ((decide (x234 < (y233.length : Int))))
  (Option.bind (whileM (F6_L7 y159) (y233, x234)) fun o247 => Ctl.on o247 (fun y246 =>
  some (.nxt (y246, w64 (x234 + 1)))) (fun _ => none))
  (some (.brk y233))
noncomputable def F6_L3 (a0 : Int) (a1 : List (Int × Int × Int × Int)) (y34 : List (List Int)) (y36 : List (List Int)) (y125 : List (List (Int × Nat))) (x127 : Int) (x143 : List Int) : ((List (Int × Nat)) × (List (List Int)) × Int) → Option (Ctl ((List (Int × Nat)) × (List (List Int)) × Int) ((List (Int × Nat)) × (List (List Int))) (Unit)) := fun (y148, y149, x150) =>
  cond ((decide (x150 < (x143.length : Int))))
  (Option.bind (α := (List (Int × Nat)) × (List (List Int))) (Option.bind (idx x143 x150) fun x168 =>
  Option.bind (idx y36 x127) fun (x170 : List Int) =>
  Option.bind (whileM (F6_L4 y34 x168 x170) (true, 0)) fun o178 => Ctl.on o178 (fun b177 =>
  cond ((!b177))
  (some (y148, y149))
  (Option.bind (mkl a0 8 0) fun (y196 : List Int) =>
  Option.bind (idx y34 x168) fun (x200 : List Int) =>
  Option.bind (whileM (F6_L5 a1 x200) (y196, 0)) fun o208 => Ctl.on o208 (fun y207 =>
  Option.bind (idx a1 x168) fun x222 =>
  Option.bind (zokL (fun x : Int × Nat => x.2) (y149).length y148) fun _ =>
  Option.bind (zokLL (fun x : Int × Nat => x.2) (y149).length y125) fun _ =>
  Option.bind (appl 32 y148 ([(x222.2.2.2, (y149).length)] : List (Int × Nat))) fun (y230 : List (Int × Nat)) =>
  some (y230, (y149 ++ [y207]))) (fun _ => none))) (fun _ => none))
  fun (y164, y166) =>
  some (.nxt (y164, y166, w64 (x150 + 1))))
  (some (.brk (y148, y149)))
noncomputable def F6_L2 (a0 : Int) (a1 : List (Int × Int × Int × Int)) (y34 : List (List Int)) (y36 : List (List Int)) : ((List (List (Int × Nat))) × (List (List Int)) × Int) → Option (Ctl ((List (List (Int × Nat))) × (List (List Int)) × Int) ((List (List (Int × Nat))) × (List (List Int))) (Unit)) := fun (y125, y126, x127) =>
  cond ((decide (x127 < a0)))
  (Option.bind (idx y36 x127) fun (x143 : List Int) =>
  Option.bind (whileM (F6_L3 a0 a1 y34 y36 y125 x127 x143) ([], y126, 0)) fun o160 => Ctl.on o160 (fun (y158, y159) =>
  Option.bind (whileM (F6_L6 y159) (y158, 1)) fun o238 => Ctl.on o238 (fun y237 =>
  Option.bind (appl 24 y125 [y237]) fun (y264 : List (List (Int × Nat))) =>
  some (.nxt (y264, y159, w64 (x127 + 1)))) (fun _ => none)) (fun _ => none))
  (some (.brk (y125, y126)))
noncomputable def F6_L0 (a0 : Int) (a1 : List (Int × Int × Int × Int)) : ((List Int) × (List (List Int)) × (List (List Int)) × Int) → Option (Ctl ((List Int) × (List (List Int)) × (List (List Int)) × Int) ((List Int) × (List (List Int)) × (List (List Int))) (Unit)) := fun (y17, y18, y20, x22) =>
  cond ((decide (x22 < (a1.length : Int))))
  (Option.bind (idx a1 x22) fun x42 =>
  Option.bind (α := (List (List Int)) × (List (List Int)) × Int) (cond (((x42.1 != 1) && (x42.1 != 2)))
  (some (y18, y20, 6))
  (cond ((((decide (x42.2.1 < 0)) || (decide (x42.2.1 ≥ a0))) || ((x42.1 == 2) && ((decide (x42.2.2.1 < 0)) || (decide (x42.2.2.1 ≥ a0))))))
  (some (y18, y20, 2))
  (cond (((x42.1 == 1) && ((decide (x42.2.2.2 < 0)) || (decide (x42.2.2.2 > 100)))))
  (some (y18, y20, 4))
  (cond ((x42.1 == 1))
  (Option.bind (idx y20 x42.2.1) fun (x64 : List Int) =>
  Option.bind (appl 8 ([] : List Int) x64) fun (y67 : List Int) =>
  Option.bind (appl 8 y67 ([x22] : List Int)) fun (y72 : List Int) =>
  Option.bind (idx y18 x22) fun (x75 : List Int) =>
  Option.bind (α := (List (List Int))) (Option.bind (idx y20 x42.2.1) fun (xq77_7_1 : List Int) =>
  Option.bind (appl 8 ([] : List Int) xq77_7_1) fun (yq77_9_1 : List Int) =>
  Option.bind (appl 8 yq77_9_1 ([x22] : List Int)) fun (yq77_12_1 : List Int) =>
  Option.bind (idx y20 x42.2.1) fun (xq77_13_1 : List Int) =>
  some (y20.set x42.2.1.toNat yq77_12_1))
  fun y78 =>
  some (y18.set x22.toNat y72, y78, 0))
  (Option.bind (idx y20 x42.2.1) fun (x83 : List Int) =>
  Option.bind (appl 8 ([] : List Int) x83) fun (y86 : List Int) =>
  Option.bind (whileM (F6_L1 x42 y86) (y20, 0)) fun o97 => Ctl.on o97 (fun y95 =>
  some (y18, y95, 0)) (fun _ => none))))))
  fun (y46, y48, x50) =>
  Option.bind (appl 8 y17 ([x50] : List Int)) fun (y118 : List Int) =>
  some (.nxt (y118, y46, y48, w64 (x22 + 1))))
  (some (.brk (y17, y18, y20)))
/-- the model of beaconry/beaconryref.Gossip -/
noncomputable def F6 (a0 : Int) (a1 : List (Int × Int × Int × Int)) (zp : List (List Int)) : Option (((List Int) × List (List (Int × Nat))) × (List (List Int))) :=
  Option.bind (mkl a0 24 ([] : List Int)) fun (y5 : List (List Int)) =>
  Option.bind (mkl (a1.length : Int) 24 ([] : List Int)) fun (y10 : List (List Int)) =>
  Option.bind (whileM (F6_L0 a0 a1) ([], y10, y5, 0)) fun o38 => Ctl.on o38 (fun (y33, y34, y36) =>
  Option.bind (whileM (F6_L2 a0 a1 y34 y36) ([], zp, 0)) fun o139 => Ctl.on o139 (fun (y137, y138) =>
  some ((y33, y137), y138)) (fun _ => none)) (fun _ => none)
end Go.Proofs.Ytgofkfhkolkfmaa
