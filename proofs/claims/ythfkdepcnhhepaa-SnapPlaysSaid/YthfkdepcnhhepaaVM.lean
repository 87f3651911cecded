/-
  Pure models of Go functions, written by a program (gen.py).
-/
import Derived.Test.YthfkdepcnhhepaaBk30
import Derived.Test.YthfkdepcnhhepaaKM
import Derived.Test.YthfkdepcnhhepaaUM
namespace Go.Proofs.Ythfkdepcnhhepaa
open Go Go.Bk
set_option linter.unusedVariables false

noncomputable def F60_L0 (a0 : Int) (a4 : Int) : ((List (Int × Int × Int)) × Int) → Option (Ctl ((List (Int × Int × Int)) × Int) ((List (Int × Int × Int))) (Unit)) := fun (y18, x20) =>
  cond ((decide (x20 < a4)))
  (Option.bind (α := (List (Int × Int × Int))) (cond ((x20 != a0))
  (Option.bind (appl 24 y18 ([(a0, x20, 0)] : List (Int × Int × Int))) fun (y36 : List (Int × Int × Int)) =>
  some y36)
  (some y18))
  fun y30 =>
  some (.nxt (y30, w64 (x20 + 1))))
  (some (.brk y18))
/-- the model of beaconry/beaconryref.Snap$1 -/
noncomputable def F60 (a0 : Int) (a1 : List Bool) (a2 : List Int) (a3 : List Int) (a4 : Int) (a5 : List (Int × Int × Int)) : Option ((List Bool) × (List Int) × (List Int) × (List (Int × Int × Int))) :=
  Option.bind (idx a1 a0) fun x9 =>
  cond (x9)
  (some (a1, a2, a3, a5))
  (Option.bind (idx a1 a0) fun x12 =>
  Option.bind (idx a2 a0) fun x14 =>
  Option.bind (idx a3 a0) fun x16 =>
  Option.bind (whileM (F60_L0 a0 a4) (a5, 0)) fun o26 => Ctl.on o26 (fun y24 =>
  some (a1.set a0.toNat true, a2, a3.set a0.toNat x14, y24)) (fun _ => none))

noncomputable def F27_L3 (a0 : Int) (y118 : List Bool) (y126 : List (List Bool)) (x251 : Int) : (Bool × Int) → Option (Ctl (Bool × Int) (Bool) (Unit)) := fun (b259, x260) =>
  cond ((decide (x260 < a0)))
  (Option.bind (cond (b259) (Option.bind (idx y118 x251) fun x271 =>
  some x271) (some false)) fun b269 =>
  Option.bind (cond (b269) (Option.bind (cond ((x251 == x260)) (some true) (Option.bind (idx y126 x251) fun (x279 : List Bool) =>
  Option.bind (idx x279 x260) fun x282 =>
  some x282)) fun b277 =>
  some b277) (some false)) fun b274 =>
  some (.nxt (b274, w64 (x260 + 1))))
  (some (.brk b259))
noncomputable def F27_L2 (a0 : Int) (y118 : List Bool) (y126 : List (List Bool)) : (Bool × Int) → Option (Ctl (Bool × Int) (Bool) (Unit)) := fun (b250, x251) =>
  cond ((decide (x251 < a0)))
  (Option.bind (whileM (F27_L3 a0 y118 y126 x251) (b250, 0)) fun o264 => Ctl.on o264 (fun b263 =>
  some (.nxt (b263, w64 (x251 + 1)))) (fun _ => none))
  (some (.brk b250))
noncomputable def F27_L1 (a0 : Int) (a1 : List (Int × Int × Int × Int)) : ((List (Int × Int × Int)) × (List Bool) × (List Int) × (List Int) × (List (List Int)) × (List (List Bool)) × (List Int) × Int) → Option (Ctl ((List (Int × Int × Int)) × (List Bool) × (List Int) × (List Int) × (List (List Int)) × (List (List Bool)) × (List Int) × Int) ((List (Int × Int × Int)) × (List Bool) × (List Int) × (List Int) × (List (List Int)) × (List (List Bool)) × (List Int)) (Unit)) := fun (y83, y86, y89, y92, y93, y94, y95, x96) =>
  cond ((decide (x96 < (a1.length : Int))))
  (Option.bind (idx a1 x96) fun x132 =>
  Option.bind (F61 y83 x132.2.1 x132.2.2.1) fun r135 =>
  Option.bind (α := (List (Int × Int × Int)) × (List Bool) × (List Int) × (List (List Int)) × (List (List Bool)) × (List Int) × Int) (cond (((decide (x132.1 < 1)) || (decide (x132.1 > 3))))
  (some (y83, y86, y89, y93, y94, y95, 6))
  (Option.bind (F57 a0 (x132.1, x132.2.1, x132.2.2.1, x132.2.2.2) (x132.1 != 3)) fun r153 =>
  cond ((!r153))
  (some (y83, y86, y89, y93, y94, y95, 2))
  (Option.bind (cond ((x132.1 == 3)) (Option.bind (idx y86 x132.2.1) fun x159 =>
  some x159) (some false)) fun b157 =>
  cond (b157)
  (some (y83, y86, y89, y93, y94, y95, 7))
  (cond ((x132.1 == 3))
  (Option.bind (F60 x132.2.1 y86 y89 y95 a0 y83) fun (r163, r164, r165, r166) =>
  some (r166, r163, r164, y93, y94, r165, 0))
  (cond (((x132.1 == 2) && (decide (r135 < 0))))
  (some (y83, y86, y89, y93, y94, y95, 5))
  (cond ((x132.1 == 2))
  (Option.bind (idx y83 r135) fun x178 =>
  Option.bind (F62 y83 r135) fun r180 =>
  cond ((x178.2.2 == 0))
  (Option.bind (F60 x132.2.2.1 y86 y89 y95 a0 r180) fun (r186, r187, r188, r189) =>
  Option.bind (idx y94 x132.2.1) fun (x198 : List Bool) =>
  Option.bind (idx x198 x132.2.2.1) fun x201 =>
  some (r189, r186, r187, y93, y94.set x132.2.1.toNat (x198.set x132.2.2.1.toNat true), r188, 0))
  (Option.bind (idx y89 x132.2.2.1) fun x203 =>
  Option.bind (idx y89 x132.2.2.1) fun x205 =>
  Option.bind (idx y86 x132.2.2.1) fun x207 =>
  Option.bind (cond (x207) (Option.bind (idx y94 x132.2.1) fun (x212 : List Bool) =>
  Option.bind (idx x212 x132.2.2.1) fun x215 =>
  some (!x215)) (some false)) fun b210 =>
  cond (b210)
  (Option.bind (idx y93 x132.2.1) fun (x218 : List Int) =>
  Option.bind (idx y93 x132.2.1) fun (x221 : List Int) =>
  Option.bind (idx x221 x132.2.2.1) fun x224 =>
  Option.bind (idx x218 x132.2.2.1) fun x226 =>
  some (r180, y86, y89.set x132.2.2.1.toNat (w64 (x203 + x178.2.2)), y93.set x132.2.1.toNat (x218.set x132.2.2.1.toNat (w64 (x224 + x178.2.2))), y94, y95, 0))
  (some (r180, y86, y89.set x132.2.2.1.toNat (w64 (x203 + x178.2.2)), y93, y94, y95, 0))))
  (Option.bind (cond ((decide (x132.2.2.2 < 1))) (some true) (Option.bind (idx y89 x132.2.1) fun x231 =>
  some (decide (x132.2.2.2 > x231)))) fun b229 =>
  cond (b229)
  (some (y83, y86, y89, y93, y94, y95, 4))
  (Option.bind (idx y89 x132.2.1) fun x234 =>
  Option.bind (idx y89 x132.2.1) fun x236 =>
  Option.bind (appl 24 y83 ([(x132.2.1, x132.2.2.1, x132.2.2.2)] : List (Int × Int × Int))) fun (y240 : List (Int × Int × Int)) =>
  some (y240, y86, y89.set x132.2.1.toNat (w64 (x234 - x132.2.2.2)), y93, y94, y95, 0)))))))))
  fun (y140, y143, y146, y147, y148, y149, x150) =>
  Option.bind (appl 8 y92 ([x150] : List Int)) fun (y246 : List Int) =>
  some (.nxt (y140, y143, y146, y246, y147, y148, y149, w64 (x96 + 1))))
  (some (.brk (y83, y86, y89, y92, y93, y94, y95)))
noncomputable def F27_L0 (a0 : Int) : ((List (List Int)) × (List (List Bool)) × (List Int) × Int) → Option (Ctl ((List (List Int)) × (List (List Bool)) × (List Int) × Int) ((List (List Int)) × (List (List Bool)) × (List Int)) (Unit)) := fun (y33, y34, y36, x37) =>
  cond ((decide (x37 < a0)))
  (Option.bind (idx y36 x37) fun x57 =>
  Option.bind (mkl a0 1 false) fun (y59 : List Bool) =>
  Option.bind (idx y34 x37) fun (x63 : List Bool) =>
  Option.bind (mkl a0 8 0) fun (yq65_3_1 : List Int) =>
  Option.bind (appl 24 y33 [yq65_3_1]) fun (yq65_5_1 : List (List Int)) =>
  some (.nxt (yq65_5_1, y34.set x37.toNat y59, y36.set x37.toNat 100, w64 (x37 + 1))))
  (some (.brk (y33, y34, y36)))
/-- the model of beaconry/beaconryref.Snap -/
noncomputable def F27 (a0 : Int) (a1 : List (Int × Int × Int × Int)) : Option (((List Int) × Bool × (List Int) × List (List Int))) :=
  Option.bind (mkl a0 8 0) fun (y6 : List Int) =>
  Option.bind (mkl a0 8 0) fun (y13 : List Int) =>
  Option.bind (mkl a0 1 false) fun (y19 : List Bool) =>
  Option.bind (mkl a0 24 ([] : List Bool)) fun (y25 : List (List Bool)) =>
  Option.bind (whileM (F27_L0 a0) ([], y25, y13, 0)) fun o53 => Ctl.on o53 (fun (y49, y50, y52) =>
  Option.bind (whileM (F27_L1 a0 a1) ([], y19, y52, [], y49, y50, y6, 0)) fun o128 => Ctl.on o128 (fun (y115, y118, y121, y124, y125, y126, y127) =>
  Option.bind (whileM (F27_L2 a0 y118 y126) (true, 0)) fun o255 => Ctl.on o255 (fun b254 =>
  some (y124, b254, y127, y125)) (fun _ => none)) (fun _ => none)) (fun _ => none)

/-- the model of beaconry/beaconrylaw.SnapPlays -/
noncomputable def F6 (a0 : Int) (a1 : List (Int × Int × Int × Int)) : Option (Bool) :=
  Option.bind (F26 a0 a1) fun (r1, r2) =>
  Option.bind (F21 a0 (a1.length : Int)) fun r15 =>
  Option.bind (α := (List Int) × (List Int) × (List (List Int)) × Bool) (cond ((r15 == 0))
  (Option.bind (F27 a0 a1) fun r31 =>
  some (r31.1, r31.2.2.1, r31.2.2.2, r31.2.1))
  (some ([], [], [], false)))
  fun (y20, y23, y27, b28) =>
  Option.bind (cond ((r2 == r15)) (Option.bind (F18 r1.1 y20) fun r46 =>
  some r46) (some false)) fun b44 =>
  Option.bind (cond ((b44 && (r1.2.1 == b28))) (Option.bind (F25 r1.2.2.1 y23) fun r52 =>
  some r52) (some false)) fun b50 =>
  Option.bind (cond (b50) (Option.bind (F28 r1.2.2.2 y27) fun r57 =>
  some r57) (some false)) fun b55 =>
  some b55
end Go.Proofs.Ythfkdepcnhhepaa
