/-
  Pure models of Go functions, written by a program (gen.py).
-/
import Derived.Test.YthfkdepcnhhepaaBk31
import Derived.Test.YthfkdepcnhhepaaKM
namespace Go.Proofs.Ythfkdepcnhhepaa
open Go Go.Bk
set_option linter.unusedVariables false
@[reducible] def nT211 : NT (Int × List Int) := ⟨fun x c => [I x.1, cv c 0], fun x c => [OwnS 3 1 (cv c 0) (x.2.map cI)]⟩
@[reducible] def nT149 : NT (Int → Option Bool) := ⟨fun x c => [.map (some (mv (cv c 0)))], fun x c => [MF (fun k : Int => I k) (fun x : Bool => .bool x) (mv (cv c 0)) x]⟩
/-- the model of (*beaconry/causal.all).do$1 -/
noncomputable def F96 (a0 : Int) (a1_0 : Int) : Option (Bool) :=
  some ((decide (a0 < 0)) || (decide (a0 ≥ a1_0)))

/-- the model of slices.Clone[[]int,int] -/
noncomputable def F82 (a0 : List Int) : Option (List Int) := appl 8 ([] : List Int) a0

/-- the model of (*beaconry/causal.all).tell -/
noncomputable def F97 (a0 : (List (Int × List Int)) × (List (List Int)) × List (List Int)) (a1 : Int) (a2 : Int) : Option (((List (Int × List Int)) × (List (List Int)) × List (List Int))) :=
  Option.bind (α := (List (List Int))) (Option.bind (idx a0.2.1 a1) fun (xq7_10_1 : List Int) =>
  Option.bind (appl 8 xq7_10_1 ([a2] : List Int)) fun (yq7_14_2 : List Int) =>
  Option.bind (idx a0.2.1 a1) fun (xq7_15_1 : List Int) =>
  some (a0.2.1.set a1.toNat yq7_14_2))
  fun y8 =>
  Option.bind (idx a0.2.2 a1) fun (x11 : List Int) =>
  Option.bind (idx a0.1 a2) fun (x14 : Int × List Int) =>
  Option.bind (idx x11 x14.1) fun x16 =>
  Option.bind (idx x11 x14.1) fun x18 =>
  some (a0.1, y8, a0.2.2.set a1.toNat (x11.set x14.1.toNat (w64 (x16 + 1))))

noncomputable def F128_L0 (a0 : List Int) (a1 : Int) : Int → Option (Ctl (Int) (Unit) (Int)) := fun x1 =>
  cond ((decide (x1 < (a0.length : Int))))
  (Option.bind (idx a0 x1) fun x7 =>
  cond ((a1 == x7))
  (some (.ret x1))
  (some (.nxt (w64 (x1 + 1)))))
  (some (.brk ()))
/-- the model of slices.Index[[]int,int] -/
noncomputable def F128 (a0 : List Int) (a1 : Int) : Option (Int) :=
  Option.bind (whileM (F128_L0 a0 a1) 0) fun o3 => Ctl.on o3 (fun _ =>
  some (-1)) (fun r => some r)

/-- the model of slices.Contains[[]int,int] -/
noncomputable def F84 (a0 : List Int) (a1 : Int) : Option (Bool) :=
  Option.bind (F128 a0 a1) fun r1 =>
  some (decide (r1 ≥ 0))

noncomputable def F132_L0 (a0 : List Int) (a1 : List Int) : Int → Option (Ctl (Int) (Unit) (Bool)) := fun x1 =>
  cond ((decide (x1 < (a0.length : Int))))
  (Option.bind (idx a0 x1) fun x7 =>
  Option.bind (idx a1 x1) fun x9 =>
  cond ((decide (x7 > x9)))
  (some (.ret false))
  (some (.nxt (w64 (x1 + 1)))))
  (some (.brk ()))
/-- the model of beaconry/vector.Under -/
noncomputable def F132 (a0 : List Int) (a1 : List Int) : Option (Bool) :=
  Option.bind (whileM (F132_L0 a0 a1) 0) fun o3 => Ctl.on o3 (fun _ =>
  some true) (fun r => some r)

noncomputable def F98_L0 (a0 : (List (Int × List Int)) × (List (List Int)) × (List (List Int)) × (List (Int → Option Bool))) (a1 : Int) : ((List (Int × List Int)) × (List (List Int)) × (List (List Int)) × Int) → Option (Ctl ((List (Int × List Int)) × (List (List Int)) × (List (List Int)) × Int) ((List (Int × List Int)) × (List (List Int)) × (List (List Int))) (Unit)) := fun (y9, y11, y13, x15) =>
  cond ((decide (x15 < (y9.length : Int))))
  (Option.bind (α := (List (Int × List Int)) × (List (List Int)) × (List (List Int)) × Int) (Option.bind (idx a0.2.2.2 a1) fun (x41 : Int → Option Bool) =>
  Option.bind (cond (((x41 x15).getD false)) (Option.bind (idx y11 a1) fun (x47 : List Int) =>
  Option.bind (F84 x47 x15) fun r50 =>
  some (!r50)) (some false)) fun b45 =>
  Option.bind (cond (b45) (Option.bind (idx y9 x15) fun (x55 : Int × List Int) =>
  Option.bind (idx y13 a1) fun (x57 : List Int) =>
  Option.bind (F132 x55.2 x57) fun r60 =>
  some r60) (some false)) fun b53 =>
  cond (b53)
  (Option.bind (F97 (y9, y11, y13) a1 x15) fun r63 =>
  some (r63.1, r63.2.1, r63.2.2, (-1)))
  (some (y9, y11, y13, x15)))
  fun (y33, y35, y37, x39) =>
  some (.nxt (y33, y35, y37, w64 (x39 + 1))))
  (some (.brk (y9, y11, y13)))
/-- the model of (*beaconry/causal.all).settle -/
noncomputable def F98 (a0 : (List (Int × List Int)) × (List (List Int)) × (List (List Int)) × (List (Int → Option Bool))) (a1 : Int) : Option (((List (Int × List Int)) × (List (List Int)) × (List (List Int)) × (List (Int → Option Bool)))) :=
  Option.bind (whileM (F98_L0 a0 a1) (a0.1, a0.2.1, a0.2.2.1, 0)) fun o29 => Ctl.on o29 (fun (y23, y25, y27) =>
  some (y23, y25, y27, a0.2.2.2)) (fun _ => none)

/-- the model of (*beaconry/causal.all).do -/
noncomputable def F65 (a0 : Int × (List (Int × List Int)) × (List (List Int)) × (List (List Int)) × (List (Int → Option Bool))) (a1 : Int × Int × Int × Int) : Option (Int × (Int × (List (Int × List Int)) × (List (List Int)) × (List (List Int)) × (List (Int → Option Bool)))) :=
  cond ((a1.1 == 1))
  (Option.bind (F96 a1.2.1 a0.1) fun r12 =>
  cond (r12)
  (some (2, (a0.1, a0.2.1, a0.2.2.1, a0.2.2.2.1, a0.2.2.2.2)))
  (Option.bind (idx a0.2.2.2.1 a1.2.1) fun (xq15_13_1 : List Int) =>
  Option.bind (F82 xq15_13_1) fun rq15_15_1 =>
  Option.bind (appl 32 a0.2.1 [(a1.2.1, rq15_15_1)]) fun (yq15_18_2 : List (Int × List Int)) =>
  Option.bind (F97 (yq15_18_2, a0.2.2.1, a0.2.2.2.1) a1.2.1 (w64 ((yq15_18_2.length : Int) - 1))) fun r16 =>
  some (0, (a0.1, r16.1, r16.2.1, r16.2.2, a0.2.2.2.2))))
  (cond ((a1.1 == 2))
  (Option.bind (F96 a1.2.2.1 a0.1) fun r25 =>
  cond (r25)
  (some (2, (a0.1, a0.2.1, a0.2.2.1, a0.2.2.2.1, a0.2.2.2.2)))
  (cond (((decide (a1.2.2.2 < 0)) || (decide (a1.2.2.2 ≥ (a0.2.1.length : Int)))))
  (some (4, (a0.1, a0.2.1, a0.2.2.1, a0.2.2.2.1, a0.2.2.2.2)))
  (Option.bind (idx a0.2.1 a1.2.2.2) fun (x30 : Int × List Int) =>
  Option.bind (cond ((x30.1 == a1.2.2.1)) (some true) (Option.bind (idx a0.2.2.2.2 a1.2.2.1) fun (x35 : Int → Option Bool) =>
  some ((x35 a1.2.2.2).getD false))) fun b33 =>
  cond (b33)
  (some (7, (a0.1, a0.2.1, a0.2.2.1, a0.2.2.2.1, a0.2.2.2.2)))
  (Option.bind (idx a0.2.2.2.2 a1.2.2.1) fun (x39 : Int → Option Bool) =>
  Option.bind (some (a0.2.2.2.2.set a1.2.2.1.toNat (mupd x39 a1.2.2.2 true))) fun (y44 : List (Int → Option Bool)) =>
  Option.bind (F98 (a0.2.1, a0.2.2.1, a0.2.2.2.1, y44) a1.2.2.1) fun r46 =>
  some (0, (a0.1, r46.1, r46.2.1, r46.2.2.1, r46.2.2.2))))))
  (some (6, (a0.1, a0.2.1, a0.2.2.1, a0.2.2.2.1, a0.2.2.2.2))))

noncomputable def F31_L1 (a1 : List (Int × Int × Int × Int)) : ((List Int) × (List (Int × List Int)) × (List (List Int)) × (List (Int → Option Bool)) × (List (List Int)) × Int × Int) → Option (Ctl ((List Int) × (List (Int × List Int)) × (List (List Int)) × (List (Int → Option Bool)) × (List (List Int)) × Int × Int) ((List Int) × (List (Int × List Int)) × (List (List Int)) × (List (Int → Option Bool)) × (List (List Int)) × Int) (Unit)) := fun (y56, y60, y61, y63, y65, x67, x68) =>
  cond ((decide (x68 < (a1.length : Int))))
  (Option.bind (idx a1 x68) fun x102 =>
  Option.bind (F65 (x67, y60, y65, y61, y63) (x102.1, x102.2.1, x102.2.2.1, x102.2.2.2)) fun (r105, r106) =>
  Option.bind (appl 8 y56 ([r105] : List Int)) fun (y119 : List Int) =>
  some (.nxt (y119, r106.2.1, r106.2.2.2.1, r106.2.2.2.2, r106.2.2.1, r106.1, w64 (x68 + 1))))
  (some (.brk (y56, y60, y61, y63, y65, x67)))
noncomputable def F31_L0 (a0 : Int) : ((List (List Int)) × (List (Int → Option Bool)) × Int) → Option (Ctl ((List (List Int)) × (List (Int → Option Bool)) × Int) ((List (List Int)) × (List (Int → Option Bool))) (Unit)) := fun (y17, y21, x22) =>
  cond ((decide (x22 < a0)))
  (Option.bind (mkl a0 8 0) fun (yq44_6_1 : List Int) =>
  Option.bind (appl 24 y17 [yq44_6_1]) fun (yq44_8_1 : List (List Int)) =>
  Option.bind (appl 8 y21 [(mzero : Int → Option Bool)]) fun (y49 : List (Int → Option Bool)) =>
  some (.nxt (yq44_8_1, y49, w64 (x22 + 1))))
  (some (.brk (y17, y21)))
/-- the model of beaconry/causal.Play -/
noncomputable def F31 (a0 : Int) (a1 : List (Int × Int × Int × Int)) : Option (((List Int) × List (List Int)) × Int) :=
  cond ((((decide (a0 < 1)) || (decide (a0 > 6))) || (decide ((a1.length : Int) > 60))))
  (some (([], []), 1))
  (Option.bind (mkl a0 24 ([] : List Int)) fun (y7 : List (List Int)) =>
  Option.bind (whileM (F31_L0 a0) ([], [], 0)) fun o40 => Ctl.on o40 (fun (y35, y39) =>
  Option.bind (whileM (F31_L1 a1) ([], [], y35, y39, y7, a0, 0)) fun o98 => Ctl.on o98 (fun (y86, y90, y91, y93, y95, x97) =>
  some ((y86, y95), 0)) (fun _ => none)) (fun _ => none))

noncomputable def F32_L3 (x71 : Int × Int × Int × Int) (y132 : List (List Int)) (x165 : List Int) : (Bool × Int) → Option (Ctl (Bool × Int) (Bool) (Unit)) := fun (b168, x169) =>
  cond ((decide (x169 < (x165.length : Int))))
  (Option.bind (idx x165 x169) fun x177 =>
  Option.bind (cond (b168) (Option.bind (idx y132 x71.2.2.1) fun (x182 : List Int) =>
  Option.bind (F66 x182 x177) fun r185 =>
  some r185) (some false)) fun b180 =>
  some (.nxt (b180, w64 (x169 + 1))))
  (some (.brk b168))
noncomputable def F32_L2 (y36 : List (List Int)) (x71 : Int × Int × Int × Int) (y129 : List (List Int)) (y132 : List (List Int)) : (Int × Int) → Option (Ctl (Int × Int) (Int) (Unit)) := fun (x141, x142) =>
  cond ((decide (x142 ≥ 0)))
  (Option.bind (α := Int) (Option.bind (idx y129 x71.2.2.1) fun (x152 : List Int) =>
  Option.bind (F66 x152 x142) fun r155 =>
  Option.bind (cond (r155) (Option.bind (idx y132 x71.2.2.1) fun (x160 : List Int) =>
  Option.bind (F66 x160 x142) fun r163 =>
  some (!r163)) (some false)) fun b158 =>
  Option.bind (idx y36 x142) fun (x165 : List Int) =>
  Option.bind (whileM (F32_L3 x71 y132 x165) (b158, 0)) fun o173 => Ctl.on o173 (fun b172 =>
  cond (b172)
  (some x142)
  (some x141)) (fun _ => none))
  fun x150 =>
  some (.nxt (x150, w64 (x142 - 1))))
  (some (.brk x141))
noncomputable def F32_L1 (y32 : List Int) (y36 : List (List Int)) (x71 : Int × Int × Int × Int) (y129 : List (List Int)) : (List (List Int)) → Option (Ctl ((List (List Int))) ((List (List Int))) (Unit)) := fun y132 =>
  Option.bind (whileM (F32_L2 y36 x71 y129 y132) ((-1), w64 ((y32.length : Int) - 1))) fun o146 => Ctl.on o146 (fun x145 =>
  cond ((decide (x145 < 0)))
  (some (.brk y132))
  (Option.bind (α := (List (List Int))) (Option.bind (idx y132 x71.2.2.1) fun (xq189_8_1 : List Int) =>
  Option.bind (appl 8 xq189_8_1 ([x145] : List Int)) fun (yq189_12_2 : List Int) =>
  Option.bind (idx y132 x71.2.2.1) fun (xq189_13_1 : List Int) =>
  some (y132.set x71.2.2.1.toNat yq189_12_2))
  fun y190 =>
  some (.nxt y190))) (fun _ => none)
noncomputable def F32_L0 (a0 : Int) (a1 : List (Int × Int × Int × Int)) : ((List Int) × (List (List Int)) × (List Int) × (List (List Int)) × (List (List Int)) × Int) → Option (Ctl ((List Int) × (List (List Int)) × (List Int) × (List (List Int)) × (List (List Int)) × Int) ((List Int) × (List (List Int)) × (List (List Int))) (Unit)) := fun (y32, y36, y39, y40, y42, x44) =>
  cond ((decide (x44 < (a1.length : Int))))
  (Option.bind (idx a1 x44) fun x71 =>
  Option.bind (α := (List Int) × (List (List Int)) × (List (List Int)) × (List (List Int)) × Int) (cond ((x71.1 == 1))
  (cond (((decide (x71.2.1 < 0)) || (decide (x71.2.1 ≥ a0))))
  (some (y32, y36, y40, y42, 2))
  (Option.bind (idx y42 x71.2.1) fun (x90 : List Int) =>
  Option.bind (appl 8 ([] : List Int) x90) fun (y93 : List Int) =>
  Option.bind (appl 24 y36 [y93]) fun (y99 : List (List Int)) =>
  Option.bind (α := (List (List Int))) (Option.bind (idx y42 x71.2.1) fun (xq103_8_1 : List Int) =>
  Option.bind (appl 8 xq103_8_1 ([(y32.length : Int)] : List Int)) fun (yq103_13_2 : List Int) =>
  Option.bind (idx y42 x71.2.1) fun (xq103_14_1 : List Int) =>
  some (y42.set x71.2.1.toNat yq103_13_2))
  fun y104 =>
  Option.bind (appl 8 y32 ([x71.2.1] : List Int)) fun (y109 : List Int) =>
  some (y109, y99, y40, y104, 0)))
  (cond ((x71.1 != 2))
  (some (y32, y36, y40, y42, 6))
  (cond (((decide (x71.2.2.1 < 0)) || (decide (x71.2.2.1 ≥ a0))))
  (some (y32, y36, y40, y42, 2))
  (cond (((decide (x71.2.2.2 < 0)) || (decide (x71.2.2.2 ≥ (y32.length : Int)))))
  (some (y32, y36, y40, y42, 4))
  (Option.bind (idx y32 x71.2.2.2) fun x117 =>
  Option.bind (cond ((x117 == x71.2.2.1)) (some true) (Option.bind (idx y40 x71.2.2.1) fun (x122 : List Int) =>
  Option.bind (F66 x122 x71.2.2.2) fun r125 =>
  some r125)) fun b120 =>
  cond (b120)
  (some (y32, y36, y40, y42, 7))
  (Option.bind (α := (List (List Int))) (Option.bind (idx y40 x71.2.2.1) fun (xq128_6_1 : List Int) =>
  Option.bind (appl 8 xq128_6_1 ([x71.2.2.2] : List Int)) fun (yq128_11_2 : List Int) =>
  Option.bind (idx y40 x71.2.2.1) fun (xq128_12_1 : List Int) =>
  some (y40.set x71.2.2.1.toNat yq128_11_2))
  fun y129 =>
  Option.bind (whileM (F32_L1 y32 y36 x71 y129) y42) fun o138 => Ctl.on o138 (fun y136 =>
  some (y32, y36, y129, y136, 0)) (fun _ => none)))))))
  fun (y74, y76, y79, y81, x83) =>
  Option.bind (appl 8 y39 ([x83] : List Int)) fun (y195 : List Int) =>
  some (.nxt (y74, y76, y195, y79, y81, w64 (x44 + 1))))
  (some (.brk (y39, y40, y42)))
/-- the model of beaconry/beaconryref.Causal -/
noncomputable def F32 (a0 : Int) (a1 : List (Int × Int × Int × Int)) : Option (((List Int) × List (List Int))) :=
  Option.bind (mkl a0 24 ([] : List Int)) fun (y4 : List (List Int)) =>
  Option.bind (mkl a0 24 ([] : List Int)) fun (y12 : List (List Int)) =>
  Option.bind (whileM (F32_L0 a0 a1) ([], [], [], y12, y4, 0)) fun o67 => Ctl.on o67 (fun (y62, y63, y65) =>
  some (y62, y65)) (fun _ => none)

/-- the model of beaconry/beaconrylaw.CausalPlays -/
noncomputable def F8 (a0 : Int) (a1 : List (Int × Int × Int × Int)) : Option (Bool) :=
  Option.bind (F31 a0 a1) fun (r1, r2) =>
  Option.bind (F21 a0 (a1.length : Int)) fun r12 =>
  Option.bind (α := (List Int) × (List (List Int))) (cond ((r12 == 0))
  (Option.bind (F32 a0 a1) fun r24 =>
  some (r24.1, r24.2))
  (some ([], [])))
  fun (y17, y21) =>
  Option.bind (cond ((r2 == r12)) (Option.bind (F18 r1.1 y17) fun r36 =>
  some r36) (some false)) fun b34 =>
  Option.bind (cond (b34) (Option.bind (F28 r1.2 y21) fun r41 =>
  some r41) (some false)) fun b39 =>
  some b39
end Go.Proofs.Ythfkdepcnhhepaa
