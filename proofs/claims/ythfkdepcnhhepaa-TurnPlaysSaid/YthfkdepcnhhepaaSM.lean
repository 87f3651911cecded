/-
  Pure models of Go functions, written by a program (gen.py).
-/
import Derived.Test.YthfkdepcnhhepaaBk30
import Derived.Test.YthfkdepcnhhepaaKM
import Derived.Test.YthfkdepcnhhepaaTM
namespace Go.Proofs.Ythfkdepcnhhepaa
open Go Go.Bk
set_option linter.unusedVariables false

/-- the model of beaconry/beaconryref.Turn$1 -/
noncomputable def F73 (a0 : Int) (a1 : List Int) (a2 : List (List Int)) (a3 : Int) (a4 : List Bool) : Option ((List Int) × (List (List Int)) × (List Bool)) :=
  Option.bind (idx a1 a0) fun x7 =>
  Option.bind (cond ((decide (x7 > 0))) (Option.bind (idx a2 a0) fun (x12 : List Int) =>
  some ((x12.length : Int) == (w64 (a3 - 1)))) (some false)) fun b10 =>
  cond (b10)
  (Option.bind (idx a4 a0) fun x16 =>
  Option.bind (idx a1 a0) fun x18 =>
  some (a1.set a0.toNat 0, a2, a4.set a0.toNat true))
  (some (a1, a2, a4))

noncomputable def F39_L1 (a0 : Int) (y45 : List Int) (x96 : Int × Int × Int × Int) (x148 : Int) : ((List (Int × Int × Int)) × Int) → Option (Ctl ((List (Int × Int × Int)) × Int) ((List (Int × Int × Int))) (Unit)) := fun (y155, x157) =>
  cond ((decide (x157 < a0)))
  (Option.bind (α := (List (Int × Int × Int))) (cond ((x157 != x96.2.1))
  (Option.bind (idx (y45.set x96.2.1.toNat x148) x96.2.1) fun xq171_7_1 =>
  Option.bind (appl 24 y155 ([(x96.2.1, x157, xq171_7_1)] : List (Int × Int × Int))) fun (yq171_11_1 : List (Int × Int × Int)) =>
  some yq171_11_1)
  (some y155))
  fun y167 =>
  some (.nxt (y167, w64 (x157 + 1))))
  (some (.brk y155))
noncomputable def F39_L2 (a0 : Int) (y49 : List (List Int)) (x96 : Int × Int × Int × Int) : ((List (Int × Int × Int)) × Int) → Option (Ctl ((List (Int × Int × Int)) × Int) ((List (Int × Int × Int))) (Unit)) := fun (y186, x188) =>
  cond ((decide (x188 < a0)))
  (Option.bind (α := (List (Int × Int × Int))) (Option.bind (idx y49 x96.2.1) fun (x201 : List Int) =>
  Option.bind (F66 x201 x188) fun r204 =>
  cond (r204)
  (Option.bind (appl 24 y186 ([(x96.2.1, x188, 0)] : List (Int × Int × Int))) fun (y209 : List (Int × Int × Int)) =>
  some y209)
  (some y186))
  fun y198 =>
  some (.nxt (y198, w64 (x188 + 1))))
  (some (.brk y186))
noncomputable def F39_L3 (a0 : Int) (y82 : List Bool) (y85 : List Int) : ((BitVec 32) × (BitVec 32) × Int) → Option (Ctl ((BitVec 32) × (BitVec 32) × Int) ((BitVec 32) × (BitVec 32)) (Unit)) := fun (x279, x280, x281) =>
  cond ((decide (x281 < a0)))
  (Option.bind (α := (BitVec 32) × (BitVec 32)) (Option.bind (idx y82 x281) fun x294 =>
  Option.bind (α := (BitVec 32)) (cond (x294)
  (some (x279 + ((1#32) <<< (u64 x281).toNat)))
  (some x279))
  fun x296 =>
  Option.bind (idx y85 x281) fun x299 =>
  cond ((decide (x299 > 0)))
  (some (x296, (x280 + ((1#32) <<< (u64 x281).toNat))))
  (some (x296, x280)))
  fun (x291, x292) =>
  some (.nxt (x291, x292, w64 (x281 + 1))))
  (some (.brk (x279, x280)))
noncomputable def F39_L0 (a0 : Int) (a1 : List (Int × Int × Int × Int)) : ((List (Int × Int × Int)) × (List (List Int)) × (List Bool) × (List Int) × (List Int) × (List (List Int)) × (List Int) × Int) → Option (Ctl ((List (Int × Int × Int)) × (List (List Int)) × (List Bool) × (List Int) × (List Int) × (List (List Int)) × (List Int) × Int) ((List (Int × Int × Int)) × (List (List Int)) × (List Bool) × (List Int) × (List Int) × (List (List Int)) × (List Int)) (Unit)) := fun (y35, y39, y42, y45, y48, y49, y51, x52) =>
  cond ((decide (x52 < (a1.length : Int))))
  (Option.bind (idx a1 x52) fun x96 =>
  Option.bind (F61 y35 x96.2.1 x96.2.2.1) fun r99 =>
  Option.bind (α := (List (Int × Int × Int)) × (List (List Int)) × (List Bool) × (List Int) × (List (List Int)) × (List Int) × Int) (cond (((decide (x96.1 < 1)) || (decide (x96.1 > 3))))
  (some (y35, y39, y42, y45, y49, y51, 6))
  (Option.bind (F57 a0 (x96.1, x96.2.1, x96.2.2.1, x96.2.2.2) (x96.1 == 2)) fun r121 =>
  cond ((!r121))
  (some (y35, y39, y42, y45, y49, y51, 2))
  (Option.bind (cond ((x96.1 == 1)) (Option.bind (idx y42 x96.2.1) fun x127 =>
  Option.bind (cond (x127) (some true) (Option.bind (idx y45 x96.2.1) fun x132 =>
  some (decide (x132 > 0)))) fun b130 =>
  some b130) (some false)) fun b125 =>
  Option.bind (cond (b125) (some true) (Option.bind (cond ((x96.1 == 3)) (Option.bind (idx y42 x96.2.1) fun x140 =>
  some (!x140)) (some false)) fun b138 =>
  some b138)) fun b135 =>
  cond (b135)
  (some (y35, y39, y42, y45, y49, y51, 7))
  (cond ((x96.1 == 1))
  (Option.bind (idx y51 x96.2.1) fun x144 =>
  Option.bind (idx y51 x96.2.1) fun x146 =>
  Option.bind (idx (y51.set x96.2.1.toNat (w64 (x144 + 1))) x96.2.1) fun x148 =>
  Option.bind (idx y45 x96.2.1) fun x150 =>
  Option.bind (idx y39 x96.2.1) fun (x152 : List Int) =>
  Option.bind (whileM (F39_L1 a0 y45 x96 x148) (y35, 0)) fun o163 => Ctl.on o163 (fun y161 =>
  Option.bind (F73 x96.2.1 (y45.set x96.2.1.toNat x148) (y39.set x96.2.1.toNat ([] : List (Int))) a0 y42) fun (r172, r173, r174) =>
  some (y161, r173, r174, r172, y49, y51.set x96.2.1.toNat (w64 (x144 + 1)), 0)) (fun _ => none))
  (cond ((x96.1 == 3))
  (Option.bind (idx y42 x96.2.1) fun x184 =>
  Option.bind (whileM (F39_L2 a0 y49 x96) (y35, 0)) fun o194 => Ctl.on o194 (fun y192 =>
  Option.bind (idx y49 x96.2.1) fun (x212 : List Int) =>
  some (y192, y39, y42.set x96.2.1.toNat false, y45, y49.set x96.2.1.toNat ([] : List (Int)), y51, 0)) (fun _ => none))
  (cond ((decide (r99 < 0)))
  (some (y35, y39, y42, y45, y49, y51, 5))
  (Option.bind (idx y35 r99) fun x216 =>
  Option.bind (F62 y35 r99) fun r218 =>
  cond ((x216.2.2 == 0))
  (Option.bind (α := (List (List Int))) (Option.bind (idx y39 x96.2.2.1) fun (xq223_4_1 : List Int) =>
  Option.bind (appl 8 xq223_4_1 ([x96.2.1] : List Int)) fun (yq223_9_2 : List Int) =>
  Option.bind (idx y39 x96.2.2.1) fun (xq223_10_1 : List Int) =>
  some (y39.set x96.2.2.1.toNat yq223_9_2))
  fun y224 =>
  Option.bind (F73 x96.2.2.1 y45 y224 a0 y42) fun (r227, r228, r229) =>
  some (r218, r228, r229, r227, y49, y51, 0))
  (Option.bind (idx y51 x96.2.2.1) fun x238 =>
  Option.bind (α := (List Int)) (cond ((decide (x238 < x216.2.2)))
  (Option.bind (idx y51 x96.2.2.1) fun x243 =>
  some (y51.set x96.2.2.1.toNat x216.2.2))
  (some y51))
  fun y240 =>
  Option.bind (idx y42 x96.2.2.1) fun x245 =>
  Option.bind (cond (x245) (some true) (Option.bind (idx y45 x96.2.2.1) fun x250 =>
  Option.bind (cond ((decide (x250 > 0))) (Option.bind (idx y45 x96.2.2.1) fun x255 =>
  Option.bind (cond ((decide (x255 < x216.2.2))) (some true) (Option.bind (idx y45 x96.2.2.1) fun x260 =>
  some ((x260 == x216.2.2) && (decide (x96.2.2.1 < x96.2.1))))) fun b258 =>
  some b258) (some false)) fun b253 =>
  some b253)) fun b248 =>
  cond (b248)
  (Option.bind (α := (List (List Int))) (Option.bind (idx y49 x96.2.2.1) fun (xq264_4_1 : List Int) =>
  Option.bind (appl 8 xq264_4_1 ([x96.2.1] : List Int)) fun (yq264_9_2 : List Int) =>
  Option.bind (idx y49 x96.2.2.1) fun (xq264_10_1 : List Int) =>
  some (y49.set x96.2.2.1.toNat yq264_9_2))
  fun y265 =>
  some (r218, y39, y42, y45, y265, y240, 0))
  (Option.bind (appl 24 r218 ([(x96.2.2.1, x96.2.1, 0)] : List (Int × Int × Int))) fun (y270 : List (Int × Int × Int)) =>
  some (y270, y39, y42, y45, y49, y240, 0))))))))))
  fun (y104, y108, y111, y114, y115, y117, x118) =>
  Option.bind (appl 8 y48 ([x118] : List Int)) fun (y275 : List Int) =>
  some (.nxt (y104, y108, y111, y114, y275, y115, y117, w64 (x52 + 1))))
  (some (.brk (y35, y39, y42, y45, y48, y49, y51)))
/-- the model of beaconry/beaconryref.Turn -/
noncomputable def F39 (a0 : Int) (a1 : List (Int × Int × Int × Int)) : Option (((List Int) × (BitVec 32) × (BitVec 32) × Int)) :=
  Option.bind (mkl a0 8 0) fun (y5 : List Int) =>
  Option.bind (mkl a0 8 0) fun (y9 : List Int) =>
  Option.bind (mkl a0 1 false) fun (y15 : List Bool) =>
  Option.bind (mkl a0 24 ([] : List Int)) fun (y21 : List (List Int)) =>
  Option.bind (mkl a0 24 ([] : List Int)) fun (y28 : List (List Int)) =>
  Option.bind (whileM (F39_L0 a0 a1) ([], y21, y15, y9, [], y28, y5, 0)) fun o92 => Ctl.on o92 (fun (y75, y79, y82, y85, y88, y89, y91) =>
  Option.bind (whileM (F39_L3 a0 y82 y85) (0, 0, 0)) fun o287 => Ctl.on o287 (fun (x285, x286) =>
  some (y88, x285, x286, (y75.length : Int))) (fun _ => none)) (fun _ => none)

/-- the model of beaconry/beaconrylaw.same -/
noncomputable def F40 (a0 : (List Int) × (BitVec 32) × (BitVec 32) × Int) (a1 : (List Int) × (BitVec 32) × (BitVec 32) × Int) : Option (Bool) :=
  Option.bind (F18 a0.1 a1.1) fun r5 =>
  some (((r5 && (a0.2.1 == a1.2.1)) && (a0.2.2.1 == a1.2.2.1)) && (a0.2.2.2 == a1.2.2.2))

/-- the model of beaconry/beaconrylaw.TurnPlays -/
noncomputable def F11 (a0 : Int) (a1 : List (Int × Int × Int × Int)) : Option (Bool) :=
  Option.bind (F38 a0 a1) fun (r1, r2) =>
  Option.bind (F21 a0 (a1.length : Int)) fun r8 =>
  Option.bind (α := (List Int) × (BitVec 32) × (BitVec 32) × Int) (cond ((r8 == 0))
  (Option.bind (F39 a0 a1) fun r19 =>
  some (r19.1, r19.2.1, r19.2.2.1, r19.2.2.2))
  (some ([], 0, 0, 0)))
  fun (y13, x14, x15, x16) =>
  Option.bind (cond ((r2 == r8)) (Option.bind (F40 (r1.1, r1.2.1, r1.2.2.1, r1.2.2.2) (y13, x14, x15, x16)) fun r27 =>
  some r27) (some false)) fun b25 =>
  some b25
end Go.Proofs.Ythfkdepcnhhepaa
