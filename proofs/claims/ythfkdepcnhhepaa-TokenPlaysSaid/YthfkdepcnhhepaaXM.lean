/-
  Pure models of Go functions, written by a program (gen.py).
-/
import Derived.Test.YthfkdepcnhhepaaBk30
import Derived.Test.YthfkdepcnhhepaaKM
namespace Go.Proofs.Ythfkdepcnhhepaa
open Go Go.Bk
set_option linter.unusedVariables false

/-- the model of beaconry/beaconryref.Token$1 -/
noncomputable def F85 (a0 : Int) (a1 : List Bool) (a2 : List Bool) (a3 : List (List Int)) (a4 : List Int) (a5 : List (Int × Int × Int)) : Option ((List Bool) × (List Bool) × (List (List Int)) × (List Int) × (List (Int × Int × Int))) :=
  Option.bind (idx a1 a0) fun x11 =>
  Option.bind (cond ((!x11)) (some true) (Option.bind (idx a2 a0) fun x16 =>
  some x16)) fun b14 =>
  Option.bind (cond (b14) (some true) (Option.bind (idx a3 a0) fun (x21 : List Int) =>
  some ((x21.length : Int) == 0))) fun b19 =>
  cond (b19)
  (some (a1, a2, a3, a4, a5))
  (Option.bind (idx a3 a0) fun (x25 : List Int) =>
  Option.bind (idx x25 0) fun x28 =>
  Option.bind (idx a3 a0) fun (xq30_5_1 : List Int) =>
  Option.bind (slI xq30_5_1 1 (xq30_5_1.length : Int)) fun yq30_7_1 =>
  Option.bind (appl 8 ([] : List Int) yq30_7_1) fun (yq30_8_1 : List Int) =>
  Option.bind (idx a3 a0) fun (xq30_9_1 : List Int) =>
  cond ((x28 == a0))
  (Option.bind (idx a2 a0) fun x32 =>
  some (a1, a2.set a0.toNat true, a3.set a0.toNat yq30_8_1, a4, a5))
  (Option.bind (idx a1 a0) fun x34 =>
  Option.bind (idx a4 a0) fun x36 =>
  Option.bind (appl 24 a5 ([(a0, x28, 1)] : List (Int × Int × Int))) fun (y40 : List (Int × Int × Int)) =>
  Option.bind (idx (a3.set a0.toNat yq30_8_1) a0) fun (x44 : List Int) =>
  cond ((decide ((x44.length : Int) > 0)))
  (Option.bind (appl 24 y40 ([(a0, x28, 0)] : List (Int × Int × Int))) fun (y50 : List (Int × Int × Int)) =>
  some (a1.set a0.toNat false, a2, a3.set a0.toNat yq30_8_1, a4.set a0.toNat x28, y50))
  (some (a1.set a0.toNat false, a2, a3.set a0.toNat yq30_8_1, a4.set a0.toNat x28, y40))))

/-- the model of beaconry/beaconryref.Token$2 -/
noncomputable def F86 (a0 : Int) (a1 : Int) (a2 : List (List Int)) (a3 : List Int) (a4 : List (Int × Int × Int)) (a6 : List Bool) (a7 : List Bool) : Option ((List (List Int)) × (List Int) × (List (Int × Int × Int)) × (List Bool) × (List Bool)) :=
  Option.bind (α := (List (List Int))) (Option.bind (idx a2 a0) fun (xq11_4_1 : List Int) =>
  Option.bind (appl 8 xq11_4_1 ([a1] : List Int)) fun (yq11_8_2 : List Int) =>
  Option.bind (idx a2 a0) fun (xq11_9_1 : List Int) =>
  some (a2.set a0.toNat yq11_8_2))
  fun y12 =>
  Option.bind (idx y12 a0) fun (x15 : List Int) =>
  Option.bind (cond (((x15.length : Int) == 1)) (Option.bind (idx a3 a0) fun x21 =>
  some (x21 != a0)) (some false)) fun b19 =>
  Option.bind (α := (List (Int × Int × Int))) (cond (b19)
  (Option.bind (idx a3 a0) fun xq27_4_1 =>
  Option.bind (appl 24 a4 ([(a0, xq27_4_1, 0)] : List (Int × Int × Int))) fun (yq27_8_1 : List (Int × Int × Int)) =>
  some yq27_8_1)
  (some a4))
  fun y23 =>
  Option.bind (F85 a0 a6 a7 y12 a3 y23) fun (r28, r29, r30, r31, r32) =>
  some (r30, r31, r32, r28, r29)

noncomputable def F48_L2 (a0 : List Int) (y90 : List Bool) (y97 : List (List Int)) : ((BitVec 32) × (BitVec 32) × Int) → Option (Ctl ((BitVec 32) × (BitVec 32) × Int) ((BitVec 32) × (BitVec 32)) (Unit)) := fun (x249, x250, x251) =>
  cond ((decide (x251 < (a0.length : Int))))
  (Option.bind (α := (BitVec 32) × (BitVec 32)) (Option.bind (idx y90 x251) fun x264 =>
  Option.bind (α := (BitVec 32)) (cond (x264)
  (some (x249 + ((1#32) <<< (u64 x251).toNat)))
  (some x249))
  fun x266 =>
  Option.bind (idx y97 x251) fun (x269 : List Int) =>
  Option.bind (F66 x269 x251) fun r272 =>
  cond (r272)
  (some (x266, (x250 + ((1#32) <<< (u64 x251).toNat))))
  (some (x266, x250)))
  fun (x261, x262) =>
  some (.nxt (x261, x262, w64 (x251 + 1))))
  (some (.brk (x249, x250)))
noncomputable def F48_L1 (a0 : List Int) (a1 : List (Int × Int × Int × Int)) : ((List (Int × Int × Int)) × (List Bool) × (List Bool) × (List (List Int)) × (List Int) × (List Int) × Int) → Option (Ctl ((List (Int × Int × Int)) × (List Bool) × (List Bool) × (List (List Int)) × (List Int) × (List Int) × Int) ((List (Int × Int × Int)) × (List Bool) × (List Bool) × (List (List Int)) × (List Int) × (List Int)) (Unit)) := fun (y47, y50, y53, y57, y60, y63, x64) =>
  cond ((decide (x64 < (a1.length : Int))))
  (Option.bind (idx a1 x64) fun x108 =>
  Option.bind (F61 y47 x108.2.1 x108.2.2.1) fun r111 =>
  Option.bind (α := (List (Int × Int × Int)) × (List Bool) × (List Bool) × (List (List Int)) × (List Int) × Int) (cond (((decide (x108.1 < 1)) || (decide (x108.1 > 3))))
  (some (y47, y50, y53, y57, y60, 6))
  (Option.bind (F57 (a0.length : Int) (x108.1, x108.2.1, x108.2.2.1, x108.2.2.2) (x108.1 == 2)) fun r133 =>
  cond ((!r133))
  (some (y47, y50, y53, y57, y60, 2))
  (Option.bind (cond ((x108.1 == 1)) (Option.bind (idx y50 x108.2.1) fun x139 =>
  Option.bind (cond (x139) (some true) (Option.bind (idx y57 x108.2.1) fun (x144 : List Int) =>
  Option.bind (F66 x144 x108.2.1) fun r147 =>
  some r147)) fun b142 =>
  some b142) (some false)) fun b137 =>
  Option.bind (cond (b137) (some true) (Option.bind (cond ((x108.1 == 3)) (Option.bind (idx y50 x108.2.1) fun x155 =>
  some (!x155)) (some false)) fun b153 =>
  some b153)) fun b150 =>
  cond (b150)
  (some (y47, y50, y53, y57, y60, 7))
  (cond ((x108.1 == 1))
  (Option.bind (F86 x108.2.1 x108.2.1 y57 y60 y47 y53 y50) fun (r159, r160, r161, r162, r163) =>
  some (r161, r163, r162, r159, r160, 0))
  (cond ((x108.1 == 3))
  (Option.bind (idx y50 x108.2.1) fun x177 =>
  Option.bind (F85 x108.2.1 y53 (y50.set x108.2.1.toNat false) y57 y60 y47) fun (r179, r180, r181, r182, r183) =>
  some (r183, r180, r179, r181, r182, 0))
  (cond ((decide (r111 < 0)))
  (some (y47, y50, y53, y57, y60, 5))
  (Option.bind (idx y47 r111) fun x197 =>
  Option.bind (F62 y47 r111) fun r199 =>
  cond ((x197.2.2 == 1))
  (Option.bind (idx y53 x108.2.2.1) fun x205 =>
  Option.bind (idx y60 x108.2.2.1) fun x207 =>
  Option.bind (F85 x108.2.2.1 (y53.set x108.2.2.1.toNat true) y50 y57 (y60.set x108.2.2.1.toNat x108.2.2.1) r199) fun (r209, r210, r211, r212, r213) =>
  some (r213, r210, r209, r211, r212, 0))
  (Option.bind (F86 x108.2.2.1 x108.2.1 y57 y60 r199 y53 y50) fun (r226, r227, r228, r229, r230) =>
  some (r228, r230, r229, r226, r227, 0)))))))))
  fun (y116, y119, y122, y126, y129, x130) =>
  Option.bind (appl 8 y63 ([x130] : List Int)) fun (y245 : List Int) =>
  some (.nxt (y116, y119, y122, y126, y129, y245, w64 (x64 + 1))))
  (some (.brk (y47, y50, y53, y57, y60, y63)))
noncomputable def F48_L0 (a0 : List Int) : ((List Bool) × Int) → Option (Ctl ((List Bool) × Int) ((List Bool)) (Unit)) := fun (y30, x31) =>
  cond ((decide (x31 < (a0.length : Int))))
  (Option.bind (idx a0 x31) fun x39 =>
  Option.bind (idx y30 x31) fun x41 =>
  some (.nxt (y30.set x31.toNat (x39 == x31), w64 (x31 + 1))))
  (some (.brk y30))
/-- the model of beaconry/beaconryref.Token -/
noncomputable def F48 (a0 : List Int) (a1 : List (Int × Int × Int × Int)) : Option (((List Int) × (BitVec 32) × (BitVec 32) × Int)) :=
  Option.bind (appl 8 ([] : List Int) a0) fun (y6 : List Int) =>
  Option.bind (mkl (a0.length : Int) 24 ([] : List Int)) fun (y11 : List (List Int)) =>
  Option.bind (mkl (a0.length : Int) 1 false) fun (y18 : List Bool) =>
  Option.bind (mkl (a0.length : Int) 1 false) fun (y24 : List Bool) =>
  Option.bind (whileM (F48_L0 a0) (y18, 0)) fun o35 => Ctl.on o35 (fun y34 =>
  Option.bind (whileM (F48_L1 a0 a1) ([], y24, y34, y11, y6, [], 0)) fun o104 => Ctl.on o104 (fun (y87, y90, y93, y97, y100, y103) =>
  Option.bind (whileM (F48_L2 a0 y90 y97) (0, 0, 0)) fun o257 => Ctl.on o257 (fun (x255, x256) =>
  some (y103, x255, x256, (y87.length : Int))) (fun _ => none)) (fun _ => none)) (fun _ => none)
end Go.Proofs.Ythfkdepcnhhepaa
