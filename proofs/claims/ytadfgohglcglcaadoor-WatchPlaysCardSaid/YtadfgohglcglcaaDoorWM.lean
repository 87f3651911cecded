/-
  Pure models of Go functions, written by a program (gen.py).
-/
import Derived.Test.YtadfgohglcglcaaDoorBk38
import Derived.Test.YtadfgohglcglcaaDoorBk41
import Derived.Test.YtadfgohglcglcaaDoorSM
import Derived.Test.YtadfgohglcglcaaDoorNM
import Derived.Test.YtadfgohglcglcaaDoorKM
namespace Go.Proofs.YtadfgohglcglcaaDoor
open Go Go.Bk
set_option linter.unusedVariables false
@[reducible] def cTiis (x : Int × Int × ByteArray) : List Value := [I x.1, I x.2.1, .string x.2.2]
@[reducible] def cTis (x : Int × ByteArray) : List Value := [I x.1, .string x.2]
@[reducible] def cTibissi (x : Int × Bool × Int × ByteArray × ByteArray × Int) : List Value := [I x.1, .bool x.2.1, I x.2.2.1, .string x.2.2.2.1, .string x.2.2.2.2.1, I x.2.2.2.2.2]
noncomputable def F43_L0 (a1 : List (Int × Int × ByteArray)) : (((Int × Int × ByteArray) → Option Bool) × Bool × Int) → Option (Ctl (((Int × Int × ByteArray) → Option Bool) × Bool × Int) (((Int × Int × ByteArray) → Option Bool) × Bool) (Unit)) := fun (y3, b4, x5) =>
  cond ((decide (x5 < (a1.length : Int))))
  (Option.bind (idx a1 x5) fun x15 =>
  some (.nxt (mdel y3 (x15.1, x15.2.1, x15.2.2), (b4 || ((y3 (x15.1, x15.2.1, x15.2.2)).getD false)), w64 (x5 + 1))))
  (some (.brk (y3, b4)))
/-- the model of (*beaconry/watch.place).fire -/
noncomputable def F43 (a0 : (Int × Int × ByteArray) → Option Bool) (a1 : List (Int × Int × ByteArray)) : Option (Bool × ((Int × Int × ByteArray) → Option Bool)) :=
  Option.bind (whileM (F43_L0 a1) (a0, false, 0)) fun o11 => Ctl.on o11 (fun (y9, b10) =>
  some (b10, y9)) (fun _ => none)

noncomputable def F31_L0 (a0 : ((Int × Int × ByteArray) → Option Bool) × List (List (Int × ByteArray))) (a1 : Int × ByteArray × ByteArray × Int) (r6 : ByteArray) : (((Int × Int × ByteArray) → Option Bool) × (List (List (Int × ByteArray))) × Int) → Option (Ctl (((Int × Int × ByteArray) → Option Bool) × (List (List (Int × ByteArray))) × Int) (((Int × Int × ByteArray) → Option Bool) × (List (List (Int × ByteArray)))) (Unit)) := fun (y13, y14, x16) =>
  cond ((decide (x16 < (a0.2.length : Int))))
  (Option.bind (α := ((Int × Int × ByteArray) → Option Bool) × (List (List (Int × ByteArray)))) (Option.bind (α := Unit) (some ())
  fun _ =>
  Option.bind (α := ((Int × Int × ByteArray) → Option Bool) × Bool) (cond ((a1.1 == 2))
  (Option.bind (F43 y13 ([(x16, 4, a1.2.1)] : List (Int × Int × ByteArray))) fun (r48, r49) =>
  some (r49, r48))
  (cond ((a1.1 == 1))
  (Option.bind (F43 y13 ([(x16, 5, r6)] : List (Int × Int × ByteArray))) fun (r56, r57) =>
  some (r57, r56))
  (cond ((a1.1 == 3))
  (Option.bind (F43 y13 ([(x16, 4, a1.2.1), (x16, 5, a1.2.1), (x16, 5, r6)] : List (Int × Int × ByteArray))) fun (r64, r65) =>
  some (r65, r64))
  (some (y13, false)))))
  fun (y42, b43) =>
  cond (b43)
  (Option.bind (α := (List (List (Int × ByteArray)))) (Option.bind (idx y14 x16) fun (xq70_10_1 : List (Int × ByteArray)) =>
  Option.bind (appl 24 xq70_10_1 ([((((mupd (mupd (mupd (mzero : Int → Option Int) 1 1) 2 2) 3 3) a1.1).getD 0), a1.2.1)] : List (Int × ByteArray))) fun (yq70_17_2 : List (Int × ByteArray)) =>
  Option.bind (idx y14 x16) fun (xq70_18_1 : List (Int × ByteArray)) =>
  some (y14.set x16.toNat yq70_17_2))
  fun y71 =>
  some (y42, y71))
  (some (y42, y14)))
  fun (y34, y35) =>
  some (.nxt (y34, y35, w64 (x16 + 1))))
  (some (.brk (y13, y14)))
/-- the model of (*beaconry/watch.place).tell -/
noncomputable def F31 (a0 : ((Int × Int × ByteArray) → Option Bool) × List (List (Int × ByteArray))) (a1 : Int × ByteArray × ByteArray × Int) : Option ((((Int × Int × ByteArray) → Option Bool) × List (List (Int × ByteArray)))) :=
  Option.bind (F42 a1.2.1) fun (r6, r7) =>
  Option.bind (whileM (F31_L0 a0 a1 r6) (a0.1, a0.2, 0)) fun o28 => Ctl.on o28 (fun (y25, y26) =>
  some (y25, y26)) (fun _ => none)

noncomputable def F22_L0 (a0 : List (Int × Bool × Int × ByteArray × ByteArray × Int)) : ((List (Int × ByteArray × Int × List ByteArray)) × ((Int × Int × ByteArray) → Option Bool) × (ByteArray → Option (ByteArray × Int)) × (List (List (Int × ByteArray))) × Int) → Option (Ctl ((List (Int × ByteArray × Int × List ByteArray)) × ((Int × Int × ByteArray) → Option Bool) × (ByteArray → Option (ByteArray × Int)) × (List (List (Int × ByteArray))) × Int) ((List (Int × ByteArray × Int × List ByteArray)) × ((Int × Int × ByteArray) → Option Bool) × (ByteArray → Option (ByteArray × Int)) × (List (List (Int × ByteArray)))) (Unit)) := fun (y19, y22, y25, y26, x28) =>
  cond ((decide (x28 < (a0.length : Int))))
  (Option.bind (α := ((Int × Int × ByteArray) → Option Bool) × (ByteArray → Option (ByteArray × Int)) × (List (Int × ByteArray × Int × List ByteArray)) × (List (List (Int × ByteArray)))) (Option.bind (idx a0 x28) fun x70 =>
  cond (((decide (x70.1 < 0)) || (decide (x70.1 ≥ 6))))
  (Option.bind (appl 56 y19 [(2, ByteArray.empty, 0, ([] : List (ByteArray)))]) fun (y79 : List (Int × ByteArray × Int × List ByteArray)) =>
  some (y22, y25, y79, y26))
  (Option.bind (α := (ByteArray → Option (ByteArray × Int)) × (List ByteArray) × Int × ByteArray × Int) (Option.bind (F29 y25 (x70.2.2.1, x70.2.2.2.1, x70.2.2.2.2.1, x70.2.2.2.2.2)) fun (rq83_6_1, rq83_6_2) =>
  some (rq83_6_2, rq83_6_1.2.2.2, rq83_6_1.1, rq83_6_1.2.1, rq83_6_1.2.2.1))
  fun (y86, y89, x90, t91, x92) =>
  Option.bind (appl 56 y19 [(x90, t91, x92, y89)]) fun (y97 : List (Int × ByteArray × Int × List ByteArray)) =>
  cond ((x90 != 0))
  (some (y22, y86, y97, y26))
  (Option.bind (F31 (y22, y26) (x70.2.2.1, x70.2.2.2.1, x70.2.2.2.2.1, x70.2.2.2.2.2)) fun r102 =>
  cond ((x70.2.1 && (decide (x70.2.2.1 ≥ 4))))
  (some (mupd r102.1 (x70.1, x70.2.2.1, x70.2.2.2.1) true, y86, y97, r102.2))
  (some (r102.1, y86, y97, r102.2)))))
  fun (y60, y63, y64, y67) =>
  some (.nxt (y64, y60, y63, y67, w64 (x28 + 1))))
  (some (.brk (y19, y22, y25, y26)))
/-- the model of beaconry/watch.Play -/
noncomputable def F22 (a0 : List (Int × Bool × Int × ByteArray × ByteArray × Int)) : Option ((List (Int × ByteArray × Int × List ByteArray)) × (List (List (Int × ByteArray))) × Int) :=
  cond ((decide ((a0.length : Int) > 60)))
  (some ([], [], 1))
  (Option.bind (α := ((Int × Int × ByteArray) → Option Bool) × (List (List (Int × ByteArray))) × (ByteArray → Option (ByteArray × Int))) (Option.bind (F26) fun rq4_0_1 =>
  Option.bind (mkl 6 24 ([] : List (Int × ByteArray))) fun (yq4_2_1 : List (List (Int × ByteArray))) =>
  some ((mzero : (Int × Int × ByteArray) → Option Bool), yq4_2_1, rq4_0_1))
  fun (y7, y11, y14) =>
  Option.bind (whileM (F22_L0 a0) ([], y7, y14, y11, 0)) fun o54 => Ctl.on o54 (fun (y45, y48, y51, y52) =>
  some (y45, y52, 0)) (fun _ => none))

noncomputable def F23_L2 (x60 : Int × Bool × Int × ByteArray × ByteArray × Int) (x108 : Int) (y128 : List Bool) : ((List (List (Int × ByteArray))) × Int) → Option (Ctl ((List (List (Int × ByteArray))) × Int) ((List (List (Int × ByteArray)))) (Unit)) := fun (y159, x161) =>
  cond ((decide (x161 < 6)))
  (Option.bind (α := (List (List (Int × ByteArray)))) (Option.bind (idx y128 x161) fun x174 =>
  cond (x174)
  (Option.bind (α := (List (List (Int × ByteArray)))) (Option.bind (idx y159 x161) fun (xq177_4_1 : List (Int × ByteArray)) =>
  Option.bind (appl 24 xq177_4_1 ([(x108, x60.2.2.2.1)] : List (Int × ByteArray))) fun (yq177_8_2 : List (Int × ByteArray)) =>
  Option.bind (idx y159 x161) fun (xq177_9_1 : List (Int × ByteArray)) =>
  some (y159.set x161.toNat yq177_8_2))
  fun y178 =>
  some y178)
  (some y159))
  fun y171 =>
  some (.nxt (y171, w64 (x161 + 1))))
  (some (.brk y159))
noncomputable def F23_L1 (y21 : List (Int × Bool × Int × ByteArray × ByteArray × Int)) (x60 : Int × Bool × Int × ByteArray × ByteArray × Int) : ((List (Int × Bool × Int × ByteArray × ByteArray × Int)) × (List Bool) × Int) → Option (Ctl ((List (Int × Bool × Int × ByteArray × ByteArray × Int)) × (List Bool) × Int) ((List (Int × Bool × Int × ByteArray × ByteArray × Int)) × (List Bool)) (Unit)) := fun (y117, y118, x119) =>
  cond ((decide (x119 < (y21.length : Int))))
  (Option.bind (α := (List (Int × Bool × Int × ByteArray × ByteArray × Int)) × (List Bool)) (Option.bind (idx y21 x119) fun x137 =>
  Option.bind (α := ByteArray) (cond ((x60.2.2.1 != 2))
  (Option.bind (F32 x60.2.2.2.1) fun (r143, r144) =>
  some r143)
  (some (ByteArray.mk #[])))
  fun t140 =>
  cond ((((sEq x137.2.2.2.1 x60.2.2.2.1) && (((x60.2.2.1 == 2) && (x137.2.2.1 == 4)) || (x60.2.2.1 == 3))) || ((x137.2.2.1 == 5) && (sEq x137.2.2.2.1 t140))))
  (Option.bind (idx y118 x137.1) fun x152 =>
  some (y117, y118.set x137.1.toNat true))
  (Option.bind (appl 64 y117 ([(x137.1, x137.2.1, (x137.2.2.1, x137.2.2.2.1, x137.2.2.2.2.1, x137.2.2.2.2.2))] : List (Int × Bool × Int × ByteArray × ByteArray × Int))) fun (y156 : List (Int × Bool × Int × ByteArray × ByteArray × Int)) =>
  some (y156, y118)))
  fun (y133, y135) =>
  some (.nxt (y133, y135, w64 (x119 + 1))))
  (some (.brk (y117, y118)))
noncomputable def F23_L0 (a0 : List (Int × Bool × Int × ByteArray × ByteArray × Int)) : ((List (ByteArray × ByteArray × Int)) × (List (Int × ByteArray × Int × List ByteArray)) × (List (Int × Bool × Int × ByteArray × ByteArray × Int)) × (List (List (Int × ByteArray))) × Int) → Option (Ctl ((List (ByteArray × ByteArray × Int)) × (List (Int × ByteArray × Int × List ByteArray)) × (List (Int × Bool × Int × ByteArray × ByteArray × Int)) × (List (List (Int × ByteArray))) × Int) ((List (Int × ByteArray × Int × List ByteArray)) × (List (List (Int × ByteArray)))) (Unit)) := fun (y14, y18, y21, y22, x24) =>
  cond ((decide (x24 < (a0.length : Int))))
  (Option.bind (α := (List (ByteArray × ByteArray × Int)) × (List (Int × Bool × Int × ByteArray × ByteArray × Int)) × (List (Int × ByteArray × Int × List ByteArray)) × (List (List (Int × ByteArray)))) (Option.bind (idx a0 x24) fun x60 =>
  cond (((decide (x60.1 < 0)) || (decide (x60.1 ≥ 6))))
  (Option.bind (appl 56 y18 [(2, ByteArray.empty, 0, ([] : List (ByteArray)))]) fun (y69 : List (Int × ByteArray × Int × List ByteArray)) =>
  some (y14, y21, y69, y22))
  (Option.bind (F30 y14 (x60.2.2.1, x60.2.2.2.1, x60.2.2.2.2.1, x60.2.2.2.2.2)) fun (r73, r74) =>
  Option.bind (appl 56 y18 [(r74.1, r74.2.1, r74.2.2.1, r74.2.2.2)]) fun (y85 : List (Int × ByteArray × Int × List ByteArray)) =>
  cond ((r74.1 != 0))
  (some (r73, y21, y85, y22))
  (cond ((decide (x60.2.2.1 ≥ 4)))
  (Option.bind (α := (List (Int × Bool × Int × ByteArray × ByteArray × Int))) (cond (x60.2.1)
  (Option.bind (appl 64 y21 ([(x60.1, x60.2.1, (x60.2.2.1, x60.2.2.2.1, x60.2.2.2.2.1, x60.2.2.2.2.2))] : List (Int × Bool × Int × ByteArray × ByteArray × Int))) fun (y98 : List (Int × Bool × Int × ByteArray × ByteArray × Int)) =>
  some y98)
  (some y21))
  fun y92 =>
  some (r73, y92, y85, y22))
  (Option.bind (α := Int) (cond ((x60.2.2.1 == 1))
  (some 1)
  (some x60.2.2.1))
  fun x102 =>
  Option.bind (α := Int) (cond ((x60.2.2.1 == 2))
  (some 2)
  (some x102))
  fun x105 =>
  Option.bind (α := Int) (cond ((x60.2.2.1 == 3))
  (some 3)
  (some x105))
  fun x108 =>
  Option.bind (mkl 6 1 false) fun (y111 : List Bool) =>
  Option.bind (whileM (F23_L1 y21 x60) ([], y111, 0)) fun o129 => Ctl.on o129 (fun (y127, y128) =>
  Option.bind (whileM (F23_L2 x60 x108 y128) (y22, 0)) fun o167 => Ctl.on o167 (fun y165 =>
  some (r73, y127, y85, y165)) (fun _ => none)) (fun _ => none)))))
  fun (y50, y53, y54, y57) =>
  some (.nxt (y50, y54, y53, y57, w64 (x24 + 1))))
  (some (.brk (y18, y22)))
/-- the model of beaconry/beaconryref.Watch -/
noncomputable def F23 (a0 : List (Int × Bool × Int × ByteArray × ByteArray × Int)) : Option ((List (Int × ByteArray × Int × List ByteArray)) × (List (List (Int × ByteArray)))) :=
  Option.bind (F20) fun r3 =>
  Option.bind (mkl 6 24 ([] : List (Int × ByteArray))) fun (y7 : List (List (Int × ByteArray))) =>
  Option.bind (whileM (F23_L0 a0) (r3, [], [], y7, 0)) fun o44 => Ctl.on o44 (fun (y41, y42) =>
  some (y41, y42)) (fun _ => none)

noncomputable def F24_L0 (a0 : List (Int × ByteArray)) (a1 : List (Int × ByteArray)) : Int → Option (Ctl (Int) (Unit) (Bool)) := fun x2 =>
  cond ((decide (x2 < (a0.length : Int))))
  (Option.bind (idx a0 x2) fun x8 =>
  Option.bind (idx a1 x2) fun x10 =>
  cond ((!((x8.1 == x10.1) && ((x8.2 == x10.2) && true))))
  (some (.ret false))
  (some (.nxt (w64 (x2 + 1)))))
  (some (.brk ()))
/-- the model of beaconry/beaconryref.Noted -/
noncomputable def F24 (a0 : List (Int × ByteArray)) (a1 : List (Int × ByteArray)) : Option (Bool) :=
  cond (((a0.length : Int) != (a1.length : Int)))
  (some false)
  (Option.bind (whileM (F24_L0 a0 a1) 0) fun o4 => Ctl.on o4 (fun _ =>
  some true) (fun r => some r))

noncomputable def F8_L0 (r2 : List (List (Int × ByteArray))) (r15 : List (List (Int × ByteArray))) : Int → Option (Ctl (Int) (Unit) (Bool)) := fun x30 =>
  cond ((decide (x30 < (r15.length : Int))))
  (Option.bind (idx r2 x30) fun (x36 : List (Int × ByteArray)) =>
  Option.bind (idx r15 x30) fun (x39 : List (Int × ByteArray)) =>
  Option.bind (F24 x36 x39) fun r42 =>
  cond ((!r42))
  (some (.ret false))
  (some (.nxt (w64 (x30 + 1)))))
  (some (.brk ()))
/-- the model of beaconry/beaconrylaw.WatchPlays -/
noncomputable def F8 (a0 : List (Int × Bool × Int × ByteArray × ByteArray × Int)) : Option (Bool) :=
  Option.bind (F22 a0) fun (r1, r2, r3) =>
  cond ((decide ((a0.length : Int) > 60)))
  (some (((r3 == 1) && ((r1.length : Int) == 0)) && ((r2.length : Int) == 0)))
  (Option.bind (F23 a0) fun (r14, r15) =>
  Option.bind (cond ((r3 != 0)) (some true) (Option.bind (F13 r1 r14) fun r26 =>
  some (!r26))) fun b24 =>
  cond ((b24 || ((r2.length : Int) != (r15.length : Int))))
  (some false)
  (Option.bind (whileM (F8_L0 r2 r15) 0) fun o32 => Ctl.on o32 (fun _ =>
  some true) (fun r => some r)))
end Go.Proofs.YtadfgohglcglcaaDoor
