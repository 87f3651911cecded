/-
  Pure models of Go functions, written by a program (gen.py).
-/
import Derived.Test.YtacggcanjanmkaaBk35
namespace Go.Proofs.Ytacggcanjanmkaa
open Go Go.Bk
set_option linter.unusedVariables false
@[reducible] def cTiiiiu32 (x : Int × Int × Int × BitVec 32) : List Value := [I x.1, I x.2.1, I x.2.2.1, U x.2.2.2]
@[reducible] def cTii (x : Int × Int) : List Value := [I x.1, I x.2]
noncomputable def F10_L0 (y3 : List (Int × Int × Int × BitVec 32)) : ((List (Int × Int × Int × BitVec 32)) × Int) → Option (Ctl ((List (Int × Int × Int × BitVec 32)) × Int) ((List (Int × Int × Int × BitVec 32))) (Unit)) := fun (y9, x10) =>
  cond ((decide (x10 < (y3.length : Int))))
  (Option.bind (idx y9 x10) fun x18 =>
  some (.nxt (y9.set x10.toNat (x18.1, x18.2.1, (-1), x18.2.2.2), w64 (x10 + 1))))
  (some (.brk y9))
/-- the model of beaconry/elect.New -/
noncomputable def F10 (a0 : Int) : Option (((List (Int × Int × Int × BitVec 32)) × List (Int × Int))) :=
  Option.bind (mkl a0 32 (0, 0, 0, 0)) fun (y3 : List (Int × Int × Int × BitVec 32)) =>
  Option.bind (whileM (F10_L0 y3) (y3, 0)) fun o14 => Ctl.on o14 (fun y13 =>
  some (y13, [])) (fun _ => none)

/-- the model of (*beaconry/elect.Group).Term -/
noncomputable def F12 (a0_0 : List (Int × Int × Int × BitVec 32)) (a0_1 : List (Int × Int)) (a1 : Int) : Option (Int) :=
  Option.bind (idx a0_0 a1) fun x1 =>
  some x1.1

/-- the model of (*beaconry/elect.Group).Role -/
noncomputable def F13 (a0_0 : List (Int × Int × Int × BitVec 32)) (a0_1 : List (Int × Int)) (a1 : Int) : Option (Int) :=
  Option.bind (idx a0_0 a1) fun x1 =>
  some x1.2.1

/-- the model of math/bits.OnesCount32 -/
noncomputable def F38 (a0 : BitVec 32) : Option (Int) :=
  Option.bind (tb ((a0 >>> (24 : Int).toNat).toNat : Int)) fun x1 =>
  Option.bind (tb (((a0 >>> (16 : Int).toNat) &&& (255#32)).toNat : Int)) fun x3 =>
  Option.bind (tb (((a0 >>> (8 : Int).toNat) &&& (255#32)).toNat : Int)) fun x5 =>
  Option.bind (tb ((a0 &&& (255#32)).toNat : Int)) fun x7 =>
  some (w64 (w8 ((w8 ((w8 (x1 + x3)) + x5)) + x7)))

/-- the model of (*beaconry/elect.Group).count -/
noncomputable def F34 (a0 : (List (Int × Int × Int × BitVec 32)) × List (Int × Int)) (a1 : Int) (a2 : Int) : Option (((List (Int × Int × Int × BitVec 32)) × List (Int × Int))) :=
  Option.bind (idx a0.1 a1) fun x5 =>
  Option.bind (shc a2) fun k7 =>
  Option.bind (idx (a0.1.set a1.toNat (x5.1, x5.2.1, x5.2.2.1, (x5.2.2.2 ||| ((1#32) <<< k7)))) a1) fun x9 =>
  Option.bind (cond ((x9.2.1 == 1)) (Option.bind (idx (a0.1.set a1.toNat (x5.1, x5.2.1, x5.2.2.1, (x5.2.2.2 ||| ((1#32) <<< k7)))) a1) fun x14 =>
  Option.bind (F38 x14.2.2.2) fun r16 =>
  some (decide ((w64 (2 * r16)) > ((a0.1.set a1.toNat (x5.1, x5.2.1, x5.2.2.1, (x5.2.2.2 ||| ((1#32) <<< k7)))).length : Int)))) (some false)) fun b12 =>
  cond (b12)
  (Option.bind (idx (a0.1.set a1.toNat (x5.1, x5.2.1, x5.2.2.1, (x5.2.2.2 ||| ((1#32) <<< k7)))) a1) fun x19 =>
  Option.bind (idx ((a0.1.set a1.toNat (x5.1, x5.2.1, x5.2.2.1, (x5.2.2.2 ||| ((1#32) <<< k7)))).set a1.toNat (x19.1, 2, x19.2.2.1, x19.2.2.2)) a1) fun xq21_8_1 =>
  Option.bind (appl 16 a0.2 ([(xq21_8_1.1, a1)] : List (Int × Int))) fun (yq21_12_1 : List (Int × Int)) =>
  some ((a0.1.set a1.toNat (x5.1, x5.2.1, x5.2.2.1, (x5.2.2.2 ||| ((1#32) <<< k7)))).set a1.toNat (x19.1, 2, x19.2.2.1, x19.2.2.2), yq21_12_1))
  (some (a0.1.set a1.toNat (x5.1, x5.2.1, x5.2.2.1, (x5.2.2.2 ||| ((1#32) <<< k7))), a0.2))

/-- the model of (*beaconry/elect.Group).Stand -/
noncomputable def F28 (a0 : (List (Int × Int × Int × BitVec 32)) × List (Int × Int)) (a1 : Int) : Option (Int × ((List (Int × Int × Int × BitVec 32)) × List (Int × Int))) :=
  Option.bind (idx a0.1 a1) fun x5 =>
  cond ((x5.2.1 == 2))
  (some (7, (a0.1, a0.2)))
  (Option.bind (idx a0.1 a1) fun x8 =>
  Option.bind (idx a0.1 a1) fun x10 =>
  Option.bind (F34 (a0.1.set a1.toNat (w64 (x8.1 + 1), 1, a1, 0), a0.2) a1 a1) fun r12 =>
  some (0, (r12.1, r12.2)))

/-- the model of (*beaconry/elect.Group).Know -/
noncomputable def F36 (a0 : List (Int × Int × Int × BitVec 32)) (a1 : Int) (a2 : Int) : Option ((List (Int × Int × Int × BitVec 32))) :=
  Option.bind (idx a0 a1) fun x3 =>
  cond ((decide (a2 > x3.1)))
  (Option.bind (idx a0 a1) fun x6 =>
  some (a0.set a1.toNat (a2, 0, (-1), 0)))
  (some a0)

/-- the model of (*beaconry/elect.Group).Vote -/
noncomputable def F30 (a0 : (List (Int × Int × Int × BitVec 32)) × List (Int × Int)) (a1 : Int) (a2 : Int) (a3 : Bool) : Option (Int × ((List (Int × Int × Int × BitVec 32)) × List (Int × Int))) :=
  Option.bind (idx a0.1 a2) fun x5 =>
  cond ((x5.2.1 != 1))
  (some (5, (a0.1, a0.2)))
  (Option.bind (idx a0.1 a2) fun x8 =>
  Option.bind (F36 a0.1 a1 x8.1) fun r10 =>
  Option.bind (idx r10 a1) fun x13 =>
  Option.bind (idx r10 a2) fun x15 =>
  cond ((decide (x13.1 > x15.1)))
  (Option.bind (F36 r10 a2 x13.1) fun r18 =>
  some (8, (r18, a0.2)))
  (cond ((((decide (x13.2.2.1 ≥ 0)) && (x13.2.2.1 != a2)) || (!a3)))
  (some (7, (r10, a0.2)))
  (Option.bind (F34 (r10.set a1.toNat (x13.1, x13.2.1, a2, x13.2.2.2), a0.2) a2 a1) fun r24 =>
  some (0, (r24.1, r24.2)))))

/-- the model of (*beaconry/elect.Group).Beat -/
noncomputable def F32 (a0 : List (Int × Int × Int × BitVec 32)) (a1 : Int) (a2 : Int) : Option (Int × (List (Int × Int × Int × BitVec 32))) :=
  Option.bind (idx a0 a1) fun x3 =>
  cond ((x3.2.1 != 2))
  (some (5, a0))
  (Option.bind (idx a0 a2) fun x6 =>
  Option.bind (idx a0 a1) fun x8 =>
  cond ((decide (x6.1 > x8.1)))
  (Option.bind (idx a0 a2) fun x11 =>
  Option.bind (F36 a0 a1 x11.1) fun r13 =>
  some (8, r13))
  (Option.bind (idx a0 a1) fun x16 =>
  Option.bind (F36 a0 a2 x16.1) fun r18 =>
  Option.bind (idx r18 a2) fun x21 =>
  some (0, r18.set a2.toNat (x21.1, 0, x21.2.2.1, x21.2.2.2))))

/-- the model of (*beaconry/elect.Group).Crash -/
noncomputable def F23 (a0 : List (Int × Int × Int × BitVec 32)) (a1 : Int) : Option ((List (Int × Int × Int × BitVec 32))) :=
  Option.bind (idx a0 a1) fun xq3_10_1 =>
  Option.bind (idx (a0.set a1.toNat (xq3_10_1.1, 0, xq3_10_1.2.2.1, xq3_10_1.2.2.2)) a1) fun xq3_13_1 =>
  some ((a0.set a1.toNat (xq3_10_1.1, 0, xq3_10_1.2.2.1, xq3_10_1.2.2.2)).set a1.toNat (xq3_13_1.1, xq3_13_1.2.1, xq3_13_1.2.2.1, 0#32))

/-- the model of slices.Clone[[]beaconry/api.Entry,beaconry/api.Entry] -/
noncomputable def F14 (a0 : List (Int × Int)) : Option (List (Int × Int)) := appl 16 ([] : List (Int × Int)) a0

/-- the model of beaconry/beaconryref.PlayCheck -/
noncomputable def F5 (a0 : Int) (a1 : Int) : Option (Int) :=
  cond ((((decide (a0 < 1)) || (decide (a0 > 6))) || (decide (a1 > 60))))
  (some 1)
  (some 0)

noncomputable def F7_L0 (a0 : List Int) (a1 : List Int) : Int → Option (Ctl (Int) (Unit) (Bool)) := fun x2 =>
  cond ((decide (x2 < (a0.length : Int))))
  (Option.bind (idx a0 x2) fun x8 =>
  Option.bind (idx a1 x2) fun x10 =>
  cond ((x8 != x10))
  (some (.ret false))
  (some (.nxt (w64 (x2 + 1)))))
  (some (.brk ()))
/-- the model of beaconry/beaconryref.Codes -/
noncomputable def F7 (a0 : List Int) (a1 : List Int) : Option (Bool) :=
  cond (((a0.length : Int) != (a1.length : Int)))
  (some false)
  (Option.bind (whileM (F7_L0 a0 a1) 0) fun o4 => Ctl.on o4 (fun _ =>
  some true) (fun r => some r))

noncomputable def F8_L0 (a0 : List Int) (a1 : List Int) : Int → Option (Ctl (Int) (Unit) (Bool)) := fun x2 =>
  cond ((decide (x2 < (a0.length : Int))))
  (Option.bind (idx a0 x2) fun x8 =>
  Option.bind (idx a1 x2) fun x10 =>
  cond ((x8 != x10))
  (some (.ret false))
  (some (.nxt (w64 (x2 + 1)))))
  (some (.brk ()))
/-- the model of beaconry/beaconryref.Ints -/
noncomputable def F8 (a0 : List Int) (a1 : List Int) : Option (Bool) :=
  cond (((a0.length : Int) != (a1.length : Int)))
  (some false)
  (Option.bind (whileM (F8_L0 a0 a1) 0) fun o4 => Ctl.on o4 (fun _ =>
  some true) (fun r => some r))

noncomputable def F17_L0 (a0 : List (Int × Int)) (a1 : List (Int × Int)) : Int → Option (Ctl (Int) (Unit) (Bool)) := fun x2 =>
  cond ((decide (x2 < (a1.length : Int))))
  (Option.bind (idx a0 x2) fun x8 =>
  Option.bind (idx a1 x2) fun x10 =>
  cond ((!((x8.1 == x10.1) && ((x8.2 == x10.2) && true))))
  (some (.ret false))
  (some (.nxt (w64 (x2 + 1)))))
  (some (.brk ()))
/-- the model of beaconry/beaconryref.Begins -/
noncomputable def F17 (a0 : List (Int × Int)) (a1 : List (Int × Int)) : Option (Bool) :=
  cond ((decide ((a1.length : Int) > (a0.length : Int))))
  (some false)
  (Option.bind (whileM (F17_L0 a0 a1) 0) fun o4 => Ctl.on o4 (fun _ =>
  some true) (fun r => some r))

/-- the model of beaconry/beaconryref.Entries -/
noncomputable def F9 (a0 : List (Int × Int)) (a1 : List (Int × Int)) : Option (Bool) :=
  Option.bind (cond (((a0.length : Int) == (a1.length : Int))) (Option.bind (F17 a0 a1) fun r4 =>
  some r4) (some false)) fun b2 =>
  some b2
end Go.Proofs.Ytacggcanjanmkaa
