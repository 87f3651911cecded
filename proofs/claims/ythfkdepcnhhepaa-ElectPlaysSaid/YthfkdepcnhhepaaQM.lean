/-
  Pure models of Go functions, written by a program (gen.py).
-/
import Derived.Test.YthfkdepcnhhepaaBk30
namespace Go.Proofs.Ythfkdepcnhhepaa
open Go Go.Bk
set_option linter.unusedVariables false
@[reducible] def cTiiiiu32 (x : Int × Int × Int × BitVec 32) : List Value := [I x.1, I x.2.1, I x.2.2.1, U x.2.2.2]
@[reducible] def cTii (x : Int × Int) : List Value := [I x.1, I x.2]
@[reducible] def cTiiii (x : Int × Int × Int × Int) : List Value := [I x.1, I x.2.1, I x.2.2.1, I x.2.2.2]
noncomputable def F74_L0 (y3 : List (Int × Int × Int × BitVec 32)) : ((List (Int × Int × Int × BitVec 32)) × Int) → Option (Ctl ((List (Int × Int × Int × BitVec 32)) × Int) ((List (Int × Int × Int × BitVec 32))) (Unit)) := fun (y9, x10) =>
  cond ((decide (x10 < (y3.length : Int))))
  (Option.bind (idx y9 x10) fun x18 =>
  some (.nxt (y9.set x10.toNat (x18.1, x18.2.1, (-1), x18.2.2.2), w64 (x10 + 1))))
  (some (.brk y9))
/-- the model of beaconry/elect.New -/
noncomputable def F74 (a0 : Int) : Option (((List (Int × Int × Int × BitVec 32)) × List (Int × Int))) :=
  Option.bind (mkl a0 32 (0, 0, 0, 0)) fun (y3 : List (Int × Int × Int × BitVec 32)) =>
  Option.bind (whileM (F74_L0 y3) (y3, 0)) fun o14 => Ctl.on o14 (fun y13 =>
  some (y13, [])) (fun _ => none)

/-- the model of (*beaconry/elect.Group).do$1 -/
noncomputable def F107 (a0 : Int) (a1_0 : Nat) : Option (Bool) :=
  some ((decide (a0 < 0)) || (decide (a0 ≥ (a1_0 : Int))))

/-- the model of math/bits.OnesCount32 -/
noncomputable def F129 (a0 : BitVec 32) : Option (Int) :=
  Option.bind (tb ((a0 >>> (24 : Int).toNat).toNat : Int)) fun x1 =>
  Option.bind (tb (((a0 >>> (16 : Int).toNat) &&& (255#32)).toNat : Int)) fun x3 =>
  Option.bind (tb (((a0 >>> (8 : Int).toNat) &&& (255#32)).toNat : Int)) fun x5 =>
  Option.bind (tb ((a0 &&& (255#32)).toNat : Int)) fun x7 =>
  some (w64 (w8 ((w8 ((w8 (x1 + x3)) + x5)) + x7)))

/-- the model of (*beaconry/elect.Group).count -/
noncomputable def F136 (a0 : (List (Int × Int × Int × BitVec 32)) × List (Int × Int)) (a1 : Int) (a2 : Int) : Option (((List (Int × Int × Int × BitVec 32)) × List (Int × Int))) :=
  Option.bind (idx a0.1 a1) fun x5 =>
  Option.bind (shc a2) fun k7 =>
  Option.bind (idx (a0.1.set a1.toNat (x5.1, x5.2.1, x5.2.2.1, (x5.2.2.2 ||| ((1#32) <<< k7)))) a1) fun x9 =>
  Option.bind (cond ((x9.2.1 == 1)) (Option.bind (idx (a0.1.set a1.toNat (x5.1, x5.2.1, x5.2.2.1, (x5.2.2.2 ||| ((1#32) <<< k7)))) a1) fun x14 =>
  Option.bind (F129 x14.2.2.2) fun r16 =>
  some (decide ((w64 (2 * r16)) > ((a0.1.set a1.toNat (x5.1, x5.2.1, x5.2.2.1, (x5.2.2.2 ||| ((1#32) <<< k7)))).length : Int)))) (some false)) fun b12 =>
  cond (b12)
  (Option.bind (idx (a0.1.set a1.toNat (x5.1, x5.2.1, x5.2.2.1, (x5.2.2.2 ||| ((1#32) <<< k7)))) a1) fun x19 =>
  Option.bind (idx ((a0.1.set a1.toNat (x5.1, x5.2.1, x5.2.2.1, (x5.2.2.2 ||| ((1#32) <<< k7)))).set a1.toNat (x19.1, 2, x19.2.2.1, x19.2.2.2)) a1) fun xq21_8_1 =>
  Option.bind (appl 16 a0.2 ([(xq21_8_1.1, a1)] : List (Int × Int))) fun (yq21_12_1 : List (Int × Int)) =>
  some ((a0.1.set a1.toNat (x5.1, x5.2.1, x5.2.2.1, (x5.2.2.2 ||| ((1#32) <<< k7)))).set a1.toNat (x19.1, 2, x19.2.2.1, x19.2.2.2), yq21_12_1))
  (some (a0.1.set a1.toNat (x5.1, x5.2.1, x5.2.2.1, (x5.2.2.2 ||| ((1#32) <<< k7))), a0.2))

/-- the model of (*beaconry/elect.Group).Stand -/
noncomputable def F108 (a0 : (List (Int × Int × Int × BitVec 32)) × List (Int × Int)) (a1 : Int) : Option (Int × ((List (Int × Int × Int × BitVec 32)) × List (Int × Int))) :=
  Option.bind (idx a0.1 a1) fun x5 =>
  cond ((x5.2.1 == 2))
  (some (7, (a0.1, a0.2)))
  (Option.bind (idx a0.1 a1) fun x8 =>
  Option.bind (idx a0.1 a1) fun x10 =>
  Option.bind (F136 (a0.1.set a1.toNat (w64 (x8.1 + 1), 1, a1, 0), a0.2) a1 a1) fun r12 =>
  some (0, (r12.1, r12.2)))

/-- the model of (*beaconry/elect.Group).Know -/
noncomputable def F137 (a0 : List (Int × Int × Int × BitVec 32)) (a1 : Int) (a2 : Int) : Option ((List (Int × Int × Int × BitVec 32))) :=
  Option.bind (idx a0 a1) fun x3 =>
  cond ((decide (a2 > x3.1)))
  (Option.bind (idx a0 a1) fun x6 =>
  some (a0.set a1.toNat (a2, 0, (-1), 0)))
  (some a0)

/-- the model of (*beaconry/elect.Group).Vote -/
noncomputable def F109 (a0 : (List (Int × Int × Int × BitVec 32)) × List (Int × Int)) (a1 : Int) (a2 : Int) (a3 : Bool) : Option (Int × ((List (Int × Int × Int × BitVec 32)) × List (Int × Int))) :=
  Option.bind (idx a0.1 a2) fun x5 =>
  cond ((x5.2.1 != 1))
  (some (5, (a0.1, a0.2)))
  (Option.bind (idx a0.1 a2) fun x8 =>
  Option.bind (F137 a0.1 a1 x8.1) fun r10 =>
  Option.bind (idx r10 a1) fun x13 =>
  Option.bind (idx r10 a2) fun x15 =>
  cond ((decide (x13.1 > x15.1)))
  (Option.bind (F137 r10 a2 x13.1) fun r18 =>
  some (8, (r18, a0.2)))
  (cond ((((decide (x13.2.2.1 ≥ 0)) && (x13.2.2.1 != a2)) || (!a3)))
  (some (7, (r10, a0.2)))
  (Option.bind (F136 (r10.set a1.toNat (x13.1, x13.2.1, a2, x13.2.2.2), a0.2) a2 a1) fun r24 =>
  some (0, (r24.1, r24.2)))))

/-- the model of (*beaconry/elect.Group).Beat -/
noncomputable def F110 (a0 : List (Int × Int × Int × BitVec 32)) (a1 : Int) (a2 : Int) : Option (Int × (List (Int × Int × Int × BitVec 32))) :=
  Option.bind (idx a0 a1) fun x3 =>
  cond ((x3.2.1 != 2))
  (some (5, a0))
  (Option.bind (idx a0 a2) fun x6 =>
  Option.bind (idx a0 a1) fun x8 =>
  cond ((decide (x6.1 > x8.1)))
  (Option.bind (idx a0 a2) fun x11 =>
  Option.bind (F137 a0 a1 x11.1) fun r13 =>
  some (8, r13))
  (Option.bind (idx a0 a1) fun x16 =>
  Option.bind (F137 a0 a2 x16.1) fun r18 =>
  Option.bind (idx r18 a2) fun x21 =>
  some (0, r18.set a2.toNat (x21.1, 0, x21.2.2.1, x21.2.2.2))))

/-- the model of (*beaconry/elect.Group).Crash -/
noncomputable def F111 (a0 : List (Int × Int × Int × BitVec 32)) (a1 : Int) : Option ((List (Int × Int × Int × BitVec 32))) :=
  Option.bind (idx a0 a1) fun xq3_10_1 =>
  Option.bind (idx (a0.set a1.toNat (xq3_10_1.1, 0, xq3_10_1.2.2.1, xq3_10_1.2.2.2)) a1) fun xq3_13_1 =>
  some ((a0.set a1.toNat (xq3_10_1.1, 0, xq3_10_1.2.2.1, xq3_10_1.2.2.2)).set a1.toNat (xq3_13_1.1, xq3_13_1.2.1, xq3_13_1.2.2.1, 0#32))

/-- the model of (*beaconry/elect.Group).do -/
noncomputable def F75 (a0 : (List (Int × Int × Int × BitVec 32)) × List (Int × Int)) (a1 : Int × Int × Int × Int) : Option (Int × ((List (Int × Int × Int × BitVec 32)) × List (Int × Int))) :=
  cond ((((!((a1.1 == 2) || (a1.1 == 3))) && (a1.1 != 1)) && (a1.1 != 6)))
  (some (6, (a0.1, a0.2)))
  (Option.bind (F107 a1.2.1 (a0.1.length)) fun r11 =>
  Option.bind (cond (r11) (some true) (Option.bind (cond (((a1.1 == 2) || (a1.1 == 3))) (Option.bind (F107 a1.2.2.1 (a0.1.length)) fun r19 =>
  some (r19 || (a1.2.1 == a1.2.2.1))) (some false)) fun b17 =>
  some b17)) fun b14 =>
  cond (b14)
  (some (2, (a0.1, a0.2)))
  (cond ((a1.1 == 1))
  (Option.bind (F108 (a0.1, a0.2) a1.2.1) fun (r24, r25) =>
  some (r24, (r25.1, r25.2)))
  (cond ((a1.1 == 2))
  (Option.bind (F109 (a0.1, a0.2) a1.2.1 a1.2.2.1 true) fun (r31, r32) =>
  some (r31, (r32.1, r32.2)))
  (cond ((a1.1 == 3))
  (Option.bind (F110 a0.1 a1.2.1 a1.2.2.1) fun (r38, r39) =>
  some (r38, (r39, a0.2)))
  (Option.bind (F111 a0.1 a1.2.1) fun r42 =>
  some (0, (r42, a0.2)))))))

noncomputable def F41_L1 (y40 : List (Int × Int × Int × BitVec 32)) : ((List Int) × (List Int) × (List Int) × Int) → Option (Ctl ((List Int) × (List Int) × (List Int) × Int) ((List Int) × (List Int) × (List Int)) (Unit)) := fun (y51, y54, y57, x58) =>
  cond ((decide (x58 < (y40.length : Int))))
  (Option.bind (idx y40 x58) fun x82 =>
  Option.bind (α := (List Int) × (List Int) × (List Int)) (Option.bind (appl 8 y51 ([x82.1] : List Int)) fun (yq85_5_1 : List Int) =>
  Option.bind (appl 8 y54 ([x82.2.1] : List Int)) fun (yq85_11_1 : List Int) =>
  Option.bind (appl 8 y57 ([x82.2.2.1] : List Int)) fun (yq85_17_1 : List Int) =>
  some (yq85_5_1, yq85_11_1, yq85_17_1))
  fun (y86, y88, y90) =>
  some (.nxt (y86, y88, y90, w64 (x58 + 1))))
  (some (.brk (y51, y54, y57)))
noncomputable def F41_L0 (a1 : List (Int × Int × Int × Int)) : ((List Int) × (List (Int × Int)) × (List (Int × Int × Int × BitVec 32)) × Int) → Option (Ctl ((List Int) × (List (Int × Int)) × (List (Int × Int × Int × BitVec 32)) × Int) ((List Int) × (List (Int × Int)) × (List (Int × Int × Int × BitVec 32))) (Unit)) := fun (y20, y23, y24, x25) =>
  cond ((decide (x25 < (a1.length : Int))))
  (Option.bind (idx a1 x25) fun x45 =>
  Option.bind (F75 (y24, y23) (x45.1, x45.2.1, x45.2.2.1, x45.2.2.2)) fun (rq48_4_1, rq48_4_2) =>
  Option.bind (appl 8 y20 ([rq48_4_1] : List Int)) fun (yq48_6_1 : List Int) =>
  some (.nxt (yq48_6_1, rq48_4_2.2, rq48_4_2.1, w64 (x25 + 1))))
  (some (.brk (y20, y23, y24)))
/-- the model of beaconry/elect.Play -/
noncomputable def F41 (a0 : Int) (a1 : List (Int × Int × Int × Int)) : Option (((List Int) × (List Int) × (List Int) × (List Int) × List (Int × Int)) × Int) :=
  cond ((((decide (a0 < 1)) || (decide (a0 > 6))) || (decide ((a1.length : Int) > 60))))
  (some (([], [], [], [], []), 1))
  (Option.bind (F74 a0) fun r10 =>
  Option.bind (whileM (F41_L0 a1) ([], r10.2, r10.1, 0)) fun o41 => Ctl.on o41 (fun (y36, y39, y40) =>
  Option.bind (whileM (F41_L1 y40) ([], [], [], 0)) fun o78 => Ctl.on o78 (fun (y71, y74, y77) =>
  some ((y36, y71, y74, y77, y39), 0)) (fun _ => none)) (fun _ => none))
end Go.Proofs.Ythfkdepcnhhepaa
