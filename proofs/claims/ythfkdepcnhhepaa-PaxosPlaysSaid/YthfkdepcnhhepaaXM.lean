/-
  Pure models of Go functions, written by a program (gen.py).
-/
import Derived.Test.YthfkdepcnhhepaaBk26
namespace Go.Proofs.Ythfkdepcnhhepaa
open Go Go.Bk
set_option linter.unusedVariables false
@[reducible] def cTiiii (x : Int × Int × Int × Int) : List Value := [I x.1, I x.2.1, I x.2.2.1, I x.2.2.2]
@[reducible] def cTiu32iu32iii (x : (BitVec 32) × (BitVec 32) × Int × Int × Int) : List Value := [U x.1, U x.2.1, I x.2.2.1, I x.2.2.2.1, I x.2.2.2.2]
/-- the model of math/bits.OnesCount32 -/
noncomputable def F129 (a0 : BitVec 32) : Option (Int) :=
  Option.bind (tb ((a0 >>> (24 : Int).toNat).toNat : Int)) fun x1 =>
  Option.bind (tb (((a0 >>> (16 : Int).toNat) &&& (255#32)).toNat : Int)) fun x3 =>
  Option.bind (tb (((a0 >>> (8 : Int).toNat) &&& (255#32)).toNat : Int)) fun x5 =>
  Option.bind (tb ((a0 &&& (255#32)).toNat : Int)) fun x7 =>
  some (w64 (w8 ((w8 ((w8 (x1 + x3)) + x5)) + x7)))

/-- the model of (*beaconry/paxos.all).most -/
noncomputable def F91 (a0 : Int) (a1 : BitVec 32) : Option (Bool × Int) :=
  Option.bind (F129 a1) fun r1 =>
  some ((decide ((w64 (2 * r1)) > a0)), a0)

/-- the model of (*beaconry/paxos.all).do -/
noncomputable def F58 (a0 : Int × (T10 ((BitVec 32) × (BitVec 32) × Int × Int × Int)) × Int × (List Int) × (List Int) × List Int) (a1 : Int × Int × Int × Int) : Option (Int × (Int × (T10 ((BitVec 32) × (BitVec 32) × Int × Int × Int)) × Int × (List Int) × (List Int) × List Int)) :=
  cond (((decide (a1.1 < 1)) || (decide (a1.1 > 3))))
  (some (6, (a0.1, a0.2.1, (a0.2.2.1, a0.2.2.2.1, a0.2.2.2.2.1, a0.2.2.2.2.2))))
  (cond (((a1.1 != 2) && ((decide (a1.2.1 < 0)) || (decide (a1.2.1 ≥ a0.1)))))
  (some (2, (a0.1, a0.2.1, (a0.2.2.1, a0.2.2.2.1, a0.2.2.2.2.1, a0.2.2.2.2.2))))
  (cond (((decide (a1.2.2.2 < 1)) || (decide (a1.2.2.2 > 9))))
  (some (4, (a0.1, a0.2.1, (a0.2.2.1, a0.2.2.2.1, a0.2.2.2.2.1, a0.2.2.2.2.2))))
  (Option.bind (idx (tl10 a0.2.1) a1.2.2.2) fun x15 =>
  cond ((a1.1 == 1))
  (Option.bind (idx a0.2.2.2.1 a1.2.1) fun x18 =>
  cond ((decide (x18 ≥ a1.2.2.2)))
  (some (8, (a0.1, a0.2.1, (a0.2.2.1, a0.2.2.2.1, a0.2.2.2.2.1, a0.2.2.2.2.2))))
  (Option.bind (idx a0.2.2.2.1 a1.2.1) fun x21 =>
  Option.bind (shc a1.2.1) fun k23 =>
  Option.bind (as10 a0.2.1 a1.2.2.2 ((x15.1 ||| ((1#32) <<< k23)), x15.2.1, x15.2.2.1, x15.2.2.2.1, x15.2.2.2.2)) fun z25 =>
  Option.bind (idx a0.2.2.2.2.1 a1.2.1) fun x27 =>
  Option.bind (idx (tl10 z25) a1.2.2.2) fun x29 =>
  Option.bind (α := (T10 ((BitVec 32) × (BitVec 32) × Int × Int × Int))) (cond ((decide (x27 > x29.2.2.1)))
  (Option.bind (idx a0.2.2.2.2.1 a1.2.1) fun xq34_8_1 =>
  Option.bind (idx a0.2.2.2.2.2 a1.2.1) fun xq34_16_1 =>
  Option.bind (idx (tl10 z25) a1.2.2.2) fun xq34_20_1 =>
  Option.bind (as10 z25 a1.2.2.2 (xq34_20_1.1, xq34_20_1.2.1, xq34_8_1, xq34_20_1.2.2.2.1, xq34_20_1.2.2.2.2)) fun zq34_20_3 =>
  Option.bind (idx (tl10 zq34_20_3) a1.2.2.2) fun xq34_23_1 =>
  Option.bind (as10 zq34_20_3 a1.2.2.2 (xq34_23_1.1, xq34_23_1.2.1, xq34_23_1.2.2.1, xq34_16_1, xq34_23_1.2.2.2.2)) fun zq34_23_3 =>
  some zq34_23_3)
  (some z25))
  fun z31 =>
  some (0, (a0.1, z31, (a0.2.2.1, a0.2.2.2.1.set a1.2.1.toNat a1.2.2.2, a0.2.2.2.2.1, a0.2.2.2.2.2)))))
  (cond ((a1.1 == 2))
  (cond ((decide (x15.2.2.2.2 > 0)))
  (some (7, (a0.1, a0.2.1, (a0.2.2.1, a0.2.2.2.1, a0.2.2.2.2.1, a0.2.2.2.2.2))))
  (Option.bind (F91 a0.1 x15.1) fun (r37, r38) =>
  cond ((!r37))
  (some (5, (r38, a0.2.1, (a0.2.2.1, a0.2.2.2.1, a0.2.2.2.2.1, a0.2.2.2.2.2))))
  (Option.bind (as10 a0.2.1 a1.2.2.2 (x15.1, x15.2.1, x15.2.2.1, x15.2.2.2.1, a1.2.2.2)) fun z41 =>
  Option.bind (idx (tl10 z41) a1.2.2.2) fun x43 =>
  Option.bind (α := (T10 ((BitVec 32) × (BitVec 32) × Int × Int × Int))) (cond ((decide (x43.2.2.1 > 0)))
  (Option.bind (idx (tl10 z41) a1.2.2.2) fun x48 =>
  Option.bind (idx (tl10 z41) a1.2.2.2) fun x50 =>
  Option.bind (as10 z41 a1.2.2.2 (x50.1, x50.2.1, x50.2.2.1, x50.2.2.2.1, x48.2.2.2.1)) fun z52 =>
  some z52)
  (some z41))
  fun z45 =>
  some (0, (r38, z45, (a0.2.2.1, a0.2.2.2.1, a0.2.2.2.2.1, a0.2.2.2.2.2))))))
  (cond ((a1.1 == 3))
  (cond ((x15.2.2.2.2 == 0))
  (some (5, (a0.1, a0.2.1, (a0.2.2.1, a0.2.2.2.1, a0.2.2.2.2.1, a0.2.2.2.2.2))))
  (Option.bind (idx a0.2.2.2.1 a1.2.1) fun x56 =>
  cond ((decide (x56 > a1.2.2.2)))
  (some (8, (a0.1, a0.2.1, (a0.2.2.1, a0.2.2.2.1, a0.2.2.2.2.1, a0.2.2.2.2.2))))
  (Option.bind (α := (List Int) × (List Int) × (List Int)) (Option.bind (idx a0.2.2.2.1 a1.2.1) fun xq59_26_1 =>
  Option.bind (idx a0.2.2.2.2.1 a1.2.1) fun xq59_28_1 =>
  Option.bind (idx a0.2.2.2.2.2 a1.2.1) fun xq59_30_1 =>
  some (a0.2.2.2.1.set a1.2.1.toNat a1.2.2.2, a0.2.2.2.2.1.set a1.2.1.toNat a1.2.2.2, a0.2.2.2.2.2.set a1.2.1.toNat x15.2.2.2.2))
  fun (y60, y61, y62) =>
  Option.bind (idx (tl10 a0.2.1) a1.2.2.2) fun x64 =>
  Option.bind (shc a1.2.1) fun k66 =>
  Option.bind (idx (tl10 a0.2.1) a1.2.2.2) fun x68 =>
  Option.bind (as10 a0.2.1 a1.2.2.2 (x68.1, (x64.2.1 ||| ((1#32) <<< k66)), x68.2.2.1, x68.2.2.2.1, x68.2.2.2.2)) fun z70 =>
  Option.bind (idx (tl10 z70) a1.2.2.2) fun x72 =>
  Option.bind (F91 a0.1 x72.2.1) fun (r74, r75) =>
  Option.bind (α := Int) (cond (r74)
  (Option.bind (idx (tl10 z70) a1.2.2.2) fun x80 =>
  some x80.2.2.2.2)
  (some a0.2.2.1))
  fun x77 =>
  some (0, (r75, z70, (x77, y60, y61, y62))))))
  (some (0, (a0.1, a0.2.1, (a0.2.2.1, a0.2.2.2.1, a0.2.2.2.2.1, a0.2.2.2.2.2)))))))))

noncomputable def F23_L0 (a1 : List (Int × Int × Int × Int)) : ((List Int) × (List Int) × (List Int) × (List Int) × (T10 ((BitVec 32) × (BitVec 32) × Int × Int × Int)) × Int × Int × Int) → Option (Ctl ((List Int) × (List Int) × (List Int) × (List Int) × (T10 ((BitVec 32) × (BitVec 32) × Int × Int × Int)) × Int × Int × Int) ((List Int) × (List Int) × (List Int) × (List Int) × (T10 ((BitVec 32) × (BitVec 32) × Int × Int × Int)) × Int × Int) (Unit)) := fun (y22, y25, y28, y31, z32, x33, x34, x35) =>
  cond ((decide (x35 < (a1.length : Int))))
  (Option.bind (idx a1 x35) fun x71 =>
  Option.bind (α := (List Int) × (List Int) × (List Int) × (List Int) × (T10 ((BitVec 32) × (BitVec 32) × Int × Int × Int)) × Int × Int) (Option.bind (F58 (x33, z32, (x34, y25, y28, y31)) (x71.1, x71.2.1, x71.2.2.1, x71.2.2.2)) fun (rq74_8_1, rq74_8_2) =>
  Option.bind (appl 8 y22 ([rq74_8_1] : List Int)) fun (yq74_10_1 : List Int) =>
  some (rq74_8_2.2.2.2.1, rq74_8_2.2.2.2.2.1, rq74_8_2.2.2.2.2.2, yq74_10_1, rq74_8_2.2.1, rq74_8_2.1, rq74_8_2.2.2.1))
  fun (y77, y80, y83, y84, z86, x87, x88) =>
  some (.nxt (y84, y77, y80, y83, z86, x87, x88, w64 (x35 + 1))))
  (some (.brk (y22, y25, y28, y31, z32, x33, x34)))
/-- the model of beaconry/paxos.Play -/
noncomputable def F23 (a0 : Int) (a1 : List (Int × Int × Int × Int)) : Option (((List Int) × Int × (List Int) × (List Int) × List Int) × Int) :=
  cond ((((decide (a0 < 1)) || (decide (a0 > 6))) || (decide ((a1.length : Int) > 60))))
  (some (([], 0, [], [], []), 1))
  (Option.bind (α := (List Int) × (List Int) × (List Int)) (Option.bind (mkl a0 8 0) fun (yq9_2_1 : List Int) =>
  Option.bind (mkl a0 8 0) fun (yq9_4_1 : List Int) =>
  Option.bind (mkl a0 8 0) fun (yq9_6_1 : List Int) =>
  some (yq9_2_1, yq9_4_1, yq9_6_1))
  fun (y12, y15, y18) =>
  Option.bind (whileM (F23_L0 a1) ([], y12, y15, y18, ((0, 0, 0, 0, 0), (0, 0, 0, 0, 0), (0, 0, 0, 0, 0), (0, 0, 0, 0, 0), (0, 0, 0, 0, 0), (0, 0, 0, 0, 0), (0, 0, 0, 0, 0), (0, 0, 0, 0, 0), (0, 0, 0, 0, 0), (0, 0, 0, 0, 0)), a0, (-1), 0)) fun o67 => Ctl.on o67 (fun (y54, y57, y60, y63, z64, x65, x66) =>
  some ((y54, x66, y57, y60, y63), 0)) (fun _ => none))
end Go.Proofs.Ythfkdepcnhhepaa
