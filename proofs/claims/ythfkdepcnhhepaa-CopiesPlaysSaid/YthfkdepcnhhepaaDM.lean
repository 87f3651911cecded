/-
  Pure models of Go functions, written by a program (gen.py).
-/
import Derived.Test.YthfkdepcnhhepaaBk27
import Derived.Test.YthfkdepcnhhepaaEM
namespace Go.Proofs.Ythfkdepcnhhepaa
open Go Go.Bk
set_option linter.unusedVariables false
@[reducible] def cTii (x : Int × Int) : List Value := [I x.1, I x.2]
@[reducible] def cTiibiiu32iii (x : Int × Int × Bool × Int × (BitVec 32) × Int × Int × Int) : List Value := [I x.1, I x.2.1, .bool x.2.2.1, I x.2.2.2.1, U x.2.2.2.2.1, I x.2.2.2.2.2.1, I x.2.2.2.2.2.2.1, I x.2.2.2.2.2.2.2]
/-- the model of beaconry/copies.fresh -/
noncomputable def F99 (a0 : Int × Int × Int × Int) (a1 : Int) : Option ((Int × Int × Bool × Int × (BitVec 32) × Int × Int × Int)) :=
  some (1, a1, (decide (a0.2.2.2 ≥ 0)), mx a0.2.2.2 0, 0, 0, (0, 0))

/-- the model of beaconry/copies.above -/
noncomputable def F133 (a0 : Int) (a1 : Int) : Option (Int) :=
  Option.bind (α := Int) (cond ((decide ((w64 ((w64 (a0 - (a0.tmod 6))) + a1)) ≤ a0)))
  (some (w64 ((w64 ((w64 (a0 - (a0.tmod 6))) + a1)) + 6)))
  (some (w64 ((w64 (a0 - (a0.tmod 6))) + a1))))
  fun x1 =>
  some x1

/-- the model of (*beaconry/copies.all).reach -/
noncomputable def F100 (a0 : (List (Int × Int)) × (T6 (Int × Int × Bool × Int × (BitVec 32) × Int × Int × Int)) × List (Int × Int × Int × Bool × Int)) (a1 : Int) (a2 : Int) (a3 : Int) : Option (((List (Int × Int)) × (T6 (Int × Int × Bool × Int × (BitVec 32) × Int × Int × Int)) × List (Int × Int × Int × Bool × Int))) :=
  Option.bind (idx (tl6 a0.2.1) a1) fun x5 =>
  Option.bind (idx a0.1 a2) fun x7 =>
  Option.bind (shc a2) fun k9 =>
  Option.bind (as6 a0.2.1 a1 (x5.1, x5.2.1, x5.2.2.1, x5.2.2.2.1, (x5.2.2.2.2.1 ||| ((1#32) <<< k9)), x5.2.2.2.2.2.1, (x5.2.2.2.2.2.2.1, x5.2.2.2.2.2.2.2))) fun z11 =>
  Option.bind (idx (tl6 z11) a1) fun x13 =>
  Option.bind (idx (tl6 z11) a1) fun x15 =>
  Option.bind (as6 z11 a1 (x15.1, x15.2.1, x15.2.2.1, x15.2.2.2.1, x15.2.2.2.2.1, w64 (x13.2.2.2.2.2.1 + 1), (x15.2.2.2.2.2.2.1, x15.2.2.2.2.2.2.2))) fun z17 =>
  Option.bind (α := (List (Int × Int)) × (T6 (Int × Int × Bool × Int × (BitVec 32) × Int × Int × Int))) (Option.bind (idx (tl6 z17) a1) fun x22 =>
  Option.bind (cond ((x22.1 == 1)) (Option.bind (idx (tl6 z17) a1) fun x27 =>
  some (decide (x7.1 > x27.2.2.2.2.2.2.1))) (some false)) fun b25 =>
  cond (b25)
  (Option.bind (idx (tl6 z17) a1) fun x30 =>
  Option.bind (as6 z17 a1 (x30.1, x30.2.1, x30.2.2.1, x30.2.2.2.1, x30.2.2.2.2.1, x30.2.2.2.2.2.1, (x7.1, x7.2))) fun z32 =>
  some (a0.1, z32))
  (Option.bind (idx (tl6 z17) a1) fun x34 =>
  Option.bind (cond ((x34.1 == 2)) (Option.bind (idx (tl6 z17) a1) fun x39 =>
  some (decide (x39.2.2.2.2.2.2.1 > x7.1))) (some false)) fun b37 =>
  cond (b37)
  (Option.bind (idx (tl6 z17) a1) fun x42 =>
  some (a0.1.set a2.toNat (x42.2.2.2.2.2.2.1, x42.2.2.2.2.2.2.2), z17))
  (some (a0.1, z17))))
  fun (y19, z20) =>
  Option.bind (idx (tl6 z20) a1) fun x44 =>
  cond ((decide ((w64 (2 * x44.2.2.2.2.2.1)) ≤ (y19.length : Int))))
  (some (y19, z20, a0.2.2))
  (Option.bind (idx (tl6 z20) a1) fun x47 =>
  Option.bind (as6 z20 a1 (x47.1, x47.2.1, x47.2.2.1, x47.2.2.2.1, 0#32, x47.2.2.2.2.2.1, (x47.2.2.2.2.2.2.1, x47.2.2.2.2.2.2.2))) fun z49 =>
  Option.bind (idx (tl6 z49) a1) fun x51 =>
  Option.bind (as6 z49 a1 (x51.1, x51.2.1, x51.2.2.1, x51.2.2.2.1, x51.2.2.2.2.1, 0, (x51.2.2.2.2.2.2.1, x51.2.2.2.2.2.2.2))) fun z53 =>
  Option.bind (idx (tl6 z53) a1) fun x55 =>
  cond ((x55.1 == 1))
  (Option.bind (idx (tl6 z53) a1) fun x58 =>
  Option.bind (as6 z53 a1 (2, x58.2.1, x58.2.2.1, x58.2.2.2.1, x58.2.2.2.2.1, x58.2.2.2.2.2.1, (x58.2.2.2.2.2.2.1, x58.2.2.2.2.2.2.2))) fun z60 =>
  Option.bind (idx (tl6 z60) a1) fun x62 =>
  Option.bind (α := (T6 (Int × Int × Bool × Int × (BitVec 32) × Int × Int × Int))) (cond (x62.2.2.1)
  (Option.bind (idx (tl6 z60) a1) fun xq67_5_1 =>
  Option.bind (idx (tl6 z60) a1) fun xq67_11_1 =>
  Option.bind (F133 xq67_5_1.2.2.2.2.2.2.1 a1) fun rq67_7_1 =>
  Option.bind (idx (tl6 z60) a1) fun xq67_15_1 =>
  Option.bind (as6 z60 a1 (xq67_15_1.1, xq67_15_1.2.1, xq67_15_1.2.2.1, xq67_15_1.2.2.2.1, xq67_15_1.2.2.2.2.1, xq67_15_1.2.2.2.2.2.1, (rq67_7_1, xq67_11_1.2.2.2.1))) fun zq67_15_3 =>
  some zq67_15_3)
  (some z60))
  fun z64 =>
  some (y19, z64, a0.2.2))
  (Option.bind (idx (tl6 z53) a1) fun x68 =>
  Option.bind (as6 z53 a1 (0, x68.2.1, x68.2.2.1, x68.2.2.2.1, x68.2.2.2.2.1, x68.2.2.2.2.2.1, (x68.2.2.2.2.2.2.1, x68.2.2.2.2.2.2.2))) fun z70 =>
  Option.bind (idx (tl6 z70) a1) fun xq72_9_1 =>
  Option.bind (idx (tl6 z70) a1) fun xq72_14_1 =>
  Option.bind (idx (tl6 z70) a1) fun xq72_19_1 =>
  Option.bind (appl 40 a0.2.2 ([(a1, xq72_9_1.2.1, a3, xq72_14_1.2.2.1, xq72_19_1.2.2.2.2.2.2.2)] : List (Int × Int × Int × Bool × Int))) fun (yq72_22_1 : List (Int × Int × Int × Bool × Int)) =>
  some (y19, z70, yq72_22_1)))

/-- the model of (*beaconry/copies.all).do -/
noncomputable def F67 (a0 : (List (Int × Int)) × (BitVec 32) × (T6 (Int × Int × Bool × Int × (BitVec 32) × Int × Int × Int)) × List (Int × Int × Int × Bool × Int)) (a1 : Int × Int × Int × Int) (a2 : Int) : Option (Int × ((List (Int × Int)) × (BitVec 32) × (T6 (Int × Int × Bool × Int × (BitVec 32) × Int × Int × Int)) × List (Int × Int × Int × Bool × Int))) :=
  cond (((decide (a1.1 < 1)) || (decide (a1.1 > 3))))
  (some (6, (a0.1, a0.2.1, a0.2.2.1, a0.2.2.2)))
  (cond ((((a1.1 != 3) && (!((decide (a1.2.1 ≥ 0)) && (decide (a1.2.1 < 6))))) || ((a1.1 != 1) && (!((decide (a1.2.2.1 ≥ 0)) && (decide (a1.2.2.1 < (a0.1.length : Int))))))))
  (some (2, (a0.1, a0.2.1, a0.2.2.1, a0.2.2.2)))
  (cond ((a1.1 == 3))
  (Option.bind (shc a1.2.2.1) fun k15 =>
  cond ((((a0.2.1 >>> k15) &&& (1#32)) == (1#32)))
  (some (7, (a0.1, a0.2.1, a0.2.2.1, a0.2.2.2)))
  (Option.bind (shc a1.2.2.1) fun k18 =>
  some (0, (a0.1, (a0.2.1 ||| ((1#32) <<< k18)), a0.2.2.1, a0.2.2.2))))
  (Option.bind (idx (tl6 a0.2.2.1) a1.2.1) fun x20 =>
  cond (((a1.1 == 1) == (decide (x20.1 > 0))))
  (some (7, (a0.1, a0.2.1, a0.2.2.1, a0.2.2.2)))
  (cond ((a1.1 == 1))
  (Option.bind (F99 (a1.1, a1.2.1, a1.2.2.1, a1.2.2.2) a2) fun r24 =>
  Option.bind (as6 a0.2.2.1 a1.2.1 (r24.1, r24.2.1, r24.2.2.1, r24.2.2.2.1, r24.2.2.2.2.1, r24.2.2.2.2.2.1, (r24.2.2.2.2.2.2.1, r24.2.2.2.2.2.2.2))) fun z27 =>
  some (0, (a0.1, a0.2.1, z27, a0.2.2.2)))
  (Option.bind (shc a1.2.2.1) fun k29 =>
  cond ((((x20.2.2.2.2.1 >>> k29) &&& (1#32)) == (1#32)))
  (some (8, (a0.1, a0.2.1, a0.2.2.1, a0.2.2.2)))
  (Option.bind (shc a1.2.2.1) fun k32 =>
  cond ((((a0.2.1 >>> k32) &&& (1#32)) == (1#32)))
  (some (5, (a0.1, a0.2.1, a0.2.2.1, a0.2.2.2)))
  (Option.bind (F100 (a0.1, a0.2.2.1, a0.2.2.2) a1.2.1 a1.2.2.1 a2) fun r35 =>
  some (0, (r35.1, a0.2.1, r35.2.1, r35.2.2)))))))))

noncomputable def F33_L1 (y45 : List (Int × Int)) : ((List Int) × (List Int) × Int) → Option (Ctl ((List Int) × (List Int) × Int) ((List Int) × (List Int)) (Unit)) := fun (y62, y65, x66) =>
  cond ((decide (x66 < (y45.length : Int))))
  (Option.bind (idx y45 x66) fun x84 =>
  Option.bind (α := (List Int) × (List Int)) (Option.bind (appl 8 y62 ([x84.1] : List Int)) fun (yq87_5_1 : List Int) =>
  Option.bind (appl 8 y65 ([x84.2] : List Int)) fun (yq87_11_1 : List Int) =>
  some (yq87_5_1, yq87_11_1))
  fun (y88, y90) =>
  some (.nxt (y88, y90, w64 (x66 + 1))))
  (some (.brk (y62, y65)))
noncomputable def F33_L0 (a1 : List (Int × Int × Int × Int)) : ((List Int) × (List (Int × Int)) × (List (Int × Int × Int × Bool × Int)) × (T6 (Int × Int × Bool × Int × (BitVec 32) × Int × Int × Int)) × (BitVec 32) × Int) → Option (Ctl ((List Int) × (List (Int × Int)) × (List (Int × Int × Int × Bool × Int)) × (T6 (Int × Int × Bool × Int × (BitVec 32) × Int × Int × Int)) × (BitVec 32) × Int) ((List Int) × (List (Int × Int)) × (List (Int × Int × Int × Bool × Int)) × (T6 (Int × Int × Bool × Int × (BitVec 32) × Int × Int × Int)) × (BitVec 32)) (Unit)) := fun (y18, y21, y24, z25, x26, x27) =>
  cond ((decide (x27 < (a1.length : Int))))
  (Option.bind (idx a1 x27) fun x55 =>
  Option.bind (F67 (y21, x26, z25, y24) (x55.1, x55.2.1, x55.2.2.1, x55.2.2.2) x27) fun (rq58_5_1, rq58_5_2) =>
  Option.bind (appl 8 y18 ([rq58_5_1] : List Int)) fun (yq58_7_1 : List Int) =>
  some (.nxt (yq58_7_1, rq58_5_2.1, rq58_5_2.2.2.2, rq58_5_2.2.2.1, rq58_5_2.2.1, w64 (x27 + 1))))
  (some (.brk (y18, y21, y24, z25, x26)))
/-- the model of beaconry/copies.Play -/
noncomputable def F33 (a0 : Int) (a1 : List (Int × Int × Int × Int)) : Option (((List Int) × (List (Int × Int × Int × Bool × Int)) × (List Int) × List Int) × Int) :=
  cond ((((decide (a0 < 1)) || (decide (a0 > 6))) || (decide ((a1.length : Int) > 60))))
  (some (([], [], [], []), 1))
  (Option.bind (mkl a0 16 (0, 0)) fun (y9 : List (Int × Int)) =>
  Option.bind (whileM (F33_L0 a1) ([], y9, [], ((0, 0, false, 0, 0, 0, (0, 0)), (0, 0, false, 0, 0, 0, (0, 0)), (0, 0, false, 0, 0, 0, (0, 0)), (0, 0, false, 0, 0, 0, (0, 0)), (0, 0, false, 0, 0, 0, (0, 0)), (0, 0, false, 0, 0, 0, (0, 0))), 0, 0)) fun o51 => Ctl.on o51 (fun (y42, y45, y48, z49, x50) =>
  Option.bind (whileM (F33_L1 y45) ([], [], 0)) fun o80 => Ctl.on o80 (fun (y76, y79) =>
  some ((y42, y48, y76, y79), 0)) (fun _ => none)) (fun _ => none))

/-- the model of beaconry/beaconryref.PlayCheck -/
noncomputable def F21 (a0 : Int) (a1 : Int) : Option (Int) :=
  cond ((((decide (a0 < 1)) || (decide (a0 > 6))) || (decide (a1 > 60))))
  (some 1)
  (some 0)

noncomputable def F18_L0 (a0 : List Int) (a1 : List Int) : Int → Option (Ctl (Int) (Unit) (Bool)) := fun x2 =>
  cond ((decide (x2 < (a0.length : Int))))
  (Option.bind (idx a0 x2) fun x8 =>
  Option.bind (idx a1 x2) fun x10 =>
  cond ((x8 != x10))
  (some (.ret false))
  (some (.nxt (w64 (x2 + 1)))))
  (some (.brk ()))
/-- the model of beaconry/beaconryref.Codes -/
noncomputable def F18 (a0 : List Int) (a1 : List Int) : Option (Bool) :=
  cond (((a0.length : Int) != (a1.length : Int)))
  (some false)
  (Option.bind (whileM (F18_L0 a0 a1) 0) fun o4 => Ctl.on o4 (fun _ =>
  some true) (fun r => some r))

noncomputable def F35_L0 (a0 : List (Int × Int × Int × Bool × Int)) (a1 : List (Int × Int × Int × Bool × Int)) : Int → Option (Ctl (Int) (Unit) (Bool)) := fun x2 =>
  cond ((decide (x2 < (a0.length : Int))))
  (Option.bind (idx a0 x2) fun x8 =>
  Option.bind (idx a1 x2) fun x10 =>
  cond ((!((x8.1 == x10.1) && ((x8.2.1 == x10.2.1) && ((x8.2.2.1 == x10.2.2.1) && ((x8.2.2.2.1 == x10.2.2.2.1) && ((x8.2.2.2.2 == x10.2.2.2.2) && true)))))))
  (some (.ret false))
  (some (.nxt (w64 (x2 + 1)))))
  (some (.brk ()))
/-- the model of beaconry/beaconryref.Ops -/
noncomputable def F35 (a0 : List (Int × Int × Int × Bool × Int)) (a1 : List (Int × Int × Int × Bool × Int)) : Option (Bool) :=
  cond (((a0.length : Int) != (a1.length : Int)))
  (some false)
  (Option.bind (whileM (F35_L0 a0 a1) 0) fun o4 => Ctl.on o4 (fun _ =>
  some true) (fun r => some r))

noncomputable def F25_L0 (a0 : List Int) (a1 : List Int) : Int → Option (Ctl (Int) (Unit) (Bool)) := fun x2 =>
  cond ((decide (x2 < (a0.length : Int))))
  (Option.bind (idx a0 x2) fun x8 =>
  Option.bind (idx a1 x2) fun x10 =>
  cond ((x8 != x10))
  (some (.ret false))
  (some (.nxt (w64 (x2 + 1)))))
  (some (.brk ()))
/-- the model of beaconry/beaconryref.Ints -/
noncomputable def F25 (a0 : List Int) (a1 : List Int) : Option (Bool) :=
  cond (((a0.length : Int) != (a1.length : Int)))
  (some false)
  (Option.bind (whileM (F25_L0 a0 a1) 0) fun o4 => Ctl.on o4 (fun _ =>
  some true) (fun r => some r))

/-- the model of beaconry/beaconrylaw.CopiesPlays -/
noncomputable def F9 (a0 : Int) (a1 : List (Int × Int × Int × Int)) : Option (Bool) :=
  Option.bind (F33 a0 a1) fun (r1, r2) =>
  Option.bind (F21 a0 (a1.length : Int)) fun r17 =>
  Option.bind (α := (List Int) × (List (Int × Int × Int × Bool × Int)) × (List Int) × (List Int)) (cond ((r17 == 0))
  (Option.bind (F34 a0 a1) fun r34 =>
  some (r34.1, r34.2.1, r34.2.2.1, r34.2.2.2))
  (some ([], [], [], [])))
  fun (y22, y25, y28, y31) =>
  Option.bind (cond ((r2 == r17)) (Option.bind (F18 r1.1 y22) fun r51 =>
  some r51) (some false)) fun b49 =>
  Option.bind (cond (b49) (Option.bind (F35 r1.2.1 y25) fun r56 =>
  some r56) (some false)) fun b54 =>
  Option.bind (cond (b54) (Option.bind (F25 r1.2.2.1 y28) fun r61 =>
  some r61) (some false)) fun b59 =>
  Option.bind (cond (b59) (Option.bind (F25 r1.2.2.2 y31) fun r66 =>
  some r66) (some false)) fun b64 =>
  some b64
end Go.Proofs.Ythfkdepcnhhepaa
