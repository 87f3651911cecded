/-
  Pure models of Go functions, written by a program (gen.py).
-/
import Derived.Test.YtdjmlbjkendobaaBk14
namespace Go.Proofs.Ytdjmlbjkendobaa
open Go Go.Bk
set_option linter.unusedVariables false
@[reducible] def cTii (x : Int × Int) : List Value := [I x.1, I x.2]
noncomputable def F89_L0 (a0 : List (Int × Int)) (a1 : Int × Int) : Int → Option (Ctl (Int) (Unit) (Int)) := fun x2 =>
  cond ((decide (x2 < (a0.length : Int))))
  (Option.bind (idx a0 x2) fun x8 =>
  cond ((a1.1 == x8.1 && a1.2 == x8.2))
  (some (.ret x2))
  (some (.nxt (w64 (x2 + 1)))))
  (some (.brk ()))
/-- the model of slices.Index[[][2]int,[2]int] -/
noncomputable def F89 (a0 : List (Int × Int)) (a1 : Int × Int) : Option (Int) :=
  Option.bind (whileM (F89_L0 a0 a1) 0) fun o4 => Ctl.on o4 (fun _ =>
  some (-1)) (fun r => some r)

/-- the model of slices.Contains[[][2]int,[2]int] -/
noncomputable def F77 (a0 : List (Int × Int)) (a1 : Int × Int) : Option (Bool) :=
  Option.bind (F89 a0 (a1.1, a1.2)) fun r2 =>
  some (decide (r2 ≥ 0))

noncomputable def F49_L1 (a1 : List (Int × Int)) : Int → Option (Ctl (Int) (Unit) (Int)) := fun x16 =>
  cond ((decide (x16 < (a1.length : Int))))
  (Option.bind (idx a1 x16) fun x22 =>
  Option.bind (slI a1 0 x16) fun y25 =>
  Option.bind (F77 y25 (x22.1, x22.2)) fun r28 =>
  Option.bind (cond (r28) (some true) (Option.bind (slI a1 0 x16) fun y33 =>
  Option.bind (F77 y33 (x22.2, x22.1)) fun r36 =>
  some r36)) fun b31 =>
  cond (b31)
  (some (.ret 3))
  (some (.nxt (w64 (x16 + 1)))))
  (some (.brk ()))
noncomputable def F49_L0 (a0 : Int) (a1 : List (Int × Int)) : Int → Option (Ctl (Int) (Unit) (Int)) := fun x4 =>
  cond ((decide (x4 < (a1.length : Int))))
  (Option.bind (idx a1 x4) fun x10 =>
  cond ((((decide ((mn x10.1 x10.2) < 0)) || (decide ((mx x10.1 x10.2) ≥ a0))) || (x10.1 == x10.2)))
  (some (.ret 2))
  (some (.nxt (w64 (x4 + 1)))))
  (some (.brk ()))
/-- the model of beaconry/fork.Check -/
noncomputable def F49 (a0 : Int) (a1 : List (Int × Int)) : Option (Int) :=
  cond ((((decide (a0 < 1)) || (decide (a0 > 6))) || (decide ((a1.length : Int) > 15))))
  (some 1)
  (Option.bind (whileM (F49_L0 a0 a1) 0) fun o6 => Ctl.on o6 (fun _ =>
  Option.bind (whileM (F49_L1 a1) 0) fun o18 => Ctl.on o18 (fun _ =>
  some 0) (fun r => some r)) (fun r => some r))

noncomputable def F50_L0 (a1 : List (Int × Int)) : ((BitVec 32) × Int) → Option (Ctl ((BitVec 32) × Int) ((BitVec 32)) (Unit)) := fun (x3, x4) =>
  cond ((decide (x4 < (a1.length : Int))))
  (Option.bind (idx a1 x4) fun x12 =>
  Option.bind (shc x12.1) fun k15 =>
  some (.nxt ((x3 &&& ~~~((1#32) <<< k15)), w64 (x4 + 1))))
  (some (.brk x3))
/-- the model of beaconry/fork.low -/
noncomputable def F50 (a0 : Int) (a1 : List (Int × Int)) : Option ((BitVec 32)) :=
  Option.bind (shc a0) fun k1 =>
  Option.bind (whileM (F50_L0 a1) ((((1#32) <<< k1) - (1#32)), 0)) fun o8 => Ctl.on o8 (fun x7 =>
  some x7) (fun _ => none)

/-- the model of beaconry/fork.Low -/
noncomputable def F19 (a0 : Int) (a1 : List (Int × Int)) : Option ((BitVec 32) × Int) :=
  Option.bind (F49 a0 a1) fun r1 =>
  cond ((r1 != 0))
  (some (0#32, r1))
  (Option.bind (F50 a0 a1) fun r4 =>
  some (r4, 0))

noncomputable def F42_L0 (a0 : Int) (a1 : List (Int × Int)) : Int → Option (Ctl (Int) (Unit) (Int)) := fun x4 =>
  cond ((decide (x4 < (a1.length : Int))))
  (Option.bind (idx a1 x4) fun x10 =>
  cond ((((((decide (x10.1 < 0)) || (decide (x10.1 ≥ a0))) || (decide (x10.2 < 0))) || (decide (x10.2 ≥ a0))) || (x10.1 == x10.2)))
  (some (.ret 2))
  (some (.nxt (w64 (x4 + 1)))))
  (some (.brk ()))
/-- the model of beaconry/beaconryref.LinksCheck -/
noncomputable def F42 (a0 : Int) (a1 : List (Int × Int)) : Option (Int) :=
  cond ((((decide (a0 < 1)) || (decide (a0 > 6))) || (decide ((a1.length : Int) > 15))))
  (some 1)
  (Option.bind (whileM (F42_L0 a0 a1) 0) fun o6 => Ctl.on o6 (fun _ =>
  some 0) (fun r => some r))

noncomputable def F43_L1 (x7 : Int × Int) (y10 : List (Int × Int)) : Int → Option (Ctl (Int) (Unit) (Bool)) := fun x13 =>
  cond ((decide (x13 < (y10.length : Int))))
  (Option.bind (idx y10 x13) fun x19 =>
  cond ((((x7.1 == x19.1) && (x7.2 == x19.2)) || ((x7.1 == x19.2) && (x7.2 == x19.1))))
  (some (.ret true))
  (some (.nxt (w64 (x13 + 1)))))
  (some (.brk ()))
noncomputable def F43_L0 (a0 : List (Int × Int)) : Int → Option (Ctl (Int) (Unit) (Bool)) := fun x1 =>
  cond ((decide (x1 < (a0.length : Int))))
  (Option.bind (idx a0 x1) fun x7 =>
  Option.bind (slI a0 0 x1) fun y10 =>
  Option.bind (whileM (F43_L1 x7 y10) 0) fun o15 => Ctl.on o15 (fun _ =>
  some (.nxt (w64 (x1 + 1)))) (fun r => some (.ret r)))
  (some (.brk ()))
/-- the model of beaconry/beaconryref.Twice -/
noncomputable def F43 (a0 : List (Int × Int)) : Option (Bool) :=
  Option.bind (whileM (F43_L0 a0) 0) fun o3 => Ctl.on o3 (fun _ =>
  some false) (fun r => some r)

/-- the model of beaconry/beaconrylaw.forkCode -/
noncomputable def F20 (a0 : Int) (a1 : List (Int × Int)) : Option (Int) :=
  Option.bind (F42 a0 a1) fun r1 =>
  Option.bind (cond ((r1 == 0)) (Option.bind (F43 a1) fun r6 =>
  some r6) (some false)) fun b4 =>
  Option.bind (α := Int) (cond (b4)
  (some 3)
  (some r1))
  fun x8 =>
  some x8

noncomputable def F21_L1 (a1 : List (Int × Int)) (x2 : Int) : (Bool × Int) → Option (Ctl (Bool × Int) (Bool) (Unit)) := fun (b12, x13) =>
  cond ((decide (x13 < (a1.length : Int))))
  (Option.bind (idx a1 x13) fun x21 =>
  some (.nxt ((b12 && (x21.1 != x2)), w64 (x13 + 1))))
  (some (.brk b12))
noncomputable def F21_L0 (a0 : Int) (a1 : List (Int × Int)) : ((BitVec 32) × Int) → Option (Ctl ((BitVec 32) × Int) ((BitVec 32)) (Unit)) := fun (x1, x2) =>
  cond ((decide (x2 < a0)))
  (Option.bind (α := (BitVec 32)) (Option.bind (whileM (F21_L1 a1 x2) (true, 0)) fun o17 => Ctl.on o17 (fun b16 =>
  cond (b16)
  (some (x1 + ((1#32) <<< (u64 x2).toNat)))
  (some x1)) (fun _ => none))
  fun x10 =>
  some (.nxt (x10, w64 (x2 + 1))))
  (some (.brk x1))
/-- the model of beaconry/beaconryref.Low -/
noncomputable def F21 (a0 : Int) (a1 : List (Int × Int)) : Option ((BitVec 32)) :=
  Option.bind (whileM (F21_L0 a0 a1) (0#32, 0)) fun o6 => Ctl.on o6 (fun x5 =>
  some x5) (fun _ => none)

/-- the model of beaconry/beaconrylaw.ForkLows -/
noncomputable def F5 (a0 : Int) (a1 : List (Int × Int)) : Option (Bool) :=
  Option.bind (F19 a0 a1) fun (r1, r2) =>
  Option.bind (F20 a0 a1) fun r4 =>
  cond ((r4 != 0))
  (some ((r2 == r4) && (r1 == (0#32))))
  (Option.bind (cond ((r2 == 0)) (Option.bind (F21 a0 a1) fun r11 =>
  some (r1 == r11)) (some false)) fun b9 =>
  some b9)

noncomputable def F91_L0 (a0 : List Int) (a1 : Int) : Int → Option (Ctl (Int) (Unit) (Int)) := fun x1 =>
  cond ((decide (x1 < (a0.length : Int))))
  (Option.bind (idx a0 x1) fun x7 =>
  cond ((a1 == x7))
  (some (.ret x1))
  (some (.nxt (w64 (x1 + 1)))))
  (some (.brk ()))
/-- the model of slices.Index[[]int,int] -/
noncomputable def F91 (a0 : List Int) (a1 : Int) : Option (Int) :=
  Option.bind (whileM (F91_L0 a0 a1) 0) fun o3 => Ctl.on o3 (fun _ =>
  some (-1)) (fun r => some r)

/-- the model of slices.Contains[[]int,int] -/
noncomputable def F80 (a0 : List Int) (a1 : Int) : Option (Bool) :=
  Option.bind (F91 a0 a1) fun r1 =>
  some (decide (r1 ≥ 0))

noncomputable def F55_L0 (a0 : List Int) : Int → Option (Ctl (Int) (Unit) (Int)) := fun x3 =>
  cond ((decide (x3 < (a0.length : Int))))
  (Option.bind (idx a0 x3) fun x9 =>
  Option.bind (slI a0 0 x3) fun y11 =>
  Option.bind (F80 y11 x9) fun r14 =>
  cond (r14)
  (some (.ret 3))
  (some (.nxt (w64 (x3 + 1)))))
  (some (.brk ()))
/-- the model of beaconry/ring.wrong -/
noncomputable def F55 (a0 : List Int) : Option (Int) :=
  cond (((decide ((a0.length : Int) < 1)) || (decide ((a0.length : Int) > 12))))
  (some 1)
  (Option.bind (whileM (F55_L0 a0) 0) fun o5 => Ctl.on o5 (fun _ =>
  some 0) (fun r => some r))

noncomputable def F56_L0 (a0 : List Int) : (Int × Int) → Option (Ctl (Int × Int) (Int) (Unit)) := fun (x4, x5) =>
  cond ((decide (x5 < (a0.length : Int))))
  (Option.bind (idx a0 x5) fun x13 =>
  some (.nxt (mx x4 x13, w64 (x5 + 1))))
  (some (.brk x4))
/-- the model of slices.Max[[]int,int] -/
noncomputable def F56 (a0 : List Int) : Option (Int) :=
  cond ((decide ((a0.length : Int) < 1)))
  (none)
  (Option.bind (idx a0 0) fun x2 =>
  Option.bind (whileM (F56_L0 a0) (x2, 1)) fun o9 => Ctl.on o9 (fun x8 =>
  some x8) (fun _ => none))

noncomputable def F57_L0 (a0 : List Int) : ((List Int) × Int) → Option (Ctl ((List Int) × Int) ((List Int)) (Unit)) := fun (y4, x5) =>
  cond ((decide (x5 < (a0.length : Int))))
  (Option.bind (α := (List Int)) (Option.bind (nz (a0.length : Int)) fun _ =>
  Option.bind (idx a0 ((w64 ((w64 (x5 + (a0.length : Int))) - 2)).tmod (a0.length : Int))) fun x22 =>
  Option.bind (nz (a0.length : Int)) fun _ =>
  Option.bind (idx a0 ((w64 ((w64 (x5 + (a0.length : Int))) - 1)).tmod (a0.length : Int))) fun x26 =>
  Option.bind (idx a0 x5) fun x28 =>
  cond (((decide (x26 > x22)) && (decide (x26 > x28))))
  (Option.bind (appl 8 y4 ([x26] : List Int)) fun (y34 : List Int) =>
  some y34)
  (some y4))
  fun y17 =>
  some (.nxt (y17, w64 (x5 + 1))))
  (some (.brk y4))
/-- the model of beaconry/ring.half -/
noncomputable def F57 (a0 : List Int) : Option ((List Int)) :=
  Option.bind (whileM (F57_L0 a0) ([], 0)) fun o13 => Ctl.on o13 (fun y12 =>
  some y12) (fun _ => none)

/-- the model of beaconry/ring.Half -/
noncomputable def F30 (a0 : List Int) : Option ((List Int) × Int) :=
  Option.bind (F55 a0) fun r2 =>
  cond ((r2 != 0))
  (some ([], r2))
  (cond ((decide ((a0.length : Int) < 3)))
  (Option.bind (F56 a0) fun r6 =>
  some (([r6] : List Int), 0))
  (Option.bind (F57 a0) fun r10 =>
  some (r10, 0)))

noncomputable def F31_L1 (a0 : List Int) (x3 : Int) : Int → Option (Ctl (Int) (Unit) (Int)) := fun x9 =>
  cond ((decide (x9 < x3)))
  (Option.bind (idx a0 x3) fun x15 =>
  Option.bind (idx a0 x9) fun x17 =>
  cond ((x15 == x17))
  (some (.ret 3))
  (some (.nxt (w64 (x9 + 1)))))
  (some (.brk ()))
noncomputable def F31_L0 (a0 : List Int) : Int → Option (Ctl (Int) (Unit) (Int)) := fun x3 =>
  cond ((decide (x3 < (a0.length : Int))))
  (Option.bind (whileM (F31_L1 a0 x3) 0) fun o11 => Ctl.on o11 (fun _ =>
  some (.nxt (w64 (x3 + 1)))) (fun r => some (.ret r)))
  (some (.brk ()))
/-- the model of beaconry/beaconryref.RingCheck -/
noncomputable def F31 (a0 : List Int) : Option (Int) :=
  cond (((decide ((a0.length : Int) < 1)) || (decide ((a0.length : Int) > 12))))
  (some 1)
  (Option.bind (whileM (F31_L0 a0) 0) fun o5 => Ctl.on o5 (fun _ =>
  some 0) (fun r => some r))

noncomputable def F32_L0 (a0 : List Int) : ((List Int) × Int) → Option (Ctl ((List Int) × Int) ((List Int)) (Unit)) := fun (y23, x24) =>
  cond ((decide (x24 < (a0.length : Int))))
  (Option.bind (α := (List Int)) (Option.bind (nz (a0.length : Int)) fun _ =>
  Option.bind (idx a0 ((w64 ((w64 (x24 + (a0.length : Int))) - 1)).tmod (a0.length : Int))) fun x41 =>
  Option.bind (idx a0 x24) fun x43 =>
  Option.bind (cond ((decide (x41 > x43))) (Option.bind (nz (a0.length : Int)) fun _ =>
  Option.bind (idx a0 ((w64 ((w64 (x24 + (a0.length : Int))) - 2)).tmod (a0.length : Int))) fun x50 =>
  some (decide (x41 > x50))) (some false)) fun b46 =>
  cond (b46)
  (Option.bind (appl 8 y23 ([x41] : List Int)) fun (y55 : List Int) =>
  some y55)
  (some y23))
  fun y36 =>
  some (.nxt (y36, w64 (x24 + 1))))
  (some (.brk y23))
/-- the model of beaconry/beaconryref.Half -/
noncomputable def F32 (a0 : List Int) : Option ((List Int)) :=
  cond (((a0.length : Int) == 1))
  (Option.bind (idx a0 0) fun x3 =>
  some ([x3] : List Int))
  (cond (((a0.length : Int) == 2))
  (Option.bind (idx a0 0) fun x8 =>
  Option.bind (idx a0 1) fun x10 =>
  cond ((decide (x8 > x10)))
  (Option.bind (idx a0 0) fun x13 =>
  some ([x13] : List Int))
  (Option.bind (idx a0 1) fun x17 =>
  some ([x17] : List Int)))
  (Option.bind (whileM (F32_L0 a0) ([], 0)) fun o32 => Ctl.on o32 (fun y31 =>
  some y31) (fun _ => none)))

noncomputable def F29_L0 (a0 : List Int) (a1 : List Int) : Int → Option (Ctl (Int) (Unit) (Bool)) := fun x2 =>
  cond ((decide (x2 < (a0.length : Int))))
  (Option.bind (idx a0 x2) fun x8 =>
  Option.bind (idx a1 x2) fun x10 =>
  cond ((x8 != x10))
  (some (.ret false))
  (some (.nxt (w64 (x2 + 1)))))
  (some (.brk ()))
/-- the model of beaconry/beaconryref.Ints -/
noncomputable def F29 (a0 : List Int) (a1 : List Int) : Option (Bool) :=
  cond (((a0.length : Int) != (a1.length : Int)))
  (some false)
  (Option.bind (whileM (F29_L0 a0 a1) 0) fun o4 => Ctl.on o4 (fun _ =>
  some true) (fun r => some r))

/-- the model of beaconry/beaconrylaw.RingHalf -/
noncomputable def F9 (a0 : List Int) : Option (Bool) :=
  Option.bind (F30 a0) fun (r1, r2) =>
  Option.bind (F31 a0) fun r6 =>
  cond ((r6 != 0))
  (some ((r2 == r6) && ((r1.length : Int) == 0)))
  (Option.bind (cond ((r2 == 0)) (Option.bind (F32 a0) fun r13 =>
  Option.bind (F29 r1 r13) fun r17 =>
  some r17) (some false)) fun b11 =>
  some b11)

/-- the model of slices.Clone[[][2]int,[2]int] -/
noncomputable def F54 (a0 : List (Int × Int)) : Option (List (Int × Int)) := appl 16 ([] : List (Int × Int)) a0

noncomputable def F51_L0 (a1 : BitVec 32) (r2 : (List (Int × Int))) : ((List (Int × Int)) × Int) → Option (Ctl ((List (Int × Int)) × Int) ((List (Int × Int))) (Unit)) := fun (y6, x8) =>
  cond ((decide (x8 < (r2.length : Int))))
  (Option.bind (α := (List (Int × Int))) (Option.bind (idx y6 x8) fun x21 =>
  Option.bind (shc x21.2) fun k24 =>
  cond ((((a1 >>> k24) &&& (1#32)) == (1#32)))
  (Option.bind (idx y6 x8) fun x27 =>
  some (y6.set x8.toNat (x21.2, x21.1)))
  (some y6))
  fun y18 =>
  some (.nxt (y18, w64 (x8 + 1))))
  (some (.brk y6))
/-- the model of beaconry/fork.turn -/
noncomputable def F51 (a0 : List (Int × Int)) (a1 : BitVec 32) : Option ((List (Int × Int))) :=
  Option.bind (F54 a0) fun r2 =>
  Option.bind (whileM (F51_L0 a1 r2) (r2, 0)) fun o14 => Ctl.on o14 (fun y12 =>
  some y12) (fun _ => none)

/-- the model of beaconry/fork.Turn -/
noncomputable def F22 (a0 : Int) (a1 : List (Int × Int)) (a2 : Int) : Option ((List (Int × Int)) × Int) :=
  Option.bind (F19 a0 a1) fun (r2, r3) =>
  cond ((r3 != 0))
  (some ([], r3))
  (cond (((decide (a2 < 0)) || (decide (a2 ≥ a0))))
  (some ([], 2))
  (Option.bind (shc a2) fun k8 =>
  cond ((((r2 >>> k8) &&& (1#32)) == (0#32)))
  (some ([], 5))
  (Option.bind (shc a2) fun k11 =>
  Option.bind (F51 a1 ((1#32) <<< k11)) fun r13 =>
  some (r13, 0))))

/-- the model of beaconry/beaconryref.Bit -/
noncomputable def F23 (a0 : BitVec 32) (a1 : Int) : Option (Bool) :=
  some (((decide (a1 ≥ 0)) && (decide (a1 < 32))) && ((a0 &&& ((1#32) <<< (u64 a1).toNat)) != (0#32)))

noncomputable def F25_L0 (a0 : List (Int × Int)) (a1 : BitVec 32) : ((List (Int × Int)) × Int) → Option (Ctl ((List (Int × Int)) × Int) ((List (Int × Int))) (Unit)) := fun (y4, x5) =>
  cond ((decide (x5 < (a0.length : Int))))
  (Option.bind (idx a0 x5) fun x17 =>
  Option.bind (F23 a1 x17.1) fun r20 =>
  Option.bind (cond (r20) (some true) (Option.bind (F23 a1 x17.2) fun r25 =>
  some r25)) fun b23 =>
  Option.bind (α := Int × Int) (cond (b23)
  (some (x17.2, x17.1))
  (some (x17.1, x17.2)))
  fun (x27, x28) =>
  Option.bind (appl 16 y4 ([(x27, x28)] : List (Int × Int))) fun (y33 : List (Int × Int)) =>
  some (.nxt (y33, w64 (x5 + 1))))
  (some (.brk y4))
/-- the model of beaconry/beaconryref.Turned -/
noncomputable def F25 (a0 : List (Int × Int)) (a1 : BitVec 32) : Option ((List (Int × Int))) :=
  Option.bind (whileM (F25_L0 a0 a1) ([], 0)) fun o13 => Ctl.on o13 (fun y12 =>
  some y12) (fun _ => none)

noncomputable def F24_L0 (a0 : List (Int × Int)) (a1 : List (Int × Int)) : Int → Option (Ctl (Int) (Unit) (Bool)) := fun x2 =>
  cond ((decide (x2 < (a0.length : Int))))
  (Option.bind (idx a0 x2) fun x8 =>
  Option.bind (idx a1 x2) fun x10 =>
  cond ((!(x8.1 == x10.1 && x8.2 == x10.2)))
  (some (.ret false))
  (some (.nxt (w64 (x2 + 1)))))
  (some (.brk ()))
/-- the model of beaconry/beaconryref.Twos -/
noncomputable def F24 (a0 : List (Int × Int)) (a1 : List (Int × Int)) : Option (Bool) :=
  cond (((a0.length : Int) != (a1.length : Int)))
  (some false)
  (Option.bind (whileM (F24_L0 a0 a1) 0) fun o4 => Ctl.on o4 (fun _ =>
  some true) (fun r => some r))

/-- the model of beaconry/beaconrylaw.ForkTurns -/
noncomputable def F6 (a0 : Int) (a1 : List (Int × Int)) (a2 : Int) : Option (Bool) :=
  Option.bind (F22 a0 a1 a2) fun (r1, r2) =>
  Option.bind (F20 a0 a1) fun r6 =>
  Option.bind (α := Int) (cond (((r6 == 0) && ((decide (a2 < 0)) || (decide (a2 ≥ a0)))))
  (some 2)
  (some r6))
  fun x10 =>
  Option.bind (cond ((x10 == 0)) (Option.bind (F21 a0 a1) fun r16 =>
  Option.bind (F23 r16 a2) fun r18 =>
  some (!r18)) (some false)) fun b14 =>
  Option.bind (α := Int) (cond (b14)
  (some 5)
  (some x10))
  fun x20 =>
  cond ((x20 != 0))
  (some ((r2 == x20) && ((r1.length : Int) == 0)))
  (Option.bind (cond ((r2 == 0)) (Option.bind (F25 a1 ((1#32) <<< (u64 a2).toNat)) fun r28 =>
  Option.bind (F24 r1 r28) fun r32 =>
  some r32) (some false)) fun b26 =>
  some b26)

noncomputable def F33_L0 : ((List Int) × Int) → Option (Ctl ((List Int) × Int) (Int) (Unit)) := fun (y8, x9) =>
  cond ((decide ((y8.length : Int) > 1)))
  (Option.bind (F30 y8) fun (r21, r22) =>
  some (.nxt (r21, w64 (x9 + 1))))
  (some (.brk x9))
/-- the model of beaconry/ring.Halves -/
noncomputable def F33 (a0 : List Int) : Option (Int × Int) :=
  Option.bind (F55 a0) fun r1 =>
  cond ((r1 != 0))
  (some (0, r1))
  (Option.bind (whileM (F33_L0) (a0, 0)) fun o17 => Ctl.on o17 (fun x16 =>
  some (x16, 0)) (fun _ => none))

noncomputable def F10_L0 : ((List Int) × Int) → Option (Ctl ((List Int) × Int) (Int) (Unit)) := fun (y12, x13) =>
  cond ((decide ((y12.length : Int) > 1)))
  (Option.bind (F32 y12) fun r25 =>
  some (.nxt (r25, w64 (x13 + 1))))
  (some (.brk x13))
/-- the model of beaconry/beaconrylaw.RingHalves -/
noncomputable def F10 (a0 : List Int) : Option (Bool) :=
  Option.bind (F33 a0) fun (r1, r2) =>
  Option.bind (F31 a0) fun r4 =>
  cond ((r4 != 0))
  (some ((r2 == r4) && (r1 == 0)))
  (Option.bind (whileM (F10_L0) (a0, 0)) fun o21 => Ctl.on o21 (fun x20 =>
  some ((r2 == 0) && (r1 == x20))) (fun _ => none))

/-- the model of beaconry/fork.round$1 -/
noncomputable def F79 (a0 : Int × Int) (a1 : BitVec 32) : Option (Bool) :=
  Option.bind (shc a0.2) fun k2 =>
  some (((a1 >>> k2) &&& (1#32)) == (1#32))

noncomputable def F90_L0 (a0 : List (Int × Int)) (a1 : (Int × Int) → Option Bool) : Int → Option (Ctl (Int) (Unit) (Int)) := fun x1 =>
  cond ((decide (x1 < (a0.length : Int))))
  (Option.bind (idx a0 x1) fun x7 =>
  Option.bind (a1 x7) fun r9 =>
  cond (r9)
  (some (.ret x1))
  (some (.nxt (w64 (x1 + 1)))))
  (some (.brk ()))
/-- the model of slices.IndexFunc[[][2]int,[2]int] -/
noncomputable def F90 (a0 : List (Int × Int)) (a1 : (Int × Int) → Option Bool) : Option (Int) :=
  Option.bind (whileM (F90_L0 a0 a1) 0) fun o3 => Ctl.on o3 (fun _ =>
  some (-1)) (fun r => some r)

noncomputable def F78_L0 (a1 : (Int × Int) → Option Bool) : ((List (Int × Int)) × Int × Int) → Option (Ctl ((List (Int × Int)) × Int × Int) ((List (Int × Int)) × Int) (Unit)) := fun (y6, x8, x9) =>
  cond ((decide (x9 < (y6.length : Int))))
  (Option.bind (α := (List (Int × Int)) × Int) (Option.bind (idx y6 x9) fun x25 =>
  Option.bind (a1 (x25.1, x25.2)) fun r28 =>
  cond ((!r28))
  (Option.bind (idx y6 x8) fun x31 =>
  some (y6.set x8.toNat (x25.1, x25.2), w64 (x8 + 1)))
  (some (y6, x8)))
  fun (y21, x23) =>
  some (.nxt (y21, x23, w64 (x9 + 1))))
  (some (.brk (y6, x8)))
/-- the model of slices.DeleteFunc[[][2]int,[2]int] -/
noncomputable def F78 (a0 : List (Int × Int)) (a1 : (Int × Int) → Option Bool) : Option ((List (Int × Int))) :=
  Option.bind (F90 a0 a1) fun r3 =>
  cond ((r3 == (-1)))
  (some a0)
  (Option.bind (whileM (F78_L0 a1) (a0, r3, w64 (r3 + 1))) fun o17 => Ctl.on o17 (fun (y14, x16) =>
  Option.bind (slI y14 x16 (y14.length : Int)) fun y33 =>
  Option.bind (slI (y14.take x16.toNat ++ List.replicate (y14.length - x16.toNat) (0, 0)) 0 x16) fun y36 =>
  some y36) (fun _ => none))

noncomputable def F52_L0 (a0 : Int) (a1 : List (Int × Int)) : ((BitVec 32) × Int) → Option (Ctl ((BitVec 32) × Int) ((BitVec 32)) (Unit)) := fun (x2, x3) =>
  cond ((decide (x3 < a0)))
  (Option.bind (F54 a1) fun r11 =>
  Option.bind (F78 r11 (fun z => F79 z x2)) fun r15 =>
  Option.bind (F50 a0 r15) fun r19 =>
  some (.nxt (r19, w64 (x3 + 1))))
  (some (.brk x2))
/-- the model of beaconry/fork.round -/
noncomputable def F52 (a0 : Int) (a1 : List (Int × Int)) : Option (Bool) :=
  Option.bind (whileM (F52_L0 a0 a1) (0#32, 0)) fun o7 => Ctl.on o7 (fun x6 =>
  Option.bind (shc a0) fun k21 =>
  some (x6 != (((1#32) <<< k21) - (1#32)))) (fun _ => none)

/-- the model of beaconry/fork.Round -/
noncomputable def F26 (a0 : Int) (a1 : List (Int × Int)) : Option (Bool × Int) :=
  Option.bind (F49 a0 a1) fun r1 =>
  cond ((r1 != 0))
  (some (false, r1))
  (Option.bind (F52 a0 a1) fun r4 =>
  some (r4, 0))

noncomputable def F53_L1 (a0 : List (BitVec 32)) : ((BitVec 32) × Int) → Option (Ctl ((BitVec 32) × Int) ((BitVec 32)) (Unit)) := fun (x12, x13) =>
  cond ((decide (x13 < (a0.length : Int))))
  (Option.bind (α := (BitVec 32)) (Option.bind (F23 x12 x13) fun r23 =>
  cond (r23)
  (Option.bind (idx a0 x13) fun x26 =>
  some (x12 ||| x26))
  (some x12))
  fun x21 =>
  some (.nxt (x21, w64 (x13 + 1))))
  (some (.brk x12))
noncomputable def F53_L0 (a0 : List (BitVec 32)) : ((BitVec 32) × Int) → Option (Ctl ((BitVec 32) × Int) ((BitVec 32)) (Unit)) := fun (x3, x4) =>
  cond ((decide (x4 < (a0.length : Int))))
  (Option.bind (whileM (F53_L1 a0) (x3, 0)) fun o17 => Ctl.on o17 (fun x16 =>
  some (.nxt (x16, w64 (x4 + 1)))) (fun _ => none))
  (some (.brk x3))
/-- the model of beaconry/beaconryref.Reach -/
noncomputable def F53 (a0 : List (BitVec 32)) (a1 : Int) : Option ((BitVec 32)) :=
  Option.bind (idx a0 a1) fun x1 =>
  Option.bind (whileM (F53_L0 a0) (x1, 0)) fun o8 => Ctl.on o8 (fun x7 =>
  some x7) (fun _ => none)

noncomputable def F27_L1 (a0 : Int) (y11 : List (BitVec 32)) : Int → Option (Ctl (Int) (Unit) (Bool)) := fun x24 =>
  cond ((decide (x24 < a0)))
  (Option.bind (F53 y11 x24) fun r30 =>
  Option.bind (F23 r30 x24) fun r32 =>
  cond (r32)
  (some (.ret true))
  (some (.nxt (w64 (x24 + 1)))))
  (some (.brk ()))
noncomputable def F27_L0 (a1 : List (Int × Int)) : ((List (BitVec 32)) × Int) → Option (Ctl ((List (BitVec 32)) × Int) ((List (BitVec 32))) (Unit)) := fun (y5, x7) =>
  cond ((decide (x7 < (a1.length : Int))))
  (Option.bind (idx a1 x7) fun x17 =>
  Option.bind (idx y5 x17.1) fun x20 =>
  Option.bind (idx y5 x17.1) fun x22 =>
  some (.nxt (y5.set x17.1.toNat (x20 ||| ((1#32) <<< (u64 x17.2).toNat)), w64 (x7 + 1))))
  (some (.brk y5))
/-- the model of beaconry/beaconryref.Round -/
noncomputable def F27 (a0 : Int) (a1 : List (Int × Int)) : Option (Bool) :=
  Option.bind (mkl a0 4 0) fun (y1 : List (BitVec 32)) =>
  Option.bind (whileM (F27_L0 a1) (y1, 0)) fun o13 => Ctl.on o13 (fun y11 =>
  Option.bind (whileM (F27_L1 a0 y11) 0) fun o26 => Ctl.on o26 (fun _ =>
  some false) (fun r => some r)) (fun _ => none)

/-- the model of beaconry/beaconrylaw.ForkRounds -/
noncomputable def F7 (a0 : Int) (a1 : List (Int × Int)) : Option (Bool) :=
  Option.bind (F26 a0 a1) fun (r1, r2) =>
  Option.bind (F20 a0 a1) fun r4 =>
  cond ((r4 != 0))
  (some ((r2 == r4) && (!r1)))
  (Option.bind (cond ((r2 == 0)) (Option.bind (F27 a0 a1) fun r11 =>
  some (r1 == r11)) (some false)) fun b9 =>
  some b9)

noncomputable def F28_L1 (a0 : Int) (r40 : (BitVec 32)) : ((List Int) × Int) → Option (Ctl ((List Int) × Int) ((List Int)) (Unit)) := fun (y42, x44) =>
  cond ((decide (x44 < a0)))
  (Option.bind (idx y42 x44) fun x54 =>
  Option.bind (shc x44) fun k56 =>
  Option.bind (idx y42 x44) fun x58 =>
  some (.nxt (y42.set x44.toNat (w64 (x54 + (((r40 >>> k56) &&& (1#32)).toNat : Int))), w64 (x44 + 1))))
  (some (.brk y42))
noncomputable def F28_L0 (a0 : Int) (a2 : Int) : ((List (Int × Int)) × (List Int) × Int) → Option (Ctl ((List (Int × Int)) × (List Int) × Int) ((List (Int × Int)) × (List Int)) (Unit)) := fun (y21, y22, x24) =>
  cond ((decide (x24 < a2)))
  (Option.bind (F50 a0 y21) fun r40 =>
  Option.bind (whileM (F28_L1 a0 r40) (y22, 0)) fun o50 => Ctl.on o50 (fun y48 =>
  Option.bind (F51 y21 r40) fun r60 =>
  some (.nxt (r60, y48, w64 (x24 + 1)))) (fun _ => none))
  (some (.brk (y21, y22)))
/-- the model of beaconry/fork.Run -/
noncomputable def F28 (a0 : Int) (a1 : List (Int × Int)) (a2 : Int) : Option ((List (Int × Int)) × (List Int) × Int) :=
  Option.bind (F49 a0 a1) fun r3 =>
  cond ((r3 != 0))
  (some ([], [], r3))
  (cond (((decide (a2 < 0)) || (decide (a2 > 60))))
  (some ([], [], 4))
  (Option.bind (F52 a0 a1) fun r8 =>
  cond (r8)
  (some ([], [], 3))
  (Option.bind (mkl a0 8 0) fun (y11 : List Int) =>
  Option.bind (F54 a1) fun r15 =>
  Option.bind (whileM (F28_L0 a0 a2) (r15, y11, 0)) fun o36 => Ctl.on o36 (fun (y33, y34) =>
  some (y33, y34, 0)) (fun _ => none))))

noncomputable def F8_L1 (a0 : Int) (r58 : (BitVec 32)) : ((List Int) × Int) → Option (Ctl ((List Int) × Int) ((List Int)) (Unit)) := fun (y60, x62) =>
  cond ((decide (x62 < a0)))
  (Option.bind (α := (List Int)) (Option.bind (F23 r58 x62) fun r75 =>
  cond (r75)
  (Option.bind (idx y60 x62) fun x78 =>
  Option.bind (idx y60 x62) fun x80 =>
  some (y60.set x62.toNat (w64 (x78 + 1))))
  (some y60))
  fun y72 =>
  some (.nxt (y72, w64 (x62 + 1))))
  (some (.brk y60))
noncomputable def F8_L0 (a0 : Int) (a2 : Int) : ((List (Int × Int)) × (List Int) × Int) → Option (Ctl ((List (Int × Int)) × (List Int) × Int) ((List (Int × Int)) × (List Int)) (Unit)) := fun (y35, y36, x38) =>
  cond ((decide (x38 < a2)))
  (Option.bind (F21 a0 y35) fun r58 =>
  Option.bind (whileM (F8_L1 a0 r58) (y36, 0)) fun o68 => Ctl.on o68 (fun y66 =>
  Option.bind (F25 y35 r58) fun r82 =>
  some (.nxt (r82, y66, w64 (x38 + 1)))) (fun _ => none))
  (some (.brk (y35, y36)))
/-- the model of beaconry/beaconrylaw.ForkRuns -/
noncomputable def F8 (a0 : Int) (a1 : List (Int × Int)) (a2 : Int) : Option (Bool) :=
  Option.bind (F28 a0 a1 a2) fun (r1, r2, r3) =>
  Option.bind (F20 a0 a1) fun r9 =>
  Option.bind (α := Int) (cond (((r9 == 0) && ((decide (a2 < 0)) || (decide (a2 > 60)))))
  (some 4)
  (some r9))
  fun x13 =>
  Option.bind (cond ((x13 == 0)) (Option.bind (F27 a0 a1) fun r19 =>
  some r19) (some false)) fun b17 =>
  Option.bind (α := Int) (cond (b17)
  (some 3)
  (some x13))
  fun x21 =>
  cond ((x21 != 0))
  (some (((r3 == x21) && ((r1.length : Int) == 0)) && ((r2.length : Int) == 0)))
  (Option.bind (mkl a0 8 0) fun (y27 : List Int) =>
  Option.bind (whileM (F8_L0 a0 a2) (a1, y27, 0)) fun o54 => Ctl.on o54 (fun (y51, y52) =>
  Option.bind (cond ((r3 == 0)) (Option.bind (F24 r1 y51) fun r89 =>
  some r89) (some false)) fun b87 =>
  Option.bind (cond (b87) (Option.bind (F29 r2 y52) fun r94 =>
  some r94) (some false)) fun b92 =>
  some b92) (fun _ => none))
end Go.Proofs.Ytdjmlbjkendobaa
