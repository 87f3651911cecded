/-
  Pure models of Go functions, written by a program (gen.py).
-/
import Derived.Test.YtdjmlbjkendobaaBk11
namespace Go.Proofs.Ytdjmlbjkendobaa
open Go Go.Bk
set_option linter.unusedVariables false
@[reducible] def cTii (x : Int × Int) : List Value := [I x.1, I x.2]
noncomputable def F89_L0 (a0 : List (Int × Int)) (a1 : Int × Int) : Int → Option (Ctl (Int) (Unit) (Int)) := fun x2 =>
  cond ((decide (x2 < (a0.length : Int))))
  (Option.bind (idx a0 x2) fun x8 =>
  cond ((a1.1 == x8.1 && a1.2 == x8.2))
  (some (.ret x2))
  (some (.nxt (w64 (x2 + 1)))))
  (some (.brk ()))
/-- the model of slices.Index[[][2]int,[2]int] -/
noncomputable def F89 (a0 : List (Int × Int)) (a1 : Int × Int) : Option (Int) :=
  Option.bind (whileM (F89_L0 a0 a1) 0) fun o4 => Ctl.on o4 (fun _ =>
  some (-1)) (fun r => some r)

/-- the model of slices.Contains[[][2]int,[2]int] -/
noncomputable def F77 (a0 : List (Int × Int)) (a1 : Int × Int) : Option (Bool) :=
  Option.bind (F89 a0 (a1.1, a1.2)) fun r2 =>
  some (decide (r2 ≥ 0))

noncomputable def F49_L1 (a1 : List (Int × Int)) : Int → Option (Ctl (Int) (Unit) (Int)) := fun x16 =>
  cond ((decide (x16 < (a1.length : Int))))
  (Option.bind (idx a1 x16) fun x22 =>
  Option.bind (slI a1 0 x16) fun y25 =>
  Option.bind (F77 y25 (x22.1, x22.2)) fun r28 =>
  Option.bind (cond (r28) (some true) (Option.bind (slI a1 0 x16) fun y33 =>
  Option.bind (F77 y33 (x22.2, x22.1)) fun r36 =>
  some r36)) fun b31 =>
  cond (b31)
  (some (.ret 3))
  (some (.nxt (w64 (x16 + 1)))))
  (some (.brk ()))
noncomputable def F49_L0 (a0 : Int) (a1 : List (Int × Int)) : Int → Option (Ctl (Int) (Unit) (Int)) := fun x4 =>
  cond ((decide (x4 < (a1.length : Int))))
  (Option.bind (idx a1 x4) fun x10 =>
  cond ((((decide ((mn x10.1 x10.2) < 0)) || (decide ((mx x10.1 x10.2) ≥ a0))) || (x10.1 == x10.2)))
  (some (.ret 2))
  (some (.nxt (w64 (x4 + 1)))))
  (some (.brk ()))
/-- the model of beaconry/fork.Check -/
noncomputable def F49 (a0 : Int) (a1 : List (Int × Int)) : Option (Int) :=
  cond ((((decide (a0 < 1)) || (decide (a0 > 6))) || (decide ((a1.length : Int) > 15))))
  (some 1)
  (Option.bind (whileM (F49_L0 a0 a1) 0) fun o6 => Ctl.on o6 (fun _ =>
  Option.bind (whileM (F49_L1 a1) 0) fun o18 => Ctl.on o18 (fun _ =>
  some 0) (fun r => some r)) (fun r => some r))

noncomputable def F50_L0 (a1 : List (Int × Int)) : ((BitVec 32) × Int) → Option (Ctl ((BitVec 32) × Int) ((BitVec 32)) (Unit)) := fun (x3, x4) =>
  cond ((decide (x4 < (a1.length : Int))))
  (Option.bind (idx a1 x4) fun x12 =>
  Option.bind (shc x12.1) fun k15 =>
  some (.nxt ((x3 &&& ~~~((1#32) <<< k15)), w64 (x4 + 1))))
  (some (.brk x3))
/-- the model of beaconry/fork.low -/
noncomputable def F50 (a0 : Int) (a1 : List (Int × Int)) : Option ((BitVec 32)) :=
  Option.bind (shc a0) fun k1 =>
  Option.bind (whileM (F50_L0 a1) ((((1#32) <<< k1) - (1#32)), 0)) fun o8 => Ctl.on o8 (fun x7 =>
  some x7) (fun _ => none)

/-- the model of beaconry/fork.Low -/
noncomputable def F19 (a0 : Int) (a1 : List (Int × Int)) : Option ((BitVec 32) × Int) :=
  Option.bind (F49 a0 a1) fun r1 =>
  cond ((r1 != 0))
  (some (0#32, r1))
  (Option.bind (F50 a0 a1) fun r4 =>
  some (r4, 0))

noncomputable def F42_L0 (a0 : Int) (a1 : List (Int × Int)) : Int → Option (Ctl (Int) (Unit) (Int)) := fun x4 =>
  cond ((decide (x4 < (a1.length : Int))))
  (Option.bind (idx a1 x4) fun x10 =>
  cond ((((((decide (x10.1 < 0)) || (decide (x10.1 ≥ a0))) || (decide (x10.2 < 0))) || (decide (x10.2 ≥ a0))) || (x10.1 == x10.2)))
  (some (.ret 2))
  (some (.nxt (w64 (x4 + 1)))))
  (some (.brk ()))
/-- the model of beaconry/beaconryref.LinksCheck -/
noncomputable def F42 (a0 : Int) (a1 : List (Int × Int)) : Option (Int) :=
  cond ((((decide (a0 < 1)) || (decide (a0 > 6))) || (decide ((a1.length : Int) > 15))))
  (some 1)
  (Option.bind (whileM (F42_L0 a0 a1) 0) fun o6 => Ctl.on o6 (fun _ =>
  some 0) (fun r => some r))

noncomputable def F43_L1 (x7 : Int × Int) (y10 : List (Int × Int)) : Int → Option (Ctl (Int) (Unit) (Bool)) := fun x13 =>
  cond ((decide (x13 < (y10.length : Int))))
  (Option.bind (idx y10 x13) fun x19 =>
  cond ((((x7.1 == x19.1) && (x7.2 == x19.2)) || ((x7.1 == x19.2) && (x7.2 == x19.1))))
  (some (.ret true))
  (some (.nxt (w64 (x13 + 1)))))
  (some (.brk ()))
noncomputable def F43_L0 (a0 : List (Int × Int)) : Int → Option (Ctl (Int) (Unit) (Bool)) := fun x1 =>
  cond ((decide (x1 < (a0.length : Int))))
  (Option.bind (idx a0 x1) fun x7 =>
  Option.bind (slI a0 0 x1) fun y10 =>
  Option.bind (whileM (F43_L1 x7 y10) 0) fun o15 => Ctl.on o15 (fun _ =>
  some (.nxt (w64 (x1 + 1)))) (fun r => some (.ret r)))
  (some (.brk ()))
/-- the model of beaconry/beaconryref.Twice -/
noncomputable def F43 (a0 : List (Int × Int)) : Option (Bool) :=
  Option.bind (whileM (F43_L0 a0) 0) fun o3 => Ctl.on o3 (fun _ =>
  some false) (fun r => some r)

/-- the model of beaconry/beaconrylaw.forkCode -/
noncomputable def F20 (a0 : Int) (a1 : List (Int × Int)) : Option (Int) :=
  Option.bind (F42 a0 a1) fun r1 =>
  Option.bind (cond ((r1 == 0)) (Option.bind (F43 a1) fun r6 =>
  some r6) (some false)) fun b4 =>
  Option.bind (α := Int) (cond (b4)
  (some 3)
  (some r1))
  fun x8 =>
  some x8

noncomputable def F21_L1 (a1 : List (Int × Int)) (x2 : Int) : (Bool × Int) → Option (Ctl (Bool × Int) (Bool) (Unit)) := fun (b12, x13) =>
  cond ((decide (x13 < (a1.length : Int))))
  (Option.bind (idx a1 x13) fun x21 =>
  some (.nxt ((b12 && (x21.1 != x2)), w64 (x13 + 1))))
  (some (.brk b12))
noncomputable def F21_L0 (a0 : Int) (a1 : List (Int × Int)) : ((BitVec 32) × Int) → Option (Ctl ((BitVec 32) × Int) ((BitVec 32)) (Unit)) := fun (x1, x2) =>
  cond ((decide (x2 < a0)))
  (Option.bind (α := (BitVec 32)) (Option.bind (whileM (F21_L1 a1 x2) (true, 0)) fun o17 => Ctl.on o17 (fun b16 =>
  cond (b16)
  (some (x1 + ((1#32) <<< (u64 x2).toNat)))
  (some x1)) (fun _ => none))
  fun x10 =>
  some (.nxt (x10, w64 (x2 + 1))))
  (some (.brk x1))
/-- the model of beaconry/beaconryref.Low -/
noncomputable def F21 (a0 : Int) (a1 : List (Int × Int)) : Option ((BitVec 32)) :=
  Option.bind (whileM (F21_L0 a0 a1) (0#32, 0)) fun o6 => Ctl.on o6 (fun x5 =>
  some x5) (fun _ => none)

/-- the model of beaconry/beaconrylaw.ForkLows -/
noncomputable def F5 (a0 : Int) (a1 : List (Int × Int)) : Option (Bool) :=
  Option.bind (F19 a0 a1) fun (r1, r2) =>
  Option.bind (F20 a0 a1) fun r4 =>
  cond ((r4 != 0))
  (some ((r2 == r4) && (r1 == (0#32))))
  (Option.bind (cond ((r2 == 0)) (Option.bind (F21 a0 a1) fun r11 =>
  some (r1 == r11)) (some false)) fun b9 =>
  some b9)

noncomputable def F91_L0 (a0 : List Int) (a1 : Int) : Int → Option (Ctl (Int) (Unit) (Int)) := fun x1 =>
  cond ((decide (x1 < (a0.length : Int))))
  (Option.bind (idx a0 x1) fun x7 =>
  cond ((a1 == x7))
  (some (.ret x1))
  (some (.nxt (w64 (x1 + 1)))))
  (some (.brk ()))
/-- the model of slices.Index[[]int,int] -/
noncomputable def F91 (a0 : List Int) (a1 : Int) : Option (Int) :=
  Option.bind (whileM (F91_L0 a0 a1) 0) fun o3 => Ctl.on o3 (fun _ =>
  some (-1)) (fun r => some r)

/-- the model of slices.Contains[[]int,int] -/
noncomputable def F80 (a0 : List Int) (a1 : Int) : Option (Bool) :=
  Option.bind (F91 a0 a1) fun r1 =>
  some (decide (r1 ≥ 0))

noncomputable def F55_L0 (a0 : List Int) : Int → Option (Ctl (Int) (Unit) (Int)) := fun x3 =>
  cond ((decide (x3 < (a0.length : Int))))
  (Option.bind (idx a0 x3) fun x9 =>
  Option.bind (slI a0 0 x3) fun y11 =>
  Option.bind (F80 y11 x9) fun r14 =>
  cond (r14)
  (some (.ret 3))
  (some (.nxt (w64 (x3 + 1)))))
  (some (.brk ()))
/-- the model of beaconry/ring.wrong -/
noncomputable def F55 (a0 : List Int) : Option (Int) :=
  cond (((decide ((a0.length : Int) < 1)) || (decide ((a0.length : Int) > 12))))
  (some 1)
  (Option.bind (whileM (F55_L0 a0) 0) fun o5 => Ctl.on o5 (fun _ =>
  some 0) (fun r => some r))

noncomputable def F56_L0 (a0 : List Int) : (Int × Int) → Option (Ctl (Int × Int) (Int) (Unit)) := fun (x4, x5) =>
  cond ((decide (x5 < (a0.length : Int))))
  (Option.bind (idx a0 x5) fun x13 =>
  some (.nxt (mx x4 x13, w64 (x5 + 1))))
  (some (.brk x4))
/-- the model of slices.Max[[]int,int] -/
noncomputable def F56 (a0 : List Int) : Option (Int) :=
  cond ((decide ((a0.length : Int) < 1)))
  (none)
  (Option.bind (idx a0 0) fun x2 =>
  Option.bind (whileM (F56_L0 a0) (x2, 1)) fun o9 => Ctl.on o9 (fun x8 =>
  some x8) (fun _ => none))

noncomputable def F57_L0 (a0 : List Int) : ((List Int) × Int) → Option (Ctl ((List Int) × Int) ((List Int)) (Unit)) := fun (y3, x4) =>
  cond ((decide (x4 < (a0.length : Int))))
  (Option.bind (α := (List Int)) (Option.bind (nz (a0.length : Int)) fun _ =>
  Option.bind (idx a0 ((w64 ((w64 (x4 + (a0.length : Int))) - 2)).tmod (a0.length : Int))) fun x21 =>
  Option.bind (nz (a0.length : Int)) fun _ =>
  Option.bind (idx a0 ((w64 ((w64 (x4 + (a0.length : Int))) - 1)).tmod (a0.length : Int))) fun x25 =>
  Option.bind (idx a0 x4) fun x27 =>
  cond (((decide (x25 > x21)) && (decide (x25 > x27))))
  (Option.bind (appl 8 y3 ([x25] : List Int)) fun (y33 : List Int) =>
  some y33)
  (some y3))
  fun y16 =>
  some (.nxt (y16, w64 (x4 + 1))))
  (some (.brk y3))
/-- the model of beaconry/ring.half -/
noncomputable def F57 (a0 : List Int) : Option ((List Int)) :=
  Option.bind (whileM (F57_L0 a0) ([], 0)) fun o12 => Ctl.on o12 (fun y11 =>
  some y11) (fun _ => none)

/-- the model of beaconry/ring.Half -/
noncomputable def F30 (a0 : List Int) : Option ((List Int) × Int) :=
  Option.bind (F55 a0) fun r1 =>
  cond ((r1 != 0))
  (some ([], r1))
  (cond ((decide ((a0.length : Int) < 3)))
  (Option.bind (F56 a0) fun r5 =>
  some (([r5] : List Int), 0))
  (Option.bind (F57 a0) fun r9 =>
  some (r9, 0)))

noncomputable def F31_L1 (a0 : List Int) (x3 : Int) : Int → Option (Ctl (Int) (Unit) (Int)) := fun x9 =>
  cond ((decide (x9 < x3)))
  (Option.bind (idx a0 x3) fun x15 =>
  Option.bind (idx a0 x9) fun x17 =>
  cond ((x15 == x17))
  (some (.ret 3))
  (some (.nxt (w64 (x9 + 1)))))
  (some (.brk ()))
noncomputable def F31_L0 (a0 : List Int) : Int → Option (Ctl (Int) (Unit) (Int)) := fun x3 =>
  cond ((decide (x3 < (a0.length : Int))))
  (Option.bind (whileM (F31_L1 a0 x3) 0) fun o11 => Ctl.on o11 (fun _ =>
  some (.nxt (w64 (x3 + 1)))) (fun r => some (.ret r)))
  (some (.brk ()))
/-- the model of beaconry/beaconryref.RingCheck -/
noncomputable def F31 (a0 : List Int) : Option (Int) :=
  cond (((decide ((a0.length : Int) < 1)) || (decide ((a0.length : Int) > 12))))
  (some 1)
  (Option.bind (whileM (F31_L0 a0) 0) fun o5 => Ctl.on o5 (fun _ =>
  some 0) (fun r => some r))

noncomputable def F32_L0 (a0 : List Int) : ((List Int) × Int) → Option (Ctl ((List Int) × Int) ((List Int)) (Unit)) := fun (y22, x23) =>
  cond ((decide (x23 < (a0.length : Int))))
  (Option.bind (α := (List Int)) (Option.bind (nz (a0.length : Int)) fun _ =>
  Option.bind (idx a0 ((w64 ((w64 (x23 + (a0.length : Int))) - 1)).tmod (a0.length : Int))) fun x40 =>
  Option.bind (idx a0 x23) fun x42 =>
  Option.bind (cond ((decide (x40 > x42))) (Option.bind (nz (a0.length : Int)) fun _ =>
  Option.bind (idx a0 ((w64 ((w64 (x23 + (a0.length : Int))) - 2)).tmod (a0.length : Int))) fun x49 =>
  some (decide (x40 > x49))) (some false)) fun b45 =>
  cond (b45)
  (Option.bind (appl 8 y22 ([x40] : List Int)) fun (y54 : List Int) =>
  some y54)
  (some y22))
  fun y35 =>
  some (.nxt (y35, w64 (x23 + 1))))
  (some (.brk y22))
/-- the model of beaconry/beaconryref.Half -/
noncomputable def F32 (a0 : List Int) : Option ((List Int)) :=
  cond (((a0.length : Int) == 1))
  (Option.bind (idx a0 0) fun x2 =>
  some ([x2] : List Int))
  (cond (((a0.length : Int) == 2))
  (Option.bind (idx a0 0) fun x7 =>
  Option.bind (idx a0 1) fun x9 =>
  cond ((decide (x7 > x9)))
  (Option.bind (idx a0 0) fun x12 =>
  some ([x12] : List Int))
  (Option.bind (idx a0 1) fun x16 =>
  some ([x16] : List Int)))
  (Option.bind (whileM (F32_L0 a0) ([], 0)) fun o31 => Ctl.on o31 (fun y30 =>
  some y30) (fun _ => none)))

noncomputable def F29_L0 (a0 : List Int) (a1 : List Int) : Int → Option (Ctl (Int) (Unit) (Bool)) := fun x2 =>
  cond ((decide (x2 < (a0.length : Int))))
  (Option.bind (idx a0 x2) fun x8 =>
  Option.bind (idx a1 x2) fun x10 =>
  cond ((x8 != x10))
  (some (.ret false))
  (some (.nxt (w64 (x2 + 1)))))
  (some (.brk ()))
/-- the model of beaconry/beaconryref.Ints -/
noncomputable def F29 (a0 : List Int) (a1 : List Int) : Option (Bool) :=
  cond (((a0.length : Int) != (a1.length : Int)))
  (some false)
  (Option.bind (whileM (F29_L0 a0 a1) 0) fun o4 => Ctl.on o4 (fun _ =>
  some true) (fun r => some r))

/-- the model of beaconry/beaconrylaw.RingHalf -/
noncomputable def F9 (a0 : List Int) : Option (Bool) :=
  Option.bind (F30 a0) fun (r1, r2) =>
  Option.bind (F31 a0) fun r6 =>
  cond ((r6 != 0))
  (some ((r2 == r6) && ((r1.length : Int) == 0)))
  (Option.bind (cond ((r2 == 0)) (Option.bind (F32 a0) fun r13 =>
  Option.bind (F29 r1 r13) fun r17 =>
  some r17) (some false)) fun b11 =>
  some b11)

/-- the model of slices.Clone[[][2]int,[2]int] -/
noncomputable def F54 (a0 : List (Int × Int)) : Option (List (Int × Int)) := appl 16 ([] : List (Int × Int)) a0

noncomputable def F51_L0 (a1 : BitVec 32) (r1 : (List (Int × Int))) : ((List (Int × Int)) × Int) → Option (Ctl ((List (Int × Int)) × Int) ((List (Int × Int))) (Unit)) := fun (y5, x7) =>
  cond ((decide (x7 < (r1.length : Int))))
  (Option.bind (α := (List (Int × Int))) (Option.bind (idx y5 x7) fun x20 =>
  Option.bind (shc x20.2) fun k23 =>
  cond ((((a1 >>> k23) &&& (1#32)) == (1#32)))
  (Option.bind (idx y5 x7) fun x26 =>
  some (y5.set x7.toNat (x20.2, x20.1)))
  (some y5))
  fun y17 =>
  some (.nxt (y17, w64 (x7 + 1))))
  (some (.brk y5))
/-- the model of beaconry/fork.turn -/
noncomputable def F51 (a0 : List (Int × Int)) (a1 : BitVec 32) : Option ((List (Int × Int))) :=
  Option.bind (F54 a0) fun r1 =>
  Option.bind (whileM (F51_L0 a1 r1) (r1, 0)) fun o13 => Ctl.on o13 (fun y11 =>
  some y11) (fun _ => none)

/-- the model of beaconry/fork.Turn -/
noncomputable def F22 (a0 : Int) (a1 : List (Int × Int)) (a2 : Int) : Option ((List (Int × Int)) × Int) :=
  Option.bind (F19 a0 a1) fun (r1, r2) =>
  cond ((r2 != 0))
  (some ([], r2))
  (cond (((decide (a2 < 0)) || (decide (a2 ≥ a0))))
  (some ([], 2))
  (Option.bind (shc a2) fun k7 =>
  cond ((((r1 >>> k7) &&& (1#32)) == (0#32)))
  (some ([], 5))
  (Option.bind (shc a2) fun k10 =>
  Option.bind (F51 a1 ((1#32) <<< k10)) fun r12 =>
  some (r12, 0))))

/-- the model of beaconry/beaconryref.Bit -/
noncomputable def F23 (a0 : BitVec 32) (a1 : Int) : Option (Bool) :=
  some (((decide (a1 ≥ 0)) && (decide (a1 < 32))) && ((a0 &&& ((1#32) <<< (u64 a1).toNat)) != (0#32)))

noncomputable def F25_L0 (a0 : List (Int × Int)) (a1 : BitVec 32) : ((List (Int × Int)) × Int) → Option (Ctl ((List (Int × Int)) × Int) ((List (Int × Int))) (Unit)) := fun (y3, x4) =>
  cond ((decide (x4 < (a0.length : Int))))
  (Option.bind (idx a0 x4) fun x16 =>
  Option.bind (F23 a1 x16.1) fun r19 =>
  Option.bind (cond (r19) (some true) (Option.bind (F23 a1 x16.2) fun r24 =>
  some r24)) fun b22 =>
  Option.bind (α := Int × Int) (cond (b22)
  (some (x16.2, x16.1))
  (some (x16.1, x16.2)))
  fun (x26, x27) =>
  Option.bind (appl 16 y3 ([(x26, x27)] : List (Int × Int))) fun (y32 : List (Int × Int)) =>
  some (.nxt (y32, w64 (x4 + 1))))
  (some (.brk y3))
/-- the model of beaconry/beaconryref.Turned -/
noncomputable def F25 (a0 : List (Int × Int)) (a1 : BitVec 32) : Option ((List (Int × Int))) :=
  Option.bind (whileM (F25_L0 a0 a1) ([], 0)) fun o12 => Ctl.on o12 (fun y11 =>
  some y11) (fun _ => none)

noncomputable def F24_L0 (a0 : List (Int × Int)) (a1 : List (Int × Int)) : Int → Option (Ctl (Int) (Unit) (Bool)) := fun x2 =>
  cond ((decide (x2 < (a0.length : Int))))
  (Option.bind (idx a0 x2) fun x8 =>
  Option.bind (idx a1 x2) fun x10 =>
  cond ((!(x8.1 == x10.1 && x8.2 == x10.2)))
  (some (.ret false))
  (some (.nxt (w64 (x2 + 1)))))
  (some (.brk ()))
/-- the model of beaconry/beaconryref.Twos -/
noncomputable def F24 (a0 : List (Int × Int)) (a1 : List (Int × Int)) : Option (Bool) :=
  cond (((a0.length : Int) != (a1.length : Int)))
  (some false)
  (Option.bind (whileM (F24_L0 a0 a1) 0) fun o4 => Ctl.on o4 (fun _ =>
  some true) (fun r => some r))

/-- the model of beaconry/beaconrylaw.ForkTurns -/
noncomputable def F6 (a0 : Int) (a1 : List (Int × Int)) (a2 : Int) : Option (Bool) :=
  Option.bind (F22 a0 a1 a2) fun (r1, r2) =>
  Option.bind (F20 a0 a1) fun r6 =>
  Option.bind (α := Int) (cond (((r6 == 0) && ((decide (a2 < 0)) || (decide (a2 ≥ a0)))))
  (some 2)
  (some r6))
  fun x10 =>
  Option.bind (cond ((x10 == 0)) (Option.bind (F21 a0 a1) fun r16 =>
  Option.bind (F23 r16 a2) fun r18 =>
  some (!r18)) (some false)) fun b14 =>
  Option.bind (α := Int) (cond (b14)
  (some 5)
  (some x10))
  fun x20 =>
  cond ((x20 != 0))
  (some ((r2 == x20) && ((r1.length : Int) == 0)))
  (Option.bind (cond ((r2 == 0)) (Option.bind (F25 a1 ((1#32) <<< (u64 a2).toNat)) fun r28 =>
  Option.bind (F24 r1 r28) fun r32 =>
  some r32) (some false)) fun b26 =>
  some b26)

noncomputable def F33_L0 : ((List Int) × Int) → Option (Ctl ((List Int) × Int) (Int) (Unit)) := fun (y8, x9) =>
  cond ((decide ((y8.length : Int) > 1)))
  (Option.bind (F30 y8) fun (r21, r22) =>
  some (.nxt (r21, w64 (x9 + 1))))
  (some (.brk x9))
/-- the model of beaconry/ring.Halves -/
noncomputable def F33 (a0 : List Int) : Option (Int × Int) :=
  Option.bind (F55 a0) fun r1 =>
  cond ((r1 != 0))
  (some (0, r1))
  (Option.bind (whileM (F33_L0) (a0, 0)) fun o17 => Ctl.on o17 (fun x16 =>
  some (x16, 0)) (fun _ => none))

noncomputable def F10_L0 : ((List Int) × Int) → Option (Ctl ((List Int) × Int) (Int) (Unit)) := fun (y12, x13) =>
  cond ((decide ((y12.length : Int) > 1)))
  (Option.bind (F32 y12) fun r25 =>
  some (.nxt (r25, w64 (x13 + 1))))
  (some (.brk x13))
/-- the model of beaconry/beaconrylaw.RingHalves -/
noncomputable def F10 (a0 : List Int) : Option (Bool) :=
  Option.bind (F33 a0) fun (r1, r2) =>
  Option.bind (F31 a0) fun r4 =>
  cond ((r4 != 0))
  (some ((r2 == r4) && (r1 == 0)))
  (Option.bind (whileM (F10_L0) (a0, 0)) fun o21 => Ctl.on o21 (fun x20 =>
  some ((r2 == 0) && (r1 == x20))) (fun _ => none))
end Go.Proofs.Ytdjmlbjkendobaa
