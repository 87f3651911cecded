/-
  Pure models of Go functions, written by a program (gen.py).
-/
import Derived.Test.YtmlfflaelbofmaaBk25
namespace Go.Proofs.Ytmlfflaelbofmaa
open Go Go.Bk
set_option linter.unusedVariables false

noncomputable def F52_L0 (a0 : List (BitVec 32)) : Int → Option (Ctl (Int) (Unit) (Int)) := fun x3 =>
  cond ((decide (x3 < (a0.length : Int))))
  (Option.bind (idx a0 x3) fun x9 =>
  Option.bind (shc (a0.length : Int)) fun k11 =>
  cond (((x9 >>> k11) != (0#32)))
  (some (.ret 4))
  (some (.nxt (w64 (x3 + 1)))))
  (some (.brk ()))
/-- the model of beaconry/wait.wrong -/
noncomputable def F52 (a0 : List (BitVec 32)) : Option (Int) :=
  cond (((decide ((a0.length : Int) < 1)) || (decide ((a0.length : Int) > 6))))
  (some 1)
  (Option.bind (whileM (F52_L0 a0) 0) fun o5 => Ctl.on o5 (fun _ =>
  some 0) (fun r => some r))

/-- the model of math/bits.OnesCount32 -/
noncomputable def F53 (a0 : BitVec 32) : Option (Int) :=
  Option.bind (tb ((a0 >>> (24 : Int).toNat).toNat : Int)) fun x1 =>
  Option.bind (tb (((a0 >>> (16 : Int).toNat) &&& (255#32)).toNat : Int)) fun x3 =>
  Option.bind (tb (((a0 >>> (8 : Int).toNat) &&& (255#32)).toNat : Int)) fun x5 =>
  Option.bind (tb ((a0 &&& (255#32)).toNat : Int)) fun x7 =>
  some (w64 (w8 ((w8 ((w8 (x1 + x3)) + x5)) + x7)))

noncomputable def F27_L1 (a0 : List (BitVec 32)) (x30 : BitVec 32) : ((List Int) × (BitVec 32) × Int) → Option (Ctl ((List Int) × (BitVec 32) × Int) ((List Int) × (BitVec 32)) (Unit)) := fun (y39, x41, x42) =>
  cond ((decide (x42 < (a0.length : Int))))
  (Option.bind (α := (List Int) × (BitVec 32)) (Option.bind (shc x42) fun k58 =>
  cond (((((x30 &&& ~~~x41) >>> k58) &&& (1#32)) == (1#32)))
  (Option.bind (shc x42) fun k61 =>
  Option.bind (appl 8 y39 ([x42] : List Int)) fun (y65 : List Int) =>
  some (y65, (x41 ||| ((1#32) <<< k61))))
  (some (y39, x41)))
  fun (y54, x56) =>
  some (.nxt (y54, x56, w64 (x42 + 1))))
  (some (.brk (y39, x41)))
noncomputable def F27_L0 (a0 : List (BitVec 32)) (a1 : Int) : ((List Int) × Int × Bool × (BitVec 32)) → Option (Ctl ((List Int) × Int × Bool × (BitVec 32)) ((List Int) × Int × Bool) (Unit)) := fun (y10, x12, b13, x14) =>
  cond ((decide ((y10.length : Int) > 0)))
  (Option.bind (idx y10 0) fun x28 =>
  Option.bind (idx a0 x28) fun x30 =>
  Option.bind (F53 x30) fun r32 =>
  Option.bind (cond (b13) (some true) (Option.bind (shc a1) fun k37 =>
  some (((x30 >>> k37) &&& (1#32)) == (1#32)))) fun b35 =>
  Option.bind (whileM (F27_L1 a0 x30) (y10, x14, 0)) fun o50 => Ctl.on o50 (fun (y47, x49) =>
  Option.bind (slI y47 1 (y47.length : Int)) fun y68 =>
  some (.nxt (y68, w64 (x12 + r32), b35, x49))) (fun _ => none))
  (some (.brk (y10, x12, b13)))
/-- the model of beaconry/wait.Probe -/
noncomputable def F27 (a0 : List (BitVec 32)) (a1 : Int) : Option (Bool × Int × Int) :=
  Option.bind (F52 a0) fun r1 =>
  cond ((r1 != 0))
  (some (false, 0, r1))
  (cond (((decide (a1 < 0)) || (decide (a1 ≥ (a0.length : Int)))))
  (some (false, 0, 2))
  (Option.bind (shc a1) fun k6 =>
  Option.bind (whileM (F27_L0 a0 a1) (([a1] : List Int), 0, false, ((1#32) <<< k6))) fun o24 => Ctl.on o24 (fun (y20, x22, b23) =>
  some (b23, x22, 0)) (fun _ => none)))

noncomputable def F23_L0 (a0 : List (BitVec 32)) : Int → Option (Ctl (Int) (Unit) (Int)) := fun x3 =>
  cond ((decide (x3 < (a0.length : Int))))
  (Option.bind (idx a0 x3) fun x9 =>
  cond ((decide (((1#32) <<< (u64 (a0.length : Int)).toNat) ≤ x9)))
  (some (.ret 4))
  (some (.nxt (w64 (x3 + 1)))))
  (some (.brk ()))
/-- the model of beaconry/beaconryref.WaitCheck -/
noncomputable def F23 (a0 : List (BitVec 32)) : Option (Int) :=
  cond (((decide ((a0.length : Int) < 1)) || (decide ((a0.length : Int) > 6))))
  (some 1)
  (Option.bind (whileM (F23_L0 a0) 0) fun o5 => Ctl.on o5 (fun _ =>
  some 0) (fun r => some r))

/-- the model of beaconry/beaconryref.Bit -/
noncomputable def F29 (a0 : BitVec 32) (a1 : Int) : Option (Bool) :=
  some (((decide (a1 ≥ 0)) && (decide (a1 < 32))) && ((a0 &&& ((1#32) <<< (u64 a1).toNat)) != (0#32)))

noncomputable def F28_L1 (a0 : List (BitVec 32)) : ((BitVec 32) × Int) → Option (Ctl ((BitVec 32) × Int) ((BitVec 32)) (Unit)) := fun (x12, x13) =>
  cond ((decide (x13 < (a0.length : Int))))
  (Option.bind (α := (BitVec 32)) (Option.bind (F29 x12 x13) fun r23 =>
  cond (r23)
  (Option.bind (idx a0 x13) fun x26 =>
  some (x12 ||| x26))
  (some x12))
  fun x21 =>
  some (.nxt (x21, w64 (x13 + 1))))
  (some (.brk x12))
noncomputable def F28_L0 (a0 : List (BitVec 32)) : ((BitVec 32) × Int) → Option (Ctl ((BitVec 32) × Int) ((BitVec 32)) (Unit)) := fun (x3, x4) =>
  cond ((decide (x4 < (a0.length : Int))))
  (Option.bind (whileM (F28_L1 a0) (x3, 0)) fun o17 => Ctl.on o17 (fun x16 =>
  some (.nxt (x16, w64 (x4 + 1)))) (fun _ => none))
  (some (.brk x3))
/-- the model of beaconry/beaconryref.Reach -/
noncomputable def F28 (a0 : List (BitVec 32)) (a1 : Int) : Option ((BitVec 32)) :=
  Option.bind (idx a0 a1) fun x1 =>
  Option.bind (whileM (F28_L0 a0) (x1, 0)) fun o8 => Ctl.on o8 (fun x7 =>
  some x7) (fun _ => none)

noncomputable def F30_L0 (a0 : BitVec 32) : (Int × Int) → Option (Ctl (Int × Int) (Int) (Unit)) := fun (x1, x2) =>
  cond ((decide (x2 < 32)))
  (Option.bind (α := Int) (Option.bind (F29 a0 x2) fun r12 =>
  cond (r12)
  (some (w64 (x1 + 1)))
  (some x1))
  fun x10 =>
  some (.nxt (x10, w64 (x2 + 1))))
  (some (.brk x1))
/-- the model of beaconry/beaconryref.Size -/
noncomputable def F30 (a0 : BitVec 32) : Option (Int) :=
  Option.bind (whileM (F30_L0 a0) (0, 0)) fun o6 => Ctl.on o6 (fun x5 =>
  some x5) (fun _ => none)

noncomputable def F9_L0 (a0 : List (BitVec 32)) (a1 : Int) (r15 : BitVec 32) : (Int × Int) → Option (Ctl (Int × Int) (Int) (Unit)) := fun (x17, x18) =>
  cond ((decide (x18 < (a0.length : Int))))
  (Option.bind (α := Int) (Option.bind (F29 (r15 ||| ((1#32) <<< (u64 a1).toNat)) x18) fun r28 =>
  cond (r28)
  (Option.bind (idx a0 x18) fun x31 =>
  Option.bind (F30 x31) fun r33 =>
  some (w64 (x17 + r33)))
  (some x17))
  fun x26 =>
  some (.nxt (x26, w64 (x18 + 1))))
  (some (.brk x17))
/-- the model of beaconry/beaconrylaw.WaitProbes -/
noncomputable def F9 (a0 : List (BitVec 32)) (a1 : Int) : Option (Bool) :=
  Option.bind (F27 a0 a1) fun (r1, r2, r3) =>
  Option.bind (F23 a0) fun r5 =>
  Option.bind (α := Int) (cond (((r5 == 0) && ((decide (a1 < 0)) || (decide (a1 ≥ (a0.length : Int))))))
  (some 2)
  (some r5))
  fun x9 =>
  cond ((x9 != 0))
  (some (((r3 == x9) && (!r1)) && (r2 == 0)))
  (Option.bind (F28 a0 a1) fun r15 =>
  Option.bind (whileM (F9_L0 a0 a1 r15) (0, 0)) fun o22 => Ctl.on o22 (fun x21 =>
  Option.bind (cond ((r3 == 0)) (Option.bind (F28 a0 a1) fun r38 =>
  Option.bind (F29 r38 a1) fun r40 =>
  some (r1 == r40)) (some false)) fun b36 =>
  some (b36 && (r2 == x21))) (fun _ => none))
end Go.Proofs.Ytmlfflaelbofmaa
