/-
  Pure models of Go functions, written by a program (gen.py).
-/
import Derived.Test.YtmlfflaelbofmaaBk20
namespace Go.Proofs.Ytmlfflaelbofmaa
open Go Go.Bk
set_option linter.unusedVariables false
@[reducible] def cTiiibi (x : Int × Int × Int × Bool × Int) : List Value := [I x.1, I x.2.1, I x.2.2.1, .bool x.2.2.2.1, I x.2.2.2.2]
noncomputable def F15_L2 (x18 : Int × Int × Int × Bool × Int) (y21 : List (Int × Int × Int × Bool × Int)) : Int → Option (Ctl (Int) (Unit) (Int)) := fun x24 =>
  cond ((decide (x24 < (y21.length : Int))))
  (Option.bind (idx y21 x24) fun x30 =>
  cond ((((x18.1 == x30.1) && (decide (x18.2.2.1 > x30.2.1))) && (decide (x30.2.2.1 > x18.2.1))))
  (some (.ret 3))
  (some (.nxt (w64 (x24 + 1)))))
  (some (.brk ()))
noncomputable def F15_L1 (a0 : List (Int × Int × Int × Bool × Int)) : Int → Option (Ctl (Int) (Unit) (Int)) := fun x12 =>
  cond ((decide (x12 < (a0.length : Int))))
  (Option.bind (idx a0 x12) fun x18 =>
  Option.bind (slI a0 0 x12) fun y21 =>
  Option.bind (whileM (F15_L2 x18 y21) 0) fun o26 => Ctl.on o26 (fun _ =>
  some (.nxt (w64 (x12 + 1)))) (fun r => some (.ret r)))
  (some (.brk ()))
noncomputable def F15_L0 (a0 : List (Int × Int × Int × Bool × Int)) : Int → Option (Ctl (Int) (Unit) (Int)) := fun x2 =>
  cond ((decide (x2 < (a0.length : Int))))
  (Option.bind (idx a0 x2) fun x8 =>
  cond ((decide (x8.2.2.1 ≤ x8.2.1)))
  (some (.ret 4))
  (some (.nxt (w64 (x2 + 1)))))
  (some (.brk ()))
/-- the model of beaconry/line.Check -/
noncomputable def F15 (a0 : List (Int × Int × Int × Bool × Int)) : Option (Int) :=
  cond ((decide ((a0.length : Int) > 8)))
  (some 1)
  (Option.bind (whileM (F15_L0 a0) 0) fun o4 => Ctl.on o4 (fun _ =>
  Option.bind (whileM (F15_L1 a0) 0) fun o14 => Ctl.on o14 (fun _ =>
  some 0) (fun r => some r)) (fun r => some r))

noncomputable def F70_L0 (a0_0 : List (Int × Int × Int × Bool × Int)) (a0_1 : ((Int × Int × Int × Bool × Int) × Int × Int × Int × Bool × Int) → Option Bool) (a1 : BitVec 32) (a2 : Int × Int × Int × Bool × Int) : Int → Option (Ctl (Int) (Unit) (Bool)) := fun x2 =>
  cond ((decide (x2 < (a0_0.length : Int))))
  (Option.bind (idx a0_0 x2) fun x8 =>
  Option.bind (shc x2) fun k11 =>
  Option.bind (cond ((((a1 >>> k11) &&& (1#32)) == (0#32))) (Option.bind (a0_1 ((x8.1, x8.2.1, x8.2.2.1, x8.2.2.2.1, x8.2.2.2.2), (a2.1, a2.2.1, a2.2.2.1, a2.2.2.2.1, a2.2.2.2.2))) fun r16 =>
  some r16) (some false)) fun b14 =>
  cond (b14)
  (some (.ret true))
  (some (.nxt (w64 (x2 + 1)))))
  (some (.brk ()))
/-- the model of (*beaconry/line.finder).waits -/
noncomputable def F70 (a0_0 : List (Int × Int × Int × Bool × Int)) (a0_1 : ((Int × Int × Int × Bool × Int) × Int × Int × Int × Bool × Int) → Option Bool) (a1 : BitVec 32) (a2 : Int × Int × Int × Bool × Int) : Option (Bool) :=
  Option.bind (whileM (F70_L0 a0_0 a0_1 a1 a2) 0) fun o4 => Ctl.on o4 (fun _ =>
  some false) (fun r => some r)

noncomputable def F64_L0 (rec64 : (List (Int × Int × Int × Bool × Int)) → (((Int × Int × Int × Bool × Int) × Int × Int × Int × Bool × Int) → Option Bool) → (List (((BitVec 32) × BitVec 32) × Bool)) → (BitVec 32) → Int → Option ((List Int) × Bool × (List (((BitVec 32) × BitVec 32) × Bool)))) (a0_0 : List (Int × Int × Int × Bool × Int)) (a0_1 : ((Int × Int × Int × Bool × Int) × Int × Int × Int × Bool × Int) → Option Bool) (a1 : BitVec 32) (a2 : Int) (x8 : Int) : ((List (((BitVec 32) × BitVec 32) × Bool)) × Int) → Option (Ctl ((List (((BitVec 32) × BitVec 32) × Bool)) × Int) ((List (((BitVec 32) × BitVec 32) × Bool))) ((List Int) × Bool × (List (((BitVec 32) × BitVec 32) × Bool)))) := fun (y13, x14) =>
  cond ((decide (x14 < (a0_0.length : Int))))
  (Option.bind (idx a0_0 x14) fun x22 =>
  Option.bind (shc x14) fun k25 =>
  Option.bind (cond ((((a1 >>> k25) &&& (1#32)) == (1#32))) (some true) (Option.bind (F70 a0_0 a0_1 a1 (x22.1, x22.2.1, x22.2.2.1, x22.2.2.2.1, x22.2.2.2.2)) fun r30 =>
  some r30)) fun b28 =>
  cond ((b28 || ((!x22.2.2.2.1) && (x22.2.2.2.2 != x8))))
  (some (.nxt (y13, w64 (x14 + 1))))
  (Option.bind (α := Int) (cond (x22.2.2.2.1)
  (some x14)
  (some a2))
  fun x35 =>
  Option.bind (shc x14) fun k38 =>
  Option.bind (rec64 a0_0 a0_1 y13 (a1 ||| ((1#32) <<< k38)) x35) fun (r40, r41, r42) =>
  cond (r41)
  (Option.bind (appl 8 ([x14] : List Int) r40) fun (y49 : List Int) =>
  some (.ret (y49, true, r42)))
  (some (.nxt (r42, w64 (x14 + 1))))))
  (some (.brk y13))
/-- the model of (*beaconry/line.finder).find -/
noncomputable def F64_B (rec64 : (List (Int × Int × Int × Bool × Int)) → (((Int × Int × Int × Bool × Int) × Int × Int × Int × Bool × Int) → Option Bool) → (List (((BitVec 32) × BitVec 32) × Bool)) → (BitVec 32) → Int → Option ((List Int) × Bool × (List (((BitVec 32) × BitVec 32) × Bool)))) (a0_0 : List (Int × Int × Int × Bool × Int)) (a0_1 : ((Int × Int × Int × Bool × Int) × Int × Int × Int × Bool × Int) → Option Bool) (a0_2 : List (((BitVec 32) × BitVec 32) × Bool)) (a1 : BitVec 32) (a2 : Int) : Option ((List Int) × Bool × (List (((BitVec 32) × BitVec 32) × Bool))) :=
  Option.bind (shc (a0_0.length : Int)) fun k3 =>
  cond ((a1 == (((1#32) <<< k3) - (1#32))))
  (some ([], true, a0_2))
  (cond ((mgetG false a0_2 (a1, BitVec.ofInt 32 (w64 (a2 + 1)))))
  (some ([], false, a0_2))
  (Option.bind (α := Int) (cond ((decide (a2 ≥ 0)))
  (Option.bind (idx a0_0 a2) fun x11 =>
  some x11.2.2.2.2)
  (some 0))
  fun x8 =>
  Option.bind (whileM (F64_L0 rec64 a0_0 a0_1 a1 a2 x8) (a0_2, 0)) fun o18 => Ctl.on o18 (fun y17 =>
  some ([], false, msetG y17 (a1, BitVec.ofInt 32 (w64 (a2 + 1))) true)) (fun r => some r)))
noncomputable def F64_R : Nat → (List (Int × Int × Int × Bool × Int)) → (((Int × Int × Int × Bool × Int) × Int × Int × Int × Bool × Int) → Option Bool) → (List (((BitVec 32) × BitVec 32) × Bool)) → (BitVec 32) → Int → Option ((List Int) × Bool × (List (((BitVec 32) × BitVec 32) × Bool)))
  | 0 => fun _ _ _ _ _ => none
  | n + 1 => fun a0_0 a0_1 a0_2 a1 a2 => F64_B (F64_R n) a0_0 a0_1 a0_2 a1 a2
noncomputable def F64 (a0_0 : List (Int × Int × Int × Bool × Int)) (a0_1 : ((Int × Int × Int × Bool × Int) × Int × Int × Int × Bool × Int) → Option Bool) (a0_2 : List (((BitVec 32) × BitVec 32) × Bool)) (a1 : BitVec 32) (a2 : Int) : Option ((List Int) × Bool × (List (((BitVec 32) × BitVec 32) × Bool))) := fixO (fun n => F64_R n a0_0 a0_1 a0_2 a1 a2)

/-- the model of beaconry/line.order -/
noncomputable def F43 (a0 : List (Int × Int × Int × Bool × Int)) (a1 : ((Int × Int × Int × Bool × Int) × Int × Int × Int × Bool × Int) → Option Bool) : Option ((List Int) × Bool) :=
  Option.bind (F64 a0 a1 ([] : List (((BitVec 32) × BitVec 32) × Bool)) (0#32) (-1)) fun (r7, r8, r9) =>
  some (r7, r8)

/-- the model of beaconry/line.same -/
noncomputable def F44 (a0 : Int × Int × Int × Bool × Int) (a1 : Int × Int × Int × Bool × Int) : Option (Bool) :=
  some ((a0.1 == a1.1) && (decide (a0.2.1 < a1.2.1)))

/-- the model of beaconry/line.Each -/
noncomputable def F17 (a0 : List (Int × Int × Int × Bool × Int)) : Option (Bool × Int) :=
  Option.bind (F15 a0) fun r1 =>
  cond ((r1 != 0))
  (some (false, r1))
  (Option.bind (F43 a0 (fun z => F44 z.1 z.2)) fun (r4, r5) =>
  some (r5, 0))

noncomputable def F16_L2 (a0 : List (Int × Int × Int × Bool × Int)) (x12 : Int) (x18 : Int × Int × Int × Bool × Int) : Int → Option (Ctl (Int) (Unit) (Int)) := fun x21 =>
  cond ((decide (x21 < (a0.length : Int))))
  (Option.bind (idx a0 x21) fun x27 =>
  cond ((((x12 != x21) && (x18.1 == x27.1)) && (!((decide (x18.2.2.1 ≤ x27.2.1)) || (decide (x27.2.2.1 ≤ x18.2.1))))))
  (some (.ret 3))
  (some (.nxt (w64 (x21 + 1)))))
  (some (.brk ()))
noncomputable def F16_L1 (a0 : List (Int × Int × Int × Bool × Int)) : Int → Option (Ctl (Int) (Unit) (Int)) := fun x12 =>
  cond ((decide (x12 < (a0.length : Int))))
  (Option.bind (idx a0 x12) fun x18 =>
  Option.bind (whileM (F16_L2 a0 x12 x18) 0) fun o23 => Ctl.on o23 (fun _ =>
  some (.nxt (w64 (x12 + 1)))) (fun r => some (.ret r)))
  (some (.brk ()))
noncomputable def F16_L0 (a0 : List (Int × Int × Int × Bool × Int)) : Int → Option (Ctl (Int) (Unit) (Int)) := fun x2 =>
  cond ((decide (x2 < (a0.length : Int))))
  (Option.bind (idx a0 x2) fun x8 =>
  cond ((decide (x8.2.2.1 ≤ x8.2.1)))
  (some (.ret 4))
  (some (.nxt (w64 (x2 + 1)))))
  (some (.brk ()))
/-- the model of beaconry/beaconryref.LineCheck -/
noncomputable def F16 (a0 : List (Int × Int × Int × Bool × Int)) : Option (Int) :=
  cond ((decide ((a0.length : Int) > 8)))
  (some 1)
  (Option.bind (whileM (F16_L0 a0) 0) fun o4 => Ctl.on o4 (fun _ =>
  Option.bind (whileM (F16_L1 a0) 0) fun o14 => Ctl.on o14 (fun _ =>
  some 0) (fun r => some r)) (fun r => some r))

noncomputable def F45_L0 (a0 : List Int) (a1 : Int) : Int → Option (Ctl (Int) (Unit) (Bool)) := fun x1 =>
  cond ((decide (x1 < (a0.length : Int))))
  (Option.bind (idx a0 x1) fun x7 =>
  cond ((a1 == x7))
  (some (.ret true))
  (some (.nxt (w64 (x1 + 1)))))
  (some (.brk ()))
/-- the model of beaconry/beaconryref.Has -/
noncomputable def F45 (a0 : List Int) (a1 : Int) : Option (Bool) :=
  Option.bind (whileM (F45_L0 a0 a1) 0) fun o3 => Ctl.on o3 (fun _ =>
  some false) (fun r => some r)

noncomputable def F18_L2 (a0 : List (Int × Int × Int × Bool × Int)) (a1 : List Int) (a2 : Bool) (x21 : Int) (x27 : Int × Int × Int × Bool × Int) : (Bool × Int) → Option (Ctl (Bool × Int) (Bool) (Unit)) := fun (b34, x35) =>
  cond ((decide (x35 < (a0.length : Int))))
  (Option.bind (α := Bool) (Option.bind (idx a0 x35) fun x45 =>
  Option.bind (cond ((x35 != x21)) (Option.bind (F45 a1 x35) fun r51 =>
  some (!r51)) (some false)) fun b49 =>
  cond ((b49 && ((a2 && (decide (x45.2.2.1 < x27.2.1))) || ((x45.1 == x27.1) && (decide (x45.2.1 < x27.2.1))))))
  (some false)
  (some b34))
  fun b43 =>
  some (.nxt (b43, w64 (x35 + 1))))
  (some (.brk b34))
noncomputable def F18_L1 (rec18 : (List (Int × Int × Int × Bool × Int)) → (List Int) → Bool → Option ((List Int) × Bool)) (a0 : List (Int × Int × Int × Bool × Int)) (a1 : List Int) (a2 : Bool) (x6 : Int) : Int → Option (Ctl (Int) (Unit) ((List Int) × Bool)) := fun x21 =>
  cond ((decide (x21 < (a0.length : Int))))
  (Option.bind (idx a0 x21) fun x27 =>
  Option.bind (F45 a1 x21) fun r30 =>
  Option.bind (whileM (F18_L2 a0 a1 a2 x21 x27) (((!r30) && (x27.2.2.2.1 || (x27.2.2.2.2 == x6))), 0)) fun o39 => Ctl.on o39 (fun b38 =>
  cond (b38)
  (Option.bind (appl 8 ([] : List Int) a1) fun (y61 : List Int) =>
  Option.bind (appl 8 y61 ([x21] : List Int)) fun (y66 : List Int) =>
  Option.bind (rec18 a0 y66 a2) fun (r69, r70) =>
  cond (r70)
  (some (.ret (r69, true)))
  (some (.nxt (w64 (x21 + 1)))))
  (some (.nxt (w64 (x21 + 1))))) (fun _ => none))
  (some (.brk ()))
noncomputable def F18_L0 (a0 : List (Int × Int × Int × Bool × Int)) (a1 : List Int) : (Int × Int) → Option (Ctl (Int × Int) (Int) (Unit)) := fun (x2, x3) =>
  cond ((decide (x3 < (a1.length : Int))))
  (Option.bind (α := Int) (Option.bind (idx a1 x3) fun x13 =>
  Option.bind (idx a0 x13) fun x15 =>
  cond (x15.2.2.2.1)
  (Option.bind (idx a0 x13) fun x18 =>
  some x18.2.2.2.2)
  (some x2))
  fun x11 =>
  some (.nxt (x11, w64 (x3 + 1))))
  (some (.brk x2))
/-- the model of beaconry/beaconryref.Lined -/
noncomputable def F18_B (rec18 : (List (Int × Int × Int × Bool × Int)) → (List Int) → Bool → Option ((List Int) × Bool)) (a0 : List (Int × Int × Int × Bool × Int)) (a1 : List Int) (a2 : Bool) : Option ((List Int) × Bool) :=
  Option.bind (whileM (F18_L0 a0 a1) (0, 0)) fun o7 => Ctl.on o7 (fun x6 =>
  cond (((a1.length : Int) == (a0.length : Int)))
  (some (a1, true))
  (Option.bind (whileM (F18_L1 rec18 a0 a1 a2 x6) 0) fun o23 => Ctl.on o23 (fun _ =>
  some ([], false)) (fun r => some r))) (fun _ => none)
noncomputable def F18_R : Nat → (List (Int × Int × Int × Bool × Int)) → (List Int) → Bool → Option ((List Int) × Bool)
  | 0 => fun _ _ _ => none
  | n + 1 => fun a0 a1 a2 => F18_B (F18_R n) a0 a1 a2
noncomputable def F18 (a0 : List (Int × Int × Int × Bool × Int)) (a1 : List Int) (a2 : Bool) : Option ((List Int) × Bool) := fixO (fun n => F18_R n a0 a1 a2)

/-- the model of beaconry/beaconrylaw.LineEaches -/
noncomputable def F4 (a0 : List (Int × Int × Int × Bool × Int)) : Option (Bool) :=
  Option.bind (F17 a0) fun (r1, r2) =>
  Option.bind (F16 a0) fun r4 =>
  cond ((r4 != 0))
  (some ((r2 == r4) && (!r1)))
  (Option.bind (F18 a0 [] false) fun (r8, r9) =>
  some ((r2 == 0) && (r1 == r9)))

/-- the model of beaconry/line.ended -/
noncomputable def F47 (a0 : Int × Int × Int × Bool × Int) (a1 : Int × Int × Int × Bool × Int) : Option (Bool) :=
  some (decide (a0.2.2.1 < a1.2.1))

/-- the model of beaconry/line.Line$1 -/
noncomputable def F46 (a0 : Int × Int × Int × Bool × Int) (a1 : Int × Int × Int × Bool × Int) : Option (Bool) :=
  Option.bind (F47 (a0.1, a0.2.1, a0.2.2.1, a0.2.2.2.1, a0.2.2.2.2) (a1.1, a1.2.1, a1.2.2.1, a1.2.2.2.1, a1.2.2.2.2)) fun r3 =>
  Option.bind (cond (r3) (some true) (Option.bind (F44 (a0.1, a0.2.1, a0.2.2.1, a0.2.2.2.1, a0.2.2.2.2) (a1.1, a1.2.1, a1.2.2.1, a1.2.2.2.1, a1.2.2.2.2)) fun r8 =>
  some r8)) fun b6 =>
  some b6

/-- the model of beaconry/line.Line -/
noncomputable def F19 (a0 : List (Int × Int × Int × Bool × Int)) : Option (Bool × Int) :=
  Option.bind (F15 a0) fun r1 =>
  cond ((r1 != 0))
  (some (false, r1))
  (Option.bind (F43 a0 (fun z => F46 z.1 z.2)) fun (r4, r5) =>
  some (r5, 0))

/-- the model of beaconry/beaconrylaw.LineTells -/
noncomputable def F5 (a0 : List (Int × Int × Int × Bool × Int)) : Option (Bool) :=
  Option.bind (F19 a0) fun (r1, r2) =>
  Option.bind (F16 a0) fun r4 =>
  cond ((r4 != 0))
  (some ((r2 == r4) && (!r1)))
  (Option.bind (F18 a0 [] true) fun (r8, r9) =>
  some ((r2 == 0) && (r1 == r9)))

/-- the model of beaconry/line.Order$1 -/
noncomputable def F48 (a0 : Int × Int × Int × Bool × Int) (a1 : Int × Int × Int × Bool × Int) : Option (Bool) :=
  Option.bind (F47 (a0.1, a0.2.1, a0.2.2.1, a0.2.2.2.1, a0.2.2.2.2) (a1.1, a1.2.1, a1.2.2.1, a1.2.2.2.1, a1.2.2.2.2)) fun r3 =>
  Option.bind (cond (r3) (some true) (Option.bind (F44 (a0.1, a0.2.1, a0.2.2.1, a0.2.2.2.1, a0.2.2.2.2) (a1.1, a1.2.1, a1.2.2.1, a1.2.2.2.1, a1.2.2.2.2)) fun r8 =>
  some r8)) fun b6 =>
  some b6

/-- the model of beaconry/line.Order -/
noncomputable def F20 (a0 : List (Int × Int × Int × Bool × Int)) : Option ((List Int) × Int) :=
  Option.bind (F15 a0) fun r2 =>
  cond ((r2 != 0))
  (some ([], r2))
  (Option.bind (F43 a0 (fun z => F48 z.1 z.2)) fun (r5, r6) =>
  cond ((!r6))
  (some ([], 5))
  (some (r5, 0)))

noncomputable def F21_L0 (a0 : List Int) (a1 : List Int) : Int → Option (Ctl (Int) (Unit) (Bool)) := fun x2 =>
  cond ((decide (x2 < (a0.length : Int))))
  (Option.bind (idx a0 x2) fun x8 =>
  Option.bind (idx a1 x2) fun x10 =>
  cond ((x8 != x10))
  (some (.ret false))
  (some (.nxt (w64 (x2 + 1)))))
  (some (.brk ()))
/-- the model of beaconry/beaconryref.Ints -/
noncomputable def F21 (a0 : List Int) (a1 : List Int) : Option (Bool) :=
  cond (((a0.length : Int) != (a1.length : Int)))
  (some false)
  (Option.bind (whileM (F21_L0 a0 a1) 0) fun o4 => Ctl.on o4 (fun _ =>
  some true) (fun r => some r))

/-- the model of beaconry/beaconrylaw.LineOrders -/
noncomputable def F6 (a0 : List (Int × Int × Int × Bool × Int)) : Option (Bool) :=
  Option.bind (F20 a0) fun (r1, r2) =>
  Option.bind (F16 a0) fun r6 =>
  cond ((r6 != 0))
  (some ((r2 == r6) && ((r1.length : Int) == 0)))
  (Option.bind (F18 a0 [] true) fun (r10, r11) =>
  cond ((!r11))
  (some ((r2 == 5) && ((r1.length : Int) == 0)))
  (Option.bind (cond ((r2 == 0)) (Option.bind (F21 r1 r10) fun r22 =>
  some r22) (some false)) fun b20 =>
  some b20))
end Go.Proofs.Ytmlfflaelbofmaa
