/-
  Pure models of Go functions, written by a program (gen.py).
-/
import Derived.Test.YtdjmlbjkendobaaBk25
namespace Go.Proofs.Ytdjmlbjkendobaa
open Go Go.Bk
set_option linter.unusedVariables false
@[reducible] def cL94 (x : (BitVec 32) × Int × Int × Int) : List Value := [U x.1, I x.2.1, I x.2.2.1, I x.2.2.2]
/-- the model of (*beaconry/general.camp).told -/
noncomputable def F82_B (rec82 : Int → Int → Bool → (BitVec 32) → (List Bool) → (List ((BitVec 32) × Int × Int × Int)) → Int → Option (Bool)) (a0_0 : Int) (a0_1 : Int) (a0_2 : Bool) (a0_3 : BitVec 32) (a0_4 : List Bool) (a1 : List ((BitVec 32) × Int × Int × Int)) (a2 : Int) : Option (Bool) :=
  Option.bind (unc a1) fun (x1, l2) =>
  Option.bind (shc x1.2.2.2) fun k4 =>
  cond ((((a0_3 >>> k4) &&& (1#32)) == (1#32)))
  (Option.bind (nz (a0_4.length : Int)) fun _ =>
  Option.bind (idx a0_4 ((w64 ((w64 (x1.2.1 * 8)) + a2)).tmod (a0_4.length : Int))) fun x9 =>
  some x9)
  (cond ((x1.2.2.1 == 1))
  (some a0_2)
  (Option.bind (rec82 a0_0 a0_1 a0_2 a0_3 a0_4 l2 x1.2.2.2) fun r13 =>
  some r13))
noncomputable def F82_R : Nat → Int → Int → Bool → (BitVec 32) → (List Bool) → (List ((BitVec 32) × Int × Int × Int)) → Int → Option (Bool)
  | 0 => fun _ _ _ _ _ _ _ => none
  | n + 1 => fun a0_0 a0_1 a0_2 a0_3 a0_4 a1 a2 => F82_B (F82_R n) a0_0 a0_1 a0_2 a0_3 a0_4 a1 a2
noncomputable def F82 (a0_0 : Int) (a0_1 : Int) (a0_2 : Bool) (a0_3 : BitVec 32) (a0_4 : List Bool) (a1 : List ((BitVec 32) × Int × Int × Int)) (a2 : Int) : Option (Bool) := fixO (fun n => F82_R n a0_0 a0_1 a0_2 a0_3 a0_4 a1 a2)

/-- the model of (*beaconry/general.path).on -/
noncomputable def F83 (a0 : List ((BitVec 32) × Int × Int × Int)) (a1 : Int) : Option ((List ((BitVec 32) × Int × Int × Int))) :=
  Option.bind (unc a0) fun (x2, l3) =>
  Option.bind (shc a1) fun k5 =>
  some (((x2.1 ||| ((1#32) <<< k5)), w64 ((w64 (x2.2.1 * 8)) + a1), w64 (x2.2.2.1 + 1), a1) :: a0)

noncomputable def F60_L0 (rec60 : Int → Int → Bool → (BitVec 32) → (List Bool) → (List ((BitVec 32) × Int × Int × Int)) → Int → Option (Bool)) (a0_0 : Int) (a0_1 : Int) (a0_2 : Bool) (a0_3 : BitVec 32) (a0_4 : List Bool) (a1 : List ((BitVec 32) × Int × Int × Int)) (a2 : Int) (x3 : (BitVec 32) × Int × Int × Int) : (Int × Int) → Option (Ctl (Int × Int) (Int) (Unit)) := fun (x10, x11) =>
  cond ((decide (x11 < a0_0)))
  (Option.bind (α := Int) (Option.bind (cond ((x11 == a2)) (some true) (Option.bind (shc x11) fun k24 =>
  some (((x3.1 >>> k24) &&& (1#32)) == (1#32)))) fun b22 =>
  cond (b22)
  (some x10)
  (Option.bind (F83 a1 x11) fun r27 =>
  Option.bind (rec60 a0_0 a0_1 a0_2 a0_3 a0_4 r27 a2) fun r34 =>
  cond (r34)
  (some (w64 (x10 + 1)))
  (some (w64 (x10 - 1)))))
  fun x19 =>
  some (.nxt (x19, w64 (x11 + 1))))
  (some (.brk x10))
/-- the model of (*beaconry/general.camp).believes -/
noncomputable def F60_B (rec60 : Int → Int → Bool → (BitVec 32) → (List Bool) → (List ((BitVec 32) × Int × Int × Int)) → Int → Option (Bool)) (a0_0 : Int) (a0_1 : Int) (a0_2 : Bool) (a0_3 : BitVec 32) (a0_4 : List Bool) (a1 : List ((BitVec 32) × Int × Int × Int)) (a2 : Int) : Option (Bool) :=
  Option.bind (F82 a0_0 a0_1 a0_2 a0_3 a0_4 a1 a2) fun r1 =>
  Option.bind (unc a1) fun (x3, l4) =>
  cond ((x3.2.2.1 == (w64 (a0_1 + 1))))
  (some r1)
  (Option.bind (α := Int) (cond (r1)
  (some 1)
  (some (-1)))
  fun x7 =>
  Option.bind (whileM (F60_L0 rec60 a0_0 a0_1 a0_2 a0_3 a0_4 a1 a2 x3) (x7, 0)) fun o15 => Ctl.on o15 (fun x14 =>
  some (decide (x14 > 0))) (fun _ => none))
noncomputable def F60_R : Nat → Int → Int → Bool → (BitVec 32) → (List Bool) → (List ((BitVec 32) × Int × Int × Int)) → Int → Option (Bool)
  | 0 => fun _ _ _ _ _ _ _ => none
  | n + 1 => fun a0_0 a0_1 a0_2 a0_3 a0_4 a1 a2 => F60_B (F60_R n) a0_0 a0_1 a0_2 a0_3 a0_4 a1 a2
noncomputable def F60 (a0_0 : Int) (a0_1 : Int) (a0_2 : Bool) (a0_3 : BitVec 32) (a0_4 : List Bool) (a1 : List ((BitVec 32) × Int × Int × Int)) (a2 : Int) : Option (Bool) := fixO (fun n => F60_R n a0_0 a0_1 a0_2 a0_3 a0_4 a1 a2)

noncomputable def F36_L0 (a0 : Int) (a1 : Int) (a2 : Bool) (a3 : BitVec 32) (a4 : List Bool) : ((List Bool) × Int) → Option (Ctl ((List Bool) × Int) ((List Bool)) (Unit)) := fun (y18, x20) =>
  cond ((decide (x20 < a0)))
  (Option.bind (F60 a0 a1 a2 a3 a4 ((1#32, 0, 1, 0) :: ([] : List ((BitVec 32) × Int × Int × Int))) x20) fun r30 =>
  Option.bind (appl 1 y18 ([r30] : List Bool)) fun (y34 : List Bool) =>
  some (.nxt (y34, w64 (x20 + 1))))
  (some (.brk y18))
/-- the model of beaconry/general.Play -/
noncomputable def F36 (a0 : Int) (a1 : Int) (a2 : Bool) (a3 : BitVec 32) (a4 : List Bool) : Option ((List Bool) × Int) :=
  cond (((decide (a0 < 1)) || (decide (a0 > 7))))
  (some ([], 1))
  (Option.bind (cond (((decide (a1 < 0)) || (decide (a1 > 2)))) (some true) (Option.bind (shc a0) fun k8 =>
  some ((a3 >>> k8) != (0#32)))) fun b6 =>
  cond (b6)
  (some ([], 4))
  (cond (((a3 != (0#32)) && ((a4.length : Int) == 0)))
  (some ([], 3))
  (Option.bind (whileM (F36_L0 a0 a1 a2 a3 a4) (([a2] : List Bool), 1)) fun o26 => Ctl.on o26 (fun y24 =>
  some (y24, 0)) (fun _ => none))))

/-- the model of beaconry/beaconryref.Bit -/
noncomputable def F23 (a0 : BitVec 32) (a1 : Int) : Option (Bool) :=
  some (((decide (a1 ≥ 0)) && (decide (a1 < 32))) && ((a0 &&& ((1#32) <<< (u64 a1).toNat)) != (0#32)))

noncomputable def F61_L0 (a3 : List Int) : (Int × Int) → Option (Ctl (Int × Int) (Int) (Unit)) := fun (x6, x7) =>
  cond ((decide (x7 < (a3.length : Int))))
  (Option.bind (idx a3 x7) fun x15 =>
  some (.nxt (w64 ((w64 (x6 * 8)) + x15), w64 (x7 + 1))))
  (some (.brk x6))
/-- the model of beaconry/beaconryref.Said -/
noncomputable def F61_B (rec61 : Bool → (BitVec 32) → (List Bool) → (List Int) → Int → Option (Bool)) (a0 : Bool) (a1 : BitVec 32) (a2 : List Bool) (a3 : List Int) (a4 : Int) : Option (Bool) :=
  Option.bind (idx a3 (w64 ((a3.length : Int) - 1))) fun x1 =>
  Option.bind (F23 a1 x1) fun r3 =>
  cond (r3)
  (Option.bind (whileM (F61_L0 a3) (0, 0)) fun o11 => Ctl.on o11 (fun x10 =>
  Option.bind (nz (a2.length : Int)) fun _ =>
  Option.bind (idx a2 ((w64 ((w64 (x10 * 8)) + a4)).tmod (a2.length : Int))) fun x19 =>
  some x19) (fun _ => none))
  (cond (((a3.length : Int) == 1))
  (some a0)
  (Option.bind (slI a3 0 (w64 ((a3.length : Int) - 1))) fun y22 =>
  Option.bind (rec61 a0 a1 a2 y22 x1) fun r25 =>
  some r25))
noncomputable def F61_R : Nat → Bool → (BitVec 32) → (List Bool) → (List Int) → Int → Option (Bool)
  | 0 => fun _ _ _ _ _ => none
  | n + 1 => fun a0 a1 a2 a3 a4 => F61_B (F61_R n) a0 a1 a2 a3 a4
noncomputable def F61 (a0 : Bool) (a1 : BitVec 32) (a2 : List Bool) (a3 : List Int) (a4 : Int) : Option (Bool) := fixO (fun n => F61_R n a0 a1 a2 a3 a4)

noncomputable def F62_L0 (a0 : List Int) (a1 : Int) : Int → Option (Ctl (Int) (Unit) (Bool)) := fun x1 =>
  cond ((decide (x1 < (a0.length : Int))))
  (Option.bind (idx a0 x1) fun x7 =>
  cond ((a1 == x7))
  (some (.ret true))
  (some (.nxt (w64 (x1 + 1)))))
  (some (.brk ()))
/-- the model of beaconry/beaconryref.Has -/
noncomputable def F62 (a0 : List Int) (a1 : Int) : Option (Bool) :=
  Option.bind (whileM (F62_L0 a0 a1) 0) fun o3 => Ctl.on o3 (fun _ =>
  some false) (fun r => some r)

noncomputable def F37_L0 (rec37 : Int → Int → Bool → (BitVec 32) → (List Bool) → (List Int) → Int → Option (Bool)) (a0 : Int) (a1 : Int) (a2 : Bool) (a3 : BitVec 32) (a4 : List Bool) (a5 : List Int) (a6 : Int) : (Int × Int × Int) → Option (Ctl (Int × Int × Int) (Int × Int) (Unit)) := fun (x7, x8, x9) =>
  cond ((decide (x9 < a0)))
  (Option.bind (α := Int × Int) (Option.bind (cond ((x9 != a6)) (Option.bind (F62 a5 x9) fun r25 =>
  some (!r25)) (some false)) fun b23 =>
  cond (b23)
  (Option.bind (appl 8 ([] : List Int) a5) fun (y30 : List Int) =>
  Option.bind (appl 8 y30 ([x9] : List Int)) fun (y35 : List Int) =>
  Option.bind (rec37 a0 a1 a2 a3 a4 y35 a6) fun r38 =>
  cond (r38)
  (some (w64 (x7 + 1), w64 (x8 + 1)))
  (some (x7, w64 (x8 + 1))))
  (some (x7, x8)))
  fun (x19, x20) =>
  some (.nxt (x19, x20, w64 (x9 + 1))))
  (some (.brk (x7, x8)))
/-- the model of beaconry/beaconryref.Believes -/
noncomputable def F37_B (rec37 : Int → Int → Bool → (BitVec 32) → (List Bool) → (List Int) → Int → Option (Bool)) (a0 : Int) (a1 : Int) (a2 : Bool) (a3 : BitVec 32) (a4 : List Bool) (a5 : List Int) (a6 : Int) : Option (Bool) :=
  Option.bind (F61 a2 a3 a4 a5 a6) fun r1 =>
  cond (((a5.length : Int) == (w64 (a1 + 1))))
  (some r1)
  (Option.bind (α := Int) (cond (r1)
  (some 1)
  (some 0))
  fun x4 =>
  Option.bind (whileM (F37_L0 rec37 a0 a1 a2 a3 a4 a5 a6) (x4, 1, 0)) fun o15 => Ctl.on o15 (fun (x13, x14) =>
  some (decide ((w64 (x13 + x13)) > x14))) (fun _ => none))
noncomputable def F37_R : Nat → Int → Int → Bool → (BitVec 32) → (List Bool) → (List Int) → Int → Option (Bool)
  | 0 => fun _ _ _ _ _ _ _ => none
  | n + 1 => fun a0 a1 a2 a3 a4 a5 a6 => F37_B (F37_R n) a0 a1 a2 a3 a4 a5 a6
noncomputable def F37 (a0 : Int) (a1 : Int) (a2 : Bool) (a3 : BitVec 32) (a4 : List Bool) (a5 : List Int) (a6 : Int) : Option (Bool) := fixO (fun n => F37_R n a0 a1 a2 a3 a4 a5 a6)

noncomputable def F12_L0 (a0 : Int) (a1 : Int) (a2 : Bool) (a3 : BitVec 32) (a4 : List Bool) (r1 : List Bool) : Int → Option (Ctl (Int) (Unit) (Bool)) := fun x24 =>
  cond ((decide (x24 < a0)))
  (Option.bind (idx r1 x24) fun xq30_2_1 =>
  Option.bind (F37 a0 a1 a2 a3 a4 ([0] : List Int) x24) fun rq30_11_1 =>
  cond ((xq30_2_1 != rq30_11_1))
  (some (.ret false))
  (some (.nxt (w64 (x24 + 1)))))
  (some (.brk ()))
/-- the model of beaconry/beaconrylaw.GeneralPlays -/
noncomputable def F12 (a0 : Int) (a1 : Int) (a2 : Bool) (a3 : BitVec 32) (a4 : List Bool) : Option (Bool) :=
  Option.bind (F36 a0 a1 a2 a3 a4) fun (r1, r2) =>
  Option.bind (α := Int) (cond (((decide (a0 < 1)) || (decide (a0 > 7))))
  (some 1)
  (cond ((((decide (a1 < 0)) || (decide (a1 > 2))) || (decide (((1#32) <<< (u64 a0).toNat) ≤ a3))))
  (some 4)
  (cond (((a3 != (0#32)) && ((a4.length : Int) == 0)))
  (some 3)
  (some 0))))
  fun x7 =>
  cond ((x7 != 0))
  (some ((r2 == x7) && ((r1.length : Int) == 0)))
  (Option.bind (cond (((r2 != 0) || ((r1.length : Int) != a0))) (some true) (Option.bind (idx r1 0) fun x21 =>
  some (x21 != a2))) fun b19 =>
  cond (b19)
  (some false)
  (Option.bind (whileM (F12_L0 a0 a1 a2 a3 a4 r1) 1) fun o26 => Ctl.on o26 (fun _ =>
  some true) (fun r => some r)))
end Go.Proofs.Ytdjmlbjkendobaa
