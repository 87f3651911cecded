/-
  Pure models of Go functions, written by a program (gen.py).
-/
import Derived.Test.YtadfgohglcglcaaDoorBk38
import Derived.Test.YtadfgohglcglcaaDoorSM
import Derived.Test.YtadfgohglcglcaaDoorNM
import Derived.Test.YtadfgohglcglcaaDoorKM
import Derived.Test.YtadfgohglcglcaaDoorXM
namespace Go.Proofs.YtadfgohglcglcaaDoor
open Go Go.Bk
set_option linter.unusedVariables false

noncomputable def F12_L0 (yq8_6_1 : List Int) : Int → Option (Ctl (Int) (Unit) (Bool)) := fun x9 =>
  cond ((decide (x9 < (yq8_6_1.length : Int))))
  (Option.bind (idx yq8_6_1 x9) fun x15 =>
  cond ((decide (x15 < 0)))
  (some (.ret false))
  (some (.nxt (w64 (x9 + 1)))))
  (some (.brk ()))
/-- the model of beaconry/beaconrytop.kept -/
noncomputable def F12 (a0 : (List (Int × ByteArray × Int × List ByteArray)) × (List Int) × List Int) (a1 : Int) (a2 : Int) : Option (Bool) :=
  cond (((((a0.1.length : Int) != a2) || ((a0.2.1.length : Int) != a1)) || ((a0.2.2.length : Int) != 6)))
  (some false)
  (Option.bind (appl 8 ([] : List Int) a0.2.1) fun (yq8_3_1 : List Int) =>
  Option.bind (appl 8 yq8_3_1 a0.2.2) fun (yq8_6_1 : List Int) =>
  Option.bind (whileM (F12_L0 yq8_6_1) 0) fun o11 => Ctl.on o11 (fun _ =>
  some true) (fun r => some r))

noncomputable def F3_L1 (a0 : Int) (r6 : (List (Int × ByteArray × Int × List ByteArray)) × (List Int) × List Int) (r20 : (List (Int × ByteArray × Int × List ByteArray)) × (List Int) × List Int) : Int → Option (Ctl (Int) (Unit) (Bool)) := fun x66 =>
  cond ((decide (x66 < a0)))
  (Option.bind (idx r20.2.1 x66) fun x72 =>
  Option.bind (idx r6.2.1 x66) fun x74 =>
  cond ((decide (x72 < x74)))
  (some (.ret false))
  (some (.nxt (w64 (x66 + 1)))))
  (some (.brk ()))
noncomputable def F3_L0 (r6 : (List (Int × ByteArray × Int × List ByteArray)) × (List Int) × List Int) (r20 : (List (Int × ByteArray × Int × List ByteArray)) × (List Int) × List Int) : Int → Option (Ctl (Int) (Unit) (Bool)) := fun x55 =>
  cond ((decide (x55 < 6)))
  (Option.bind (idx r20.2.2 x55) fun x61 =>
  Option.bind (idx r6.2.2 x55) fun x63 =>
  cond ((decide (x61 < x63)))
  (some (.ret false))
  (some (.nxt (w64 (x55 + 1)))))
  (some (.brk ()))
/-- the model of beaconry/beaconrytop.TopBack -/
noncomputable def F3 (a0 : Int) (a1 : List (Int × Int × Int × Int × ByteArray × ByteArray × Int)) (a2 : Int) : Option (Bool) :=
  Option.bind (nz (w64 ((a1.length : Int) + 1))) fun _ =>
  Option.bind (slI a1 0 ((w64 a2).tmod (w64 ((a1.length : Int) + 1)))) fun y3 =>
  Option.bind (F10 a0 y3) fun (r6, r7) =>
  Option.bind (F10 a0 a1) fun (r20, r21) =>
  cond ((r21 != 0))
  (Option.bind (F11 a0 (a1.length : Int)) fun r35 =>
  some (r35 != 0))
  (Option.bind (cond ((r7 != 0)) (some true) (Option.bind (F12 (r6.1, r6.2.1, r6.2.2) a0 ((w64 a2).tmod (w64 ((a1.length : Int) + 1)))) fun r40 =>
  some (!r40))) fun b38 =>
  Option.bind (cond (b38) (some true) (Option.bind (F12 (r20.1, r20.2.1, r20.2.2) a0 (a1.length : Int)) fun r45 =>
  some (!r45))) fun b43 =>
  Option.bind (cond (b43) (some true) (Option.bind (slI r20.1 0 ((w64 a2).tmod (w64 ((a1.length : Int) + 1)))) fun (y50 : List (Int × ByteArray × Int × List ByteArray)) =>
  Option.bind (F13 r6.1 y50) fun r52 =>
  some (!r52))) fun b48 =>
  cond (b48)
  (some false)
  (Option.bind (whileM (F3_L0 r6 r20) 0) fun o57 => Ctl.on o57 (fun _ =>
  Option.bind (whileM (F3_L1 a0 r6 r20) 0) fun o68 => Ctl.on o68 (fun _ =>
  some true) (fun r => some r)) (fun r => some r)))

/-- the model of beaconry/beaconrytop.writes -/
noncomputable def F28 (a0 : Int × Int × Int × Int × ByteArray × ByteArray × Int) : Option (Bool) :=
  some (((((a0.1 == 1) && (decide (a0.2.1 ≥ 0))) && (decide (a0.2.1 < 6))) && (decide (a0.2.2.2.1 ≥ 1))) && (decide (a0.2.2.2.1 ≤ 3)))

noncomputable def F14_L0 (a0 : List (Int × Int × Int × Int × ByteArray × ByteArray × Int)) : ((List (Int × ByteArray × ByteArray × Int)) × (List Int) × Int) → Option (Ctl ((List (Int × ByteArray × ByteArray × Int)) × (List Int) × Int) ((List (Int × ByteArray × ByteArray × Int)) × (List Int)) (Unit)) := fun (y5, y8, x9) =>
  cond ((decide (x9 < (a0.length : Int))))
  (Option.bind (α := (List (Int × ByteArray × ByteArray × Int)) × (List Int)) (Option.bind (idx a0 x9) fun x32 =>
  Option.bind (F28 (x32.1, x32.2.1, x32.2.2.1, (x32.2.2.2.1, x32.2.2.2.2.1, x32.2.2.2.2.2.1, x32.2.2.2.2.2.2))) fun r35 =>
  cond (r35)
  (Option.bind (appl 48 y5 ([(x32.2.2.2.1, x32.2.2.2.2.1, x32.2.2.2.2.2.1, x32.2.2.2.2.2.2)] : List (Int × ByteArray × ByteArray × Int))) fun (y40 : List (Int × ByteArray × ByteArray × Int)) =>
  Option.bind (appl 8 y8 ([x9] : List Int)) fun (y45 : List Int) =>
  some (y40, y45))
  (some (y5, y8)))
  fun (y27, y29) =>
  some (.nxt (y27, y29, w64 (x9 + 1))))
  (some (.brk (y5, y8)))
/-- the model of beaconry/beaconrytop.order -/
noncomputable def F14 (a0 : List (Int × Int × Int × Int × ByteArray × ByteArray × Int)) : Option ((List (Int × ByteArray × ByteArray × Int)) × (List Int)) :=
  Option.bind (whileM (F14_L0 a0) ([], [], 0)) fun o23 => Ctl.on o23 (fun (y19, y22) =>
  some (y19, y22)) (fun _ => none)

noncomputable def F4_L1 (r24 : List (Int × ByteArray × ByteArray × Int)) (yq56_6_1 : List Int) : Int → Option (Ctl (Int) (Unit) (Bool)) := fun x57 =>
  cond ((decide (x57 < (yq56_6_1.length : Int))))
  (Option.bind (idx yq56_6_1 x57) fun x63 =>
  cond ((decide (x63 > (r24.length : Int))))
  (some (.ret false))
  (some (.nxt (w64 (x57 + 1)))))
  (some (.brk ()))
noncomputable def F4_L0 (r1 : (List (Int × ByteArray × Int × List ByteArray)) × (List Int) × List Int) (r25 : List Int) (r31 : List (Int × ByteArray × Int × List ByteArray)) : Int → Option (Ctl (Int) (Unit) (Bool)) := fun x39 =>
  cond ((decide (x39 < (r31.length : Int))))
  (Option.bind (idx r31 x39) fun (x45 : Int × ByteArray × Int × List ByteArray) =>
  Option.bind (idx r25 x39) fun x49 =>
  Option.bind (idx r1.1 x49) fun (x51 : Int × ByteArray × Int × List ByteArray) =>
  Option.bind (F16 (x45.1, x45.2.1, x45.2.2.1, x45.2.2.2) (x51.1, x51.2.1, x51.2.2.1, x51.2.2.2)) fun r53 =>
  cond ((!r53))
  (some (.ret false))
  (some (.nxt (w64 (x39 + 1)))))
  (some (.brk ()))
/-- the model of beaconry/beaconrytop.TopOrder -/
noncomputable def F4 (a0 : Int) (a1 : List (Int × Int × Int × Int × ByteArray × ByteArray × Int)) : Option (Bool) :=
  Option.bind (F10 a0 a1) fun (r1, r2) =>
  Option.bind (F11 a0 (a1.length : Int)) fun r15 =>
  cond ((r15 != 0))
  (some (r2 != 0))
  (Option.bind (cond ((r2 != 0)) (some true) (Option.bind (F12 (r1.1, r1.2.1, r1.2.2) a0 (a1.length : Int)) fun r21 =>
  some (!r21))) fun b19 =>
  cond (b19)
  (some false)
  (Option.bind (F14 a1) fun (r24, r25) =>
  Option.bind (F15 r24) fun (r31, r32) =>
  cond (((r32 != 0) || ((r31.length : Int) != (r24.length : Int))))
  (some false)
  (Option.bind (whileM (F4_L0 r1 r25 r31) 0) fun o41 => Ctl.on o41 (fun _ =>
  Option.bind (appl 8 ([] : List Int) r1.2.1) fun (yq56_3_1 : List Int) =>
  Option.bind (appl 8 yq56_3_1 r1.2.2) fun (yq56_6_1 : List Int) =>
  Option.bind (whileM (F4_L1 r24 yq56_6_1) 0) fun o59 => Ctl.on o59 (fun _ =>
  some true) (fun r => some r)) (fun r => some r))))

noncomputable def F17_L0 (a0 : List Int) (a1 : Int) : Int → Option (Ctl (Int) (Unit) (Bool)) := fun x1 =>
  cond ((decide (x1 < (a0.length : Int))))
  (Option.bind (idx a0 x1) fun x7 =>
  cond ((a1 == x7))
  (some (.ret true))
  (some (.nxt (w64 (x1 + 1)))))
  (some (.brk ()))
/-- the model of beaconry/beaconryref.Has -/
noncomputable def F17 (a0 : List Int) (a1 : Int) : Option (Bool) :=
  Option.bind (whileM (F17_L0 a0 a1) 0) fun o3 => Ctl.on o3 (fun _ =>
  some false) (fun r => some r)

/-- the model of beaconry/beaconrytop.TopReads -/
noncomputable def F5 (a0 : Int) (a1 : List (Int × Int × Int × Int × ByteArray × ByteArray × Int)) (a2 : Int) (a3 : Int × ByteArray × ByteArray × Int) : Option (Bool) :=
  cond (((a3.1 != 4) && (a3.1 != 5)))
  (Option.bind (F10 0 a1) fun (r4, r5) =>
  some (r5 != 0))
  (Option.bind (α := (List (Int × Int × Int × Int × ByteArray × ByteArray × Int))) (Option.bind (appl 72 ([] : List (Int × Int × Int × Int × ByteArray × ByteArray × Int)) a1) fun (yq18_2_1 : List (Int × Int × Int × Int × ByteArray × ByteArray × Int)) =>
  Option.bind (appl 72 yq18_2_1 ([(1, a2, 0, (a3.1, a3.2.1, a3.2.2.1, a3.2.2.2))] : List (Int × Int × Int × Int × ByteArray × ByteArray × Int))) fun (yq18_7_1 : List (Int × Int × Int × Int × ByteArray × ByteArray × Int)) =>
  some yq18_7_1)
  fun y21 =>
  Option.bind (F10 a0 a1) fun (r23, r24) =>
  Option.bind (F10 a0 y21) fun (r37, r38) =>
  Option.bind (F11 a0 (y21.length : Int)) fun r51 =>
  cond ((r51 != 0))
  (some (r38 != 0))
  (Option.bind (cond (((r24 != 0) || (r38 != 0))) (some true) (Option.bind (F12 (r23.1, r23.2.1, r23.2.2) a0 (a1.length : Int)) fun r58 =>
  some (!r58))) fun b56 =>
  Option.bind (cond (b56) (some true) (Option.bind (F12 (r37.1, r37.2.1, r37.2.2) a0 (y21.length : Int)) fun r63 =>
  some (!r63))) fun b61 =>
  cond (b61)
  (some false)
  (cond (((decide (a2 < 0)) || (decide (a2 ≥ 6))))
  (Option.bind (idx r37.1 (a1.length : Int)) fun (x68 : Int × ByteArray × Int × List ByteArray) =>
  some (x68.1 == 2))
  (Option.bind (F14 a1) fun (r70, r71) =>
  Option.bind (idx r37.2.2 a2) fun x77 =>
  Option.bind (idx r23.2.2 a2) fun x79 =>
  Option.bind (cond (((decide (x77 < x79)) || (decide (x77 > (r70.length : Int))))) (some true) (Option.bind (F17 r23.2.1 x77) fun r85 =>
  some (!r85))) fun b83 =>
  Option.bind (cond (b83) (some true) (Option.bind (F18 r23.2.1 r37.2.1) fun r90 =>
  some (!r90))) fun b88 =>
  cond (b88)
  (some false)
  (Option.bind (α := (List (Int × ByteArray × Int × List ByteArray)) × Int) (Option.bind (slI r70 0 x77) fun yq93_3_1 =>
  Option.bind (appl 48 ([] : List (Int × ByteArray × ByteArray × Int)) yq93_3_1) fun (yq93_4_1 : List (Int × ByteArray × ByteArray × Int)) =>
  Option.bind (appl 48 yq93_4_1 ([(a3.1, a3.2.1, a3.2.2.1, a3.2.2.2)] : List (Int × ByteArray × ByteArray × Int))) fun (yq93_7_1 : List (Int × ByteArray × ByteArray × Int)) =>
  Option.bind (F15 yq93_7_1) fun (rq93_8_1, rq93_8_2) =>
  some (rq93_8_1, rq93_8_2))
  fun (y97, x98) =>
  Option.bind (cond (((x98 == 0) && ((y97.length : Int) == (w64 (x77 + 1))))) (Option.bind (idx y97 x77) fun (x104 : Int × ByteArray × Int × List ByteArray) =>
  Option.bind (idx r37.1 (a1.length : Int)) fun (x106 : Int × ByteArray × Int × List ByteArray) =>
  Option.bind (F16 (x104.1, x104.2.1, x104.2.2.1, x104.2.2.2) (x106.1, x106.2.1, x106.2.2.1, x106.2.2.2)) fun r108 =>
  some r108) (some false)) fun b102 =>
  some b102)))))
end Go.Proofs.YtadfgohglcglcaaDoor
