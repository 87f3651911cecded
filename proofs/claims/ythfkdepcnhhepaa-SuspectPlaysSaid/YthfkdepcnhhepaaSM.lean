/-
  Pure models of Go functions, written by a program (gen.py).
-/
import Derived.Test.YthfkdepcnhhepaaBk19
namespace Go.Proofs.Ythfkdepcnhhepaa
open Go Go.Bk
set_option linter.unusedVariables false
@[reducible] def cTiiii (x : Int × Int × Int × Int) : List Value := [I x.1, I x.2.1, I x.2.2.1, I x.2.2.2]
/-- the model of math/bits.Mul32 -/
noncomputable def F130 (a0 : BitVec 32) (a1 : BitVec 32) : Option ((BitVec 32) × (BitVec 32)) :=
  some (BitVec.ofInt 32 (shr64 (u64 ((a0.toNat : Int) * (a1.toNat : Int))) (32 : Int).toNat), BitVec.ofInt 32 (u64 ((a0.toNat : Int) * (a1.toNat : Int))))

/-- the model of math/bits.Mul64 -/
noncomputable def F131 (a0 : Int) (a1 : Int) : Option (Int × Int) :=
  some (u64 ((u64 ((u64 ((shr64 a0 (32 : Int).toNat) * (shr64 a1 (32 : Int).toNat))) + (shr64 (u64 ((u64 ((shr64 a0 (32 : Int).toNat) * (and64 a1 4294967295))) + (shr64 (u64 ((and64 a0 4294967295) * (and64 a1 4294967295))) (32 : Int).toNat))) (32 : Int).toNat))) + (shr64 (u64 ((and64 (u64 ((u64 ((shr64 a0 (32 : Int).toNat) * (and64 a1 4294967295))) + (shr64 (u64 ((and64 a0 4294967295) * (and64 a1 4294967295))) (32 : Int).toNat))) 4294967295) + (u64 ((and64 a0 4294967295) * (shr64 a1 (32 : Int).toNat))))) (32 : Int).toNat)), u64 (a0 * a1))

/-- the model of math/bits.Mul -/
noncomputable def F95 (a0 : Int) (a1 : Int) : Option (Int × Int) :=
  cond (false)
  (Option.bind (F130 (BitVec.ofInt 32 a0) (BitVec.ofInt 32 a1)) fun (r2, r3) =>
  some ((r2.toNat : Int), (r3.toNat : Int)))
  (Option.bind (F131 a0 a1) fun (r5, r6) =>
  some (r5, r6))

noncomputable def F63_L0 : ((List Int) × Int) → Option (Ctl ((List Int) × Int) ((List Int)) (Unit)) := fun (y12, x14) =>
  cond ((decide (x14 < (y12.length : Int))))
  (Option.bind (α := (List Int) × Int) (Option.bind (slI y12 x14 (y12.length : Int)) fun yq24_3_1 =>
  Option.bind (slI y12 0 x14) fun yq24_6_1 =>
  some ((cpy y12 x14.toNat yq24_6_1), w64 (x14 + ((min yq24_6_1.length (y12.length - x14.toNat) : Nat) : Int))))
  fun (y25, x27) =>
  some (.nxt (y25, x27)))
  (some (.brk y12))
/-- the model of slices.Repeat[[]int,int] -/
noncomputable def F63 (a0 : List Int) (a1 : Int) : Option ((List Int)) :=
  cond ((decide (a1 < 0)))
  (none)
  (Option.bind (F95 (u64 (a0.length : Int)) (u64 a1)) fun (r3, r4) =>
  cond (((decide (r3 > 0)) || (decide (r4 > 9223372036854775807))))
  (none)
  (Option.bind (mkl (w64 r4) 8 0) fun (y8 : List Int) =>
  Option.bind (whileM (F63_L0) ((cpy y8 (0 : Int).toNat a0), ((min a0.length (y8.length - (0 : Int).toNat) : Nat) : Int))) fun o20 => Ctl.on o20 (fun y18 =>
  some y18) (fun _ => none)))

noncomputable def F29_L1 (y23 : List Int) (y25 : List Int) (x29 : Int) : ((BitVec 32) × Int) → Option (Ctl ((BitVec 32) × Int) ((BitVec 32)) (Unit)) := fun (x70, x71) =>
  cond ((decide (x71 < (y23.length : Int))))
  (Option.bind (α := (BitVec 32)) (Option.bind (idx y23 x71) fun x81 =>
  Option.bind (idx y25 x71) fun x83 =>
  cond ((decide ((w64 ((w64 (x29 + 1)) - x81)) > x83)))
  (Option.bind (shc x71) fun k86 =>
  some (x70 ||| ((1#32) <<< k86)))
  (some x70))
  fun x79 =>
  some (.nxt (x79, w64 (x71 + 1))))
  (some (.brk x70))
noncomputable def F29_L0 (a0 : Int) (a1 : List (Int × Int × Int × Int)) : ((List Int) × (List Int) × (List Int) × (BitVec 32) × Int × Int × Int) → Option (Ctl ((List Int) × (List Int) × (List Int) × (BitVec 32) × Int × Int × Int) ((List Int) × (List Int) × (List Int) × (BitVec 32) × Int) (Unit)) := fun (y22, y23, y25, x27, x28, x29, x30) =>
  cond ((decide (x30 < (a1.length : Int))))
  (Option.bind (idx a1 x30) fun x55 =>
  Option.bind (α := (List Int) × (List Int) × (BitVec 32) × Int × Int × Int) (cond (((x55.1 != 1) && (x55.1 != 2)))
  (some (y23, y25, x27, x28, x29, 6))
  (cond ((x55.1 == 2))
  (Option.bind (whileM (F29_L1 y23 y25 x29) (x27, 0)) fun o75 => Ctl.on o75 (fun x74 =>
  some (y23, y25, x74, x28, w64 (x29 + 1), 0)) (fun _ => none))
  (cond (((decide (x55.2.1 < 0)) || (decide (x55.2.1 ≥ a0))))
  (some (y23, y25, x27, x28, x29, 2))
  (Option.bind (shc x55.2.1) fun k90 =>
  Option.bind (α := (List Int) × (BitVec 32) × Int) (cond ((((x27 >>> k90) &&& (1#32)) == (1#32)))
  (Option.bind (shc x55.2.1) fun k98 =>
  Option.bind (idx y25 x55.2.1) fun x100 =>
  Option.bind (idx y25 x55.2.1) fun x102 =>
  some (y25.set x55.2.1.toNat (w64 (x100 + 1)), (x27 &&& ~~~((1#32) <<< k98)), w64 (x28 + 1)))
  (some (y25, x27, x28)))
  fun (y92, x94, x95) =>
  Option.bind (idx y23 x55.2.1) fun x104 =>
  some (y23.set x55.2.1.toNat x29, y92, x94, x95, x29, 0)))))
  fun (y58, y60, x62, x63, x64, x65) =>
  Option.bind (appl 8 y22 ([x65] : List Int)) fun (y108 : List Int) =>
  some (.nxt (y108, y58, y60, x62, x63, x64, w64 (x30 + 1))))
  (some (.brk (y22, y23, y25, x27, x28)))
/-- the model of beaconry/suspect.Play -/
noncomputable def F29 (a0 : Int) (a1 : List (Int × Int × Int × Int)) : Option (((List Int) × (BitVec 32) × Int × List Int) × Int) :=
  cond ((((decide (a0 < 1)) || (decide (a0 > 6))) || (decide ((a1.length : Int) > 60))))
  (some (([], 0, 0, []), 1))
  (Option.bind (F63 ([1] : List Int) a0) fun r9 =>
  Option.bind (mkl a0 8 0) fun (y16 : List Int) =>
  Option.bind (whileM (F29_L0 a0 a1) ([], y16, r9, 0, 0, 0, 0)) fun o51 => Ctl.on o51 (fun (y44, y45, y47, x49, x50) =>
  some ((y44, x49, x50, y47), 0)) (fun _ => none))

/-- the model of beaconry/beaconryref.PlayCheck -/
noncomputable def F21 (a0 : Int) (a1 : Int) : Option (Int) :=
  cond ((((decide (a0 < 1)) || (decide (a0 > 6))) || (decide (a1 > 60))))
  (some 1)
  (some 0)

/-- the model of beaconry/beaconryref.Bit -/
noncomputable def F64 (a0 : BitVec 32) (a1 : Int) : Option (Bool) :=
  some (((decide (a1 ≥ 0)) && (decide (a1 < 32))) && ((a0 &&& ((1#32) <<< (u64 a1).toNat)) != (0#32)))

noncomputable def F30_L2 (a0 : Int) (y31 : List Int) : ((List Int) × (BitVec 32) × Int) → Option (Ctl ((List Int) × (BitVec 32) × Int) ((List Int) × (BitVec 32)) (Unit)) := fun (y73, x75, x76) =>
  cond ((decide (x76 < a0)))
  (Option.bind (α := (List Int) × (BitVec 32)) (Option.bind (idx y73 x76) fun x92 =>
  Option.bind (idx y73 x76) fun x94 =>
  Option.bind (idx (y73.set x76.toNat (w64 (x92 + 1))) x76) fun x96 =>
  Option.bind (idx y31 x76) fun x98 =>
  cond ((decide (x96 > x98)))
  (some (y73.set x76.toNat (w64 (x92 + 1)), (x75 ||| ((1#32) <<< (u64 x76).toNat))))
  (some (y73.set x76.toNat (w64 (x92 + 1)), x75)))
  fun (y88, x90) =>
  some (.nxt (y88, x90, w64 (x76 + 1))))
  (some (.brk (y73, x75)))
noncomputable def F30_L1 (a0 : Int) (a1 : List (Int × Int × Int × Int)) : ((List Int) × (List Int) × (List Int) × (BitVec 32) × Int × Int) → Option (Ctl ((List Int) × (List Int) × (List Int) × (BitVec 32) × Int × Int) ((List Int) × (List Int) × (List Int) × (BitVec 32) × Int) (Unit)) := fun (y30, y31, y33, x35, x36, x37) =>
  cond ((decide (x37 < (a1.length : Int))))
  (Option.bind (idx a1 x37) fun x61 =>
  Option.bind (α := (List Int) × (List Int) × (BitVec 32) × Int × Int) (cond ((x61.1 == 2))
  (Option.bind (whileM (F30_L2 a0 y31) (y33, x35, 0)) fun o84 => Ctl.on o84 (fun (y81, x83) =>
  some (y31, y81, x83, x36, 0)) (fun _ => none))
  (cond ((x61.1 != 1))
  (some (y31, y33, x35, x36, 6))
  (cond (((decide (x61.2.1 < 0)) || (decide (x61.2.1 ≥ a0))))
  (some (y31, y33, x35, x36, 2))
  (Option.bind (F64 x35 x61.2.1) fun r104 =>
  Option.bind (α := (List Int) × (BitVec 32) × Int) (cond (r104)
  (Option.bind (idx y31 x61.2.1) fun x112 =>
  Option.bind (idx y31 x61.2.1) fun x114 =>
  some (y31.set x61.2.1.toNat (w64 (x112 + 1)), (x35 - ((1#32) <<< (u64 x61.2.1).toNat)), w64 (x36 + 1)))
  (some (y31, x35, x36)))
  fun (y106, x108, x109) =>
  Option.bind (idx y33 x61.2.1) fun x116 =>
  some (y106, y33.set x61.2.1.toNat 0, x108, x109, 0)))))
  fun (y64, y66, x68, x69, x70) =>
  Option.bind (appl 8 y30 ([x70] : List Int)) fun (y120 : List Int) =>
  some (.nxt (y120, y64, y66, x68, x69, w64 (x37 + 1))))
  (some (.brk (y30, y31, y33, x35, x36)))
noncomputable def F30_L0 (a0 : Int) : ((List Int) × Int) → Option (Ctl ((List Int) × Int) ((List Int)) (Unit)) := fun (y14, x16) =>
  cond ((decide (x16 < a0)))
  (Option.bind (idx y14 x16) fun x26 =>
  some (.nxt (y14.set x16.toNat 1, w64 (x16 + 1))))
  (some (.brk y14))
/-- the model of beaconry/beaconryref.Suspect -/
noncomputable def F30 (a0 : Int) (a1 : List (Int × Int × Int × Int)) : Option (((List Int) × (BitVec 32) × Int × List Int)) :=
  Option.bind (mkl a0 8 0) fun (y5 : List Int) =>
  Option.bind (mkl a0 8 0) fun (y9 : List Int) =>
  Option.bind (whileM (F30_L0 a0) (y9, 0)) fun o22 => Ctl.on o22 (fun y20 =>
  Option.bind (whileM (F30_L1 a0 a1) ([], y20, y5, 0, 0, 0)) fun o57 => Ctl.on o57 (fun (y50, y51, y53, x55, x56) =>
  some (y50, x55, x56, y51)) (fun _ => none)) (fun _ => none)

noncomputable def F18_L0 (a0 : List Int) (a1 : List Int) : Int → Option (Ctl (Int) (Unit) (Bool)) := fun x2 =>
  cond ((decide (x2 < (a0.length : Int))))
  (Option.bind (idx a0 x2) fun x8 =>
  Option.bind (idx a1 x2) fun x10 =>
  cond ((x8 != x10))
  (some (.ret false))
  (some (.nxt (w64 (x2 + 1)))))
  (some (.brk ()))
/-- the model of beaconry/beaconryref.Codes -/
noncomputable def F18 (a0 : List Int) (a1 : List Int) : Option (Bool) :=
  cond (((a0.length : Int) != (a1.length : Int)))
  (some false)
  (Option.bind (whileM (F18_L0 a0 a1) 0) fun o4 => Ctl.on o4 (fun _ =>
  some true) (fun r => some r))

noncomputable def F25_L0 (a0 : List Int) (a1 : List Int) : Int → Option (Ctl (Int) (Unit) (Bool)) := fun x2 =>
  cond ((decide (x2 < (a0.length : Int))))
  (Option.bind (idx a0 x2) fun x8 =>
  Option.bind (idx a1 x2) fun x10 =>
  cond ((x8 != x10))
  (some (.ret false))
  (some (.nxt (w64 (x2 + 1)))))
  (some (.brk ()))
/-- the model of beaconry/beaconryref.Ints -/
noncomputable def F25 (a0 : List Int) (a1 : List Int) : Option (Bool) :=
  cond (((a0.length : Int) != (a1.length : Int)))
  (some false)
  (Option.bind (whileM (F25_L0 a0 a1) 0) fun o4 => Ctl.on o4 (fun _ =>
  some true) (fun r => some r))

/-- the model of beaconry/beaconrylaw.SuspectPlays -/
noncomputable def F7 (a0 : Int) (a1 : List (Int × Int × Int × Int)) : Option (Bool) :=
  Option.bind (F29 a0 a1) fun (r1, r2) =>
  Option.bind (F21 a0 (a1.length : Int)) fun r11 =>
  Option.bind (α := (List Int) × (List Int) × (BitVec 32) × Int) (cond ((r11 == 0))
  (Option.bind (F30 a0 a1) fun r24 =>
  some (r24.1, r24.2.2.2, r24.2.1, r24.2.2.1))
  (some ([], [], 0, 0)))
  fun (y16, y19, x20, x21) =>
  Option.bind (cond ((r2 == r11)) (Option.bind (F18 r1.1 y16) fun r35 =>
  some r35) (some false)) fun b33 =>
  Option.bind (cond (((b33 && (r1.2.1 == x20)) && (r1.2.2.1 == x21))) (Option.bind (F25 r1.2.2.2 y19) fun r42 =>
  some r42) (some false)) fun b40 =>
  some b40
end Go.Proofs.Ythfkdepcnhhepaa
