/-
  Pure models of Go functions, written by a program (gen.py).
-/
import Derived.Test.YtpeijfboikfcjaaBk35
import Derived.Test.YtpeijfboikfcjaaBk28
import Derived.Test.YtpeijfboikfcjaaBk42
namespace Go.Proofs.Ytpeijfboikfcjaa
open Go Go.Bk
set_option linter.unusedVariables false
@[reducible] def cTii (x : Int × Int) : List Value := [I x.1, I x.2]
noncomputable def F23_L0 (a0 : List (Int × Int)) (a1 : Int × Int) : Int → Option (Ctl (Int) (Unit) (Int)) := fun x2 =>
  cond ((decide (x2 < (a0.length : Int))))
  (Option.bind (idx a0 x2) fun x8 =>
  cond ((a1.1 == x8.1 && a1.2 == x8.2))
  (some (.ret x2))
  (some (.nxt (w64 (x2 + 1)))))
  (some (.brk ()))
/-- the model of slices.Index[[][2]int,[2]int] -/
noncomputable def F23 (a0 : List (Int × Int)) (a1 : Int × Int) : Option (Int) :=
  Option.bind (whileM (F23_L0 a0 a1) 0) fun o4 => Ctl.on o4 (fun _ =>
  some (-1)) (fun r => some r)

/-- the model of slices.Contains[[][2]int,[2]int] -/
noncomputable def F19 (a0 : List (Int × Int)) (a1 : Int × Int) : Option (Bool) :=
  Option.bind (F23 a0 (a1.1, a1.2)) fun r2 =>
  some (decide (r2 ≥ 0))

noncomputable def F10_L1 (a1 : List (Int × Int)) : Int → Option (Ctl (Int) (Unit) (Int)) := fun x19 =>
  cond ((decide (x19 < (a1.length : Int))))
  (Option.bind (idx a1 x19) fun x25 =>
  Option.bind (slI a1 0 x19) fun y28 =>
  Option.bind (F19 y28 (x25.1, x25.2)) fun r31 =>
  Option.bind (cond (r31) (some true) (Option.bind (slI a1 0 x19) fun y36 =>
  Option.bind (F19 y36 (x25.2, x25.1)) fun r39 =>
  some r39)) fun b34 =>
  cond (b34)
  (some (.ret 3))
  (some (.nxt (w64 (x19 + 1)))))
  (some (.brk ()))
noncomputable def F10_L0 (a0 : Int) (a1 : List (Int × Int)) : Int → Option (Ctl (Int) (Unit) (Int)) := fun x5 =>
  cond ((decide (x5 < (a1.length : Int))))
  (Option.bind (idx a1 x5) fun x11 =>
  cond ((((decide ((mn x11.1 x11.2) < 0)) || (decide ((mx x11.1 x11.2) ≥ a0))) || (x11.1 == x11.2)))
  (some (.ret 2))
  (some (.nxt (w64 (x5 + 1)))))
  (some (.brk ()))
/-- the model of beaconry/echo.wrong -/
noncomputable def F10 (a0 : Int) (a1 : List (Int × Int)) (a2 : Int) (a3 : List Int) : Option (Int) :=
  cond (((((decide (a0 < 1)) || (decide (a0 > 6))) || (decide ((a1.length : Int) > 15))) || (decide ((a3.length : Int) > 60))))
  (some 1)
  (Option.bind (whileM (F10_L0 a0 a1) 0) fun o7 => Ctl.on o7 (fun _ =>
  cond (((decide (a2 < 0)) || (decide (a2 ≥ a0))))
  (some 2)
  (Option.bind (whileM (F10_L1 a1) 0) fun o21 => Ctl.on o21 (fun _ =>
  some 0) (fun r => some r))) (fun r => some r))

/-- the model of math/bits.Mul32 -/
noncomputable def F24 (a0 : BitVec 32) (a1 : BitVec 32) : Option ((BitVec 32) × (BitVec 32)) :=
  some (BitVec.ofInt 32 (shr64 (u64 ((a0.toNat : Int) * (a1.toNat : Int))) (32 : Int).toNat), BitVec.ofInt 32 (u64 ((a0.toNat : Int) * (a1.toNat : Int))))

/-- the model of math/bits.Mul64 -/
noncomputable def F25 (a0 : Int) (a1 : Int) : Option (Int × Int) :=
  some (u64 ((u64 ((u64 ((shr64 a0 (32 : Int).toNat) * (shr64 a1 (32 : Int).toNat))) + (shr64 (u64 ((u64 ((shr64 a0 (32 : Int).toNat) * (and64 a1 4294967295))) + (shr64 (u64 ((and64 a0 4294967295) * (and64 a1 4294967295))) (32 : Int).toNat))) (32 : Int).toNat))) + (shr64 (u64 ((and64 (u64 ((u64 ((shr64 a0 (32 : Int).toNat) * (and64 a1 4294967295))) + (shr64 (u64 ((and64 a0 4294967295) * (and64 a1 4294967295))) (32 : Int).toNat))) 4294967295) + (u64 ((and64 a0 4294967295) * (shr64 a1 (32 : Int).toNat))))) (32 : Int).toNat)), u64 (a0 * a1))

/-- the model of math/bits.Mul -/
noncomputable def F20 (a0 : Int) (a1 : Int) : Option (Int × Int) :=
  cond (false)
  (Option.bind (F24 (BitVec.ofInt 32 a0) (BitVec.ofInt 32 a1)) fun (r2, r3) =>
  some ((r2.toNat : Int), (r3.toNat : Int)))
  (Option.bind (F25 a0 a1) fun (r5, r6) =>
  some (r5, r6))

noncomputable def F11_L0 : ((List Int) × Int) → Option (Ctl ((List Int) × Int) ((List Int)) (Unit)) := fun (y12, x13) =>
  cond ((decide (x13 < (y12.length : Int))))
  (Option.bind (α := (List Int) × Int) (Option.bind (slI y12 x13 (y12.length : Int)) fun yq21_3_1 =>
  Option.bind (slI y12 0 x13) fun yq21_6_1 =>
  some ((cpy y12 x13.toNat yq21_6_1), w64 (x13 + ((min yq21_6_1.length (y12.length - x13.toNat) : Nat) : Int))))
  fun (y22, x23) =>
  some (.nxt (y22, x23)))
  (some (.brk y12))
/-- the model of slices.Repeat[[]int,int] -/
noncomputable def F11 (a0 : List Int) (a1 : Int) : Option ((List Int)) :=
  cond ((decide (a1 < 0)))
  (none)
  (Option.bind (F20 (u64 (a0.length : Int)) (u64 a1)) fun (r3, r4) =>
  cond (((decide (r3 > 0)) || (decide (r4 > 9223372036854775807))))
  (none)
  (Option.bind (mkl (w64 r4) 8 0) fun (y8 : List Int) =>
  Option.bind (whileM (F11_L0) ((cpy y8 (0 : Int).toNat a0), ((min a0.length (y8.length - (0 : Int).toNat) : Nat) : Int))) fun o17 => Ctl.on o17 (fun y16 =>
  some y16) (fun _ => none)))

/-- the model of (*beaconry/echo.wave).send -/
noncomputable def F13 (a0 : (List (Int × Int)) × Int) (a1 : Int) (a2 : Int) : Option (((List (Int × Int)) × Int)) :=
  Option.bind (appl 16 a0.1 ([(a1, a2)] : List (Int × Int))) fun (y5 : List (Int × Int)) =>
  some (y5, w64 (a0.2 + 1))

/-- the model of slices.Delete[[][2]int,[2]int] -/
noncomputable def F14 (a0 : List (Int × Int)) (a1 : Int) (a2 : Int) : Option (List (Int × Int)) := delM a0 a1 a2

noncomputable def F15_L0 (a1 : Int) (a2 : Int) (x20 : List Int) : ((List (Int × Int)) × Int × Int) → Option (Ctl ((List (Int × Int)) × Int × Int) ((List (Int × Int)) × Int) (Unit)) := fun (y25, x26, x27) =>
  cond ((decide (x27 < (x20.length : Int))))
  (Option.bind (α := (List (Int × Int)) × Int) (Option.bind (idx x20 x27) fun x46 =>
  cond ((x46 != a1))
  (Option.bind (F13 (y25, x26) a2 x46) fun r49 =>
  some (r49.1, r49.2))
  (some (y25, x26)))
  fun (y43, x44) =>
  some (.nxt (y43, x44, w64 (x27 + 1))))
  (some (.brk (y25, x26)))
/-- the model of (*beaconry/echo.wave).take -/
noncomputable def F15 (a0 : (List (List Int)) × (List (Int × Int)) × (List Int) × (List Int) × Int) (a1 : Int) (a2 : Int) : Option (((List (List Int)) × (List (Int × Int)) × (List Int) × (List Int) × Int)) :=
  Option.bind (idx a0.2.2.2.1 a2) fun x9 =>
  Option.bind (α := (List (Int × Int)) × (List Int) × Int) (cond ((x9 == (-1)))
  (Option.bind (idx a0.2.2.2.1 a2) fun x18 =>
  Option.bind (idx a0.1 a2) fun (x20 : List Int) =>
  Option.bind (whileM (F15_L0 a1 a2 x20) (a0.2.1, a0.2.2.2.2, 0)) fun o37 => Ctl.on o37 (fun (y35, x36) =>
  some (y35, a0.2.2.2.1.set a2.toNat a1, x36)) (fun _ => none))
  (some (a0.2.1, a0.2.2.2.1, a0.2.2.2.2)))
  fun (y13, y14, x15) =>
  Option.bind (idx a0.2.2.1 a2) fun x53 =>
  Option.bind (idx a0.2.2.1 a2) fun x55 =>
  Option.bind (idx (a0.2.2.1.set a2.toNat (w64 (x53 - 1))) a2) fun x57 =>
  Option.bind (cond ((x57 == 0)) (Option.bind (idx y14 a2) fun x62 =>
  some (decide (x62 ≥ 0))) (some false)) fun b60 =>
  cond (b60)
  (Option.bind (idx y14 a2) fun x65 =>
  Option.bind (F13 (y13, x15) a2 x65) fun r67 =>
  some (a0.1, r67.1, a0.2.2.1.set a2.toNat (w64 (x53 - 1)), y14, r67.2))
  (some (a0.1, y13, a0.2.2.1.set a2.toNat (w64 (x53 - 1)), y14, x15))

noncomputable def F4_L3 (a3 : List Int) : ((List Int) × (List (Int × Int)) × (List (List Int)) × (List Int) × (List Int) × Int × Int) → Option (Ctl ((List Int) × (List (Int × Int)) × (List (List Int)) × (List Int) × (List Int) × Int × Int) ((List Int) × (List (Int × Int)) × (List (List Int)) × (List Int) × (List Int) × Int) (Unit)) := fun (y93, y96, y97, y99, y100, x101, x102) =>
  cond ((decide (x102 < (a3.length : Int))))
  (Option.bind (α := (List (Int × Int)) × (List Int) × (List (List Int)) × (List Int) × (List Int) × Int) (Option.bind (idx a3 x102) fun x141 =>
  cond (((decide (x141 < 0)) || (decide (x141 ≥ (y96.length : Int)))))
  (Option.bind (appl 8 y93 ([4] : List Int)) fun (y147 : List Int) =>
  some (y96, y147, y97, y99, y100, x101))
  (Option.bind (idx y96 x141) fun x150 =>
  Option.bind (F14 y96 x141 (w64 (x141 + 1))) fun r153 =>
  Option.bind (F15 (y97, r153, y99, y100, x101) x150.1 x150.2) fun r158 =>
  Option.bind (appl 8 y93 ([0] : List Int)) fun (y168 : List Int) =>
  some (r158.2.1, y168, r158.1, r158.2.2.1, r158.2.2.2.1, r158.2.2.2.2)))
  fun (y132, y133, y135, y137, y138, x139) =>
  some (.nxt (y133, y132, y135, y137, y138, x139, w64 (x102 + 1))))
  (some (.brk (y93, y96, y97, y99, y100, x101)))
noncomputable def F4_L2 (a2 : Int) (x64 : List Int) : ((List (Int × Int)) × Int × Int) → Option (Ctl ((List (Int × Int)) × Int × Int) ((List (Int × Int)) × Int) (Unit)) := fun (y69, x70, x71) =>
  cond ((decide (x71 < (x64.length : Int))))
  (Option.bind (idx x64 x71) fun x85 =>
  Option.bind (F13 (y69, x70) a2 x85) fun r87 =>
  some (.nxt (r87.1, r87.2, w64 (x71 + 1))))
  (some (.brk (y69, x70)))
noncomputable def F4_L1 (y25 : List (List Int)) : ((List (List Int)) × (List Int) × Int) → Option (Ctl ((List (List Int)) × (List Int) × Int) ((List (List Int)) × (List Int)) (Unit)) := fun (y42, y43, x44) =>
  cond ((decide (x44 < (y25.length : Int))))
  (Option.bind (idx y42 x44) fun (x54 : List Int) =>
  Option.bind (srt x54) fun y58 =>
  Option.bind (idx y43 x44) fun x60 =>
  some (.nxt (y42.set x44.toNat y58, y43.set x44.toNat (y58.length : Int), w64 (x44 + 1))))
  (some (.brk (y42, y43)))
noncomputable def F4_L0 (a1 : List (Int × Int)) : ((List (List Int)) × Int) → Option (Ctl ((List (List Int)) × Int) ((List (List Int))) (Unit)) := fun (y19, x21) =>
  cond ((decide (x21 < (a1.length : Int))))
  (Option.bind (idx a1 x21) fun x31 =>
  Option.bind (α := (List (List Int))) (Option.bind (idx y19 x31.1) fun (xq34_12_1 : List Int) =>
  Option.bind (appl 8 xq34_12_1 ([x31.2] : List Int)) fun (yq34_17_2 : List Int) =>
  Option.bind (idx y19 x31.1) fun (xq34_18_1 : List Int) =>
  some (y19.set x31.1.toNat yq34_17_2))
  fun y35 =>
  Option.bind (α := (List (List Int))) (Option.bind (idx y35 x31.2) fun (xq38_12_1 : List Int) =>
  Option.bind (appl 8 xq38_12_1 ([x31.1] : List Int)) fun (yq38_17_2 : List Int) =>
  Option.bind (idx y35 x31.2) fun (xq38_18_1 : List Int) =>
  some (y35.set x31.2.toNat yq38_17_2))
  fun y39 =>
  some (.nxt (y39, w64 (x21 + 1))))
  (some (.brk y19))
/-- the model of beaconry/echo.Play -/
noncomputable def F4 (a0 : Int) (a1 : List (Int × Int)) (a2 : Int) (a3 : List Int) : Option (((List Int) × (List Int) × Bool × Int) × Int) :=
  Option.bind (F10 a0 a1 a2 a3) fun r4 =>
  cond ((r4 != 0))
  (some (([], [], false, 0), r4))
  (Option.bind (α := (List (List Int)) × (List Int) × (List Int)) (Option.bind (mkl a0 24 ([] : List Int)) fun (yq7_1_1 : List (List Int)) =>
  Option.bind (mkl a0 8 0) fun (yq7_3_1 : List Int) =>
  Option.bind (F11 ([(-1)] : List Int) a0) fun rq7_6_1 =>
  some (yq7_1_1, yq7_3_1, rq7_6_1))
  fun (y11, y14, y17) =>
  Option.bind (whileM (F4_L0 a1) (y11, 0)) fun o27 => Ctl.on o27 (fun y25 =>
  Option.bind (whileM (F4_L1 y25) (y25, y14, 0)) fun o50 => Ctl.on o50 (fun (y48, y49) =>
  Option.bind (idx y17 a2) fun x62 =>
  Option.bind (idx y48 a2) fun (x64 : List Int) =>
  Option.bind (whileM (F4_L2 a2 x64) ([], 0, 0)) fun o81 => Ctl.on o81 (fun (y79, x80) =>
  Option.bind (whileM (F4_L3 a3) ([], y79, y48, y49, y17.set a2.toNat (-2), x80, 0)) fun o126 => Ctl.on o126 (fun (y117, y120, y121, y123, y124, x125) =>
  Option.bind (idx y124 a2) fun x171 =>
  Option.bind (idx y123 a2) fun x173 =>
  some ((y117, y124.set a2.toNat (-1), (x173 == 0), x125), 0)) (fun _ => none)) (fun _ => none)) (fun _ => none)) (fun _ => none))

noncomputable def F5_L0 (a0 : Int) (a1 : List (Int × Int)) : Int → Option (Ctl (Int) (Unit) (Int)) := fun x4 =>
  cond ((decide (x4 < (a1.length : Int))))
  (Option.bind (idx a1 x4) fun x10 =>
  cond ((((((decide (x10.1 < 0)) || (decide (x10.1 ≥ a0))) || (decide (x10.2 < 0))) || (decide (x10.2 ≥ a0))) || (x10.1 == x10.2)))
  (some (.ret 2))
  (some (.nxt (w64 (x4 + 1)))))
  (some (.brk ()))
/-- the model of beaconry/beaconryref.LinksCheck -/
noncomputable def F5 (a0 : Int) (a1 : List (Int × Int)) : Option (Int) :=
  cond ((((decide (a0 < 1)) || (decide (a0 > 6))) || (decide ((a1.length : Int) > 15))))
  (some 1)
  (Option.bind (whileM (F5_L0 a0 a1) 0) fun o6 => Ctl.on o6 (fun _ =>
  some 0) (fun r => some r))

noncomputable def F6_L1 (x7 : Int × Int) (y10 : List (Int × Int)) : Int → Option (Ctl (Int) (Unit) (Bool)) := fun x13 =>
  cond ((decide (x13 < (y10.length : Int))))
  (Option.bind (idx y10 x13) fun x19 =>
  cond ((((x7.1 == x19.1) && (x7.2 == x19.2)) || ((x7.1 == x19.2) && (x7.2 == x19.1))))
  (some (.ret true))
  (some (.nxt (w64 (x13 + 1)))))
  (some (.brk ()))
noncomputable def F6_L0 (a0 : List (Int × Int)) : Int → Option (Ctl (Int) (Unit) (Bool)) := fun x1 =>
  cond ((decide (x1 < (a0.length : Int))))
  (Option.bind (idx a0 x1) fun x7 =>
  Option.bind (slI a0 0 x1) fun y10 =>
  Option.bind (whileM (F6_L1 x7 y10) 0) fun o15 => Ctl.on o15 (fun _ =>
  some (.nxt (w64 (x1 + 1)))) (fun r => some (.ret r)))
  (some (.brk ()))
/-- the model of beaconry/beaconryref.Twice -/
noncomputable def F6 (a0 : List (Int × Int)) : Option (Bool) :=
  Option.bind (whileM (F6_L0 a0) 0) fun o3 => Ctl.on o3 (fun _ =>
  some false) (fun r => some r)

noncomputable def F8_L0 (a0 : List Int) (a1 : List Int) : Int → Option (Ctl (Int) (Unit) (Bool)) := fun x2 =>
  cond ((decide (x2 < (a0.length : Int))))
  (Option.bind (idx a0 x2) fun x8 =>
  Option.bind (idx a1 x2) fun x10 =>
  cond ((x8 != x10))
  (some (.ret false))
  (some (.nxt (w64 (x2 + 1)))))
  (some (.brk ()))
/-- the model of beaconry/beaconryref.Codes -/
noncomputable def F8 (a0 : List Int) (a1 : List Int) : Option (Bool) :=
  cond (((a0.length : Int) != (a1.length : Int)))
  (some false)
  (Option.bind (whileM (F8_L0 a0 a1) 0) fun o4 => Ctl.on o4 (fun _ =>
  some true) (fun r => some r))

noncomputable def F9_L0 (a0 : List Int) (a1 : List Int) : Int → Option (Ctl (Int) (Unit) (Bool)) := fun x2 =>
  cond ((decide (x2 < (a0.length : Int))))
  (Option.bind (idx a0 x2) fun x8 =>
  Option.bind (idx a1 x2) fun x10 =>
  cond ((x8 != x10))
  (some (.ret false))
  (some (.nxt (w64 (x2 + 1)))))
  (some (.brk ()))
/-- the model of beaconry/beaconryref.Ints -/
noncomputable def F9 (a0 : List Int) (a1 : List Int) : Option (Bool) :=
  cond (((a0.length : Int) != (a1.length : Int)))
  (some false)
  (Option.bind (whileM (F9_L0 a0 a1) 0) fun o4 => Ctl.on o4 (fun _ =>
  some true) (fun r => some r))
end Go.Proofs.Ytpeijfboikfcjaa
