/-
  Pure models of Go functions, written by a program (gen.py).
-/
import Derived.Test.YtdjmlbjkendobaaBk27
namespace Go.Proofs.Ytdjmlbjkendobaa
open Go Go.Bk
set_option linter.unusedVariables false
@[reducible] def cTiiiu32 (x : Int × Int × BitVec 32) : List Value := [I x.1, I x.2.1, U x.2.2]
/-- the model of beaconry/flood.wrong$1 -/
noncomputable def F85 (a0 : Int × Int × BitVec 32) (a1 : Int × Int × BitVec 32) : Option (Bool) :=
  some (a0.1 == a1.1)

noncomputable def F92_L0 (a0 : List (Int × Int × BitVec 32)) (a1 : (Int × Int × BitVec 32) → Option Bool) : Int → Option (Ctl (Int) (Unit) (Int)) := fun x1 =>
  cond ((decide (x1 < (a0.length : Int))))
  (Option.bind (idx a0 x1) fun x7 =>
  Option.bind (a1 x7) fun r9 =>
  cond (r9)
  (some (.ret x1))
  (some (.nxt (w64 (x1 + 1)))))
  (some (.brk ()))
/-- the model of slices.IndexFunc[[]beaconry/api.Crash,beaconry/api.Crash] -/
noncomputable def F92 (a0 : List (Int × Int × BitVec 32)) (a1 : (Int × Int × BitVec 32) → Option Bool) : Option (Int) :=
  Option.bind (whileM (F92_L0 a0 a1) 0) fun o3 => Ctl.on o3 (fun _ =>
  some (-1)) (fun r => some r)

/-- the model of slices.ContainsFunc[[]beaconry/api.Crash,beaconry/api.Crash] -/
noncomputable def F84 (a0 : List (Int × Int × BitVec 32)) (a1 : (Int × Int × BitVec 32) → Option Bool) : Option (Bool) :=
  Option.bind (F92 a0 a1) fun r1 =>
  some (decide (r1 ≥ 0))

noncomputable def F63_L2 (a1 : List (Int × Int × BitVec 32)) : Int → Option (Ctl (Int) (Unit) (Int)) := fun x32 =>
  cond ((decide (x32 < (a1.length : Int))))
  (Option.bind (idx a1 x32) fun x38 =>
  Option.bind (slI a1 0 x32) fun y41 =>
  Option.bind (F84 y41 (fun z => F85 z (x38.1, x38.2.1, x38.2.2))) fun r44 =>
  cond (r44)
  (some (.ret 3))
  (some (.nxt (w64 (x32 + 1)))))
  (some (.brk ()))
noncomputable def F63_L1 (a0 : List Int) (a1 : List (Int × Int × BitVec 32)) (a2 : Int) : Int → Option (Ctl (Int) (Unit) (Int)) := fun x16 =>
  cond ((decide (x16 < (a1.length : Int))))
  (Option.bind (idx a1 x16) fun x22 =>
  Option.bind (cond (((decide (x22.2.1 < 1)) || (decide (x22.2.1 > a2)))) (some true) (Option.bind (shc (a0.length : Int)) fun k29 =>
  some ((x22.2.2 >>> k29) != (0#32)))) fun b27 =>
  cond (b27)
  (some (.ret 4))
  (some (.nxt (w64 (x16 + 1)))))
  (some (.brk ()))
noncomputable def F63_L0 (a0 : List Int) (a1 : List (Int × Int × BitVec 32)) : Int → Option (Ctl (Int) (Unit) (Int)) := fun x5 =>
  cond ((decide (x5 < (a1.length : Int))))
  (Option.bind (idx a1 x5) fun x11 =>
  cond (((decide (x11.1 < 0)) || (decide (x11.1 ≥ (a0.length : Int)))))
  (some (.ret 2))
  (some (.nxt (w64 (x5 + 1)))))
  (some (.brk ()))
/-- the model of beaconry/flood.wrong -/
noncomputable def F63 (a0 : List Int) (a1 : List (Int × Int × BitVec 32)) (a2 : Int) : Option (Int) :=
  cond (((((decide ((a0.length : Int) < 1)) || (decide ((a0.length : Int) > 6))) || (decide (a2 < 0))) || (decide (a2 > 8))))
  (some 1)
  (Option.bind (whileM (F63_L0 a0 a1) 0) fun o7 => Ctl.on o7 (fun _ =>
  Option.bind (whileM (F63_L1 a0 a1 a2) 0) fun o18 => Ctl.on o18 (fun _ =>
  Option.bind (whileM (F63_L2 a1) 0) fun o34 => Ctl.on o34 (fun _ =>
  some 0) (fun r => some r)) (fun r => some r)) (fun r => some r))

/-- the model of math/bits.Mul32 -/
noncomputable def F93 (a0 : BitVec 32) (a1 : BitVec 32) : Option ((BitVec 32) × (BitVec 32)) :=
  some (BitVec.ofInt 32 (shr64 (u64 ((a0.toNat : Int) * (a1.toNat : Int))) (32 : Int).toNat), BitVec.ofInt 32 (u64 ((a0.toNat : Int) * (a1.toNat : Int))))

/-- the model of math/bits.Mul64 -/
noncomputable def F94 (a0 : Int) (a1 : Int) : Option (Int × Int) :=
  some (u64 ((u64 ((u64 ((shr64 a0 (32 : Int).toNat) * (shr64 a1 (32 : Int).toNat))) + (shr64 (u64 ((u64 ((shr64 a0 (32 : Int).toNat) * (and64 a1 4294967295))) + (shr64 (u64 ((and64 a0 4294967295) * (and64 a1 4294967295))) (32 : Int).toNat))) (32 : Int).toNat))) + (shr64 (u64 ((and64 (u64 ((u64 ((shr64 a0 (32 : Int).toNat) * (and64 a1 4294967295))) + (shr64 (u64 ((and64 a0 4294967295) * (and64 a1 4294967295))) (32 : Int).toNat))) 4294967295) + (u64 ((and64 a0 4294967295) * (shr64 a1 (32 : Int).toNat))))) (32 : Int).toNat)), u64 (a0 * a1))

/-- the model of math/bits.Mul -/
noncomputable def F86 (a0 : Int) (a1 : Int) : Option (Int × Int) :=
  cond (false)
  (Option.bind (F93 (BitVec.ofInt 32 a0) (BitVec.ofInt 32 a1)) fun (r2, r3) =>
  some ((r2.toNat : Int), (r3.toNat : Int)))
  (Option.bind (F94 a0 a1) fun (r5, r6) =>
  some (r5, r6))

noncomputable def F64_L0 : ((List (BitVec 32)) × Int) → Option (Ctl ((List (BitVec 32)) × Int) ((List (BitVec 32))) (Unit)) := fun (y12, x13) =>
  cond ((decide (x13 < (y12.length : Int))))
  (Option.bind (α := (List (BitVec 32)) × Int) (Option.bind (slI y12 x13 (y12.length : Int)) fun yq21_3_1 =>
  Option.bind (slI y12 0 x13) fun yq21_6_1 =>
  some ((cpy y12 x13.toNat yq21_6_1), w64 (x13 + ((min yq21_6_1.length (y12.length - x13.toNat) : Nat) : Int))))
  fun (y22, x23) =>
  some (.nxt (y22, x23)))
  (some (.brk y12))
/-- the model of slices.Repeat[[]uint32,uint32] -/
noncomputable def F64 (a0 : List (BitVec 32)) (a1 : Int) : Option ((List (BitVec 32))) :=
  cond ((decide (a1 < 0)))
  (none)
  (Option.bind (F86 (u64 (a0.length : Int)) (u64 a1)) fun (r3, r4) =>
  cond (((decide (r3 > 0)) || (decide (r4 > 9223372036854775807))))
  (none)
  (Option.bind (mkl (w64 r4) 4 0) fun (y8 : List (BitVec 32)) =>
  Option.bind (whileM (F64_L0) ((cpy y8 (0 : Int).toNat a0), ((min a0.length (y8.length - (0 : Int).toNat) : Nat) : Int))) fun o17 => Ctl.on o17 (fun y16 =>
  some y16) (fun _ => none)))

/-- the model of slices.Clone[[]uint32,uint32] -/
noncomputable def F65 (a0 : List (BitVec 32)) : Option (List (BitVec 32)) := appl 4 ([] : List (BitVec 32)) a0

noncomputable def F38_L4 (x27 : BitVec 32) (y54 : List (BitVec 32)) (y75 : List (BitVec 32)) (x76 : Int) (x84 : BitVec 32) : ((List (BitVec 32)) × Int) → Option (Ctl ((List (BitVec 32)) × Int) ((List (BitVec 32))) (Unit)) := fun (y86, x87) =>
  cond ((decide (x87 < (y75.length : Int))))
  (Option.bind (α := (List (BitVec 32))) (Option.bind (shc x76) fun k97 =>
  Option.bind (cond ((((x27 >>> k97) &&& (1#32)) == (1#32))) (Option.bind (idx y54 x76) fun x102 =>
  Option.bind (shc x87) fun k104 =>
  some (((x102 >>> k104) &&& (1#32)) == (1#32))) (some false)) fun b100 =>
  cond (b100)
  (Option.bind (idx y86 x87) fun x107 =>
  Option.bind (idx y86 x87) fun x109 =>
  some (y86.set x87.toNat (x107 ||| x84)))
  (some y86))
  fun y95 =>
  some (.nxt (y95, w64 (x87 + 1))))
  (some (.brk y86))
noncomputable def F38_L3 (y26 : List (BitVec 32)) (x27 : BitVec 32) (y54 : List (BitVec 32)) : ((List (BitVec 32)) × Int) → Option (Ctl ((List (BitVec 32)) × Int) ((List (BitVec 32))) (Unit)) := fun (y75, x76) =>
  cond ((decide (x76 < (y26.length : Int))))
  (Option.bind (idx y26 x76) fun x84 =>
  Option.bind (whileM (F38_L4 x27 y54 y75 x76 x84) (y75, 0)) fun o91 => Ctl.on o91 (fun y90 =>
  some (.nxt (y90, w64 (x76 + 1)))) (fun _ => none))
  (some (.brk y75))
noncomputable def F38_L2 (a1 : List (Int × Int × BitVec 32)) (x28 : Int) : ((List (BitVec 32)) × (BitVec 32) × Int) → Option (Ctl ((List (BitVec 32)) × (BitVec 32) × Int) ((List (BitVec 32)) × (BitVec 32)) (Unit)) := fun (y48, x49, x50) =>
  cond ((decide (x50 < (a1.length : Int))))
  (Option.bind (α := (List (BitVec 32)) × (BitVec 32)) (Option.bind (idx a1 x50) fun x63 =>
  cond ((x63.2.1 == x28))
  (Option.bind (idx y48 x63.1) fun x67 =>
  Option.bind (shc x63.1) fun k69 =>
  some (y48.set x63.1.toNat x63.2.2, (x49 &&& ~~~((1#32) <<< k69))))
  (some (y48, x49)))
  fun (y60, x61) =>
  some (.nxt (y60, x61, w64 (x50 + 1))))
  (some (.brk (y48, x49)))
noncomputable def F38_L6 (a0 : List Int) (x116 : Int) (x126 : BitVec 32) : ((List Int) × Int) → Option (Ctl ((List Int) × Int) ((List Int)) (Unit)) := fun (y135, x136) =>
  cond ((decide (x136 < (a0.length : Int))))
  (Option.bind (α := (List Int)) (Option.bind (idx a0 x136) fun x146 =>
  Option.bind (shc x136) fun k148 =>
  cond ((((x126 >>> k148) &&& (1#32)) == (1#32)))
  (Option.bind (idx y135 x116) fun x151 =>
  Option.bind (idx y135 x116) fun x153 =>
  some (y135.set x116.toNat (mn x151 x146)))
  (some y135))
  fun y144 =>
  some (.nxt (y144, w64 (x136 + 1))))
  (some (.brk y135))
noncomputable def F38_L5 (a0 : List Int) (y36 : List (BitVec 32)) (x37 : BitVec 32) : ((List Int) × Int) → Option (Ctl ((List Int) × Int) ((List Int)) (Unit)) := fun (y115, x116) =>
  cond ((decide (x116 < (y36.length : Int))))
  (Option.bind (α := (List Int)) (Option.bind (idx y36 x116) fun x126 =>
  Option.bind (shc x116) fun k128 =>
  cond ((((x37 >>> k128) &&& (1#32)) == (0#32)))
  (some y115)
  (Option.bind (idx a0 x116) fun x131 =>
  Option.bind (idx y115 x116) fun x133 =>
  Option.bind (whileM (F38_L6 a0 x116 x126) (y115.set x116.toNat x131, 0)) fun o140 => Ctl.on o140 (fun y139 =>
  some y139) (fun _ => none)))
  fun y124 =>
  some (.nxt (y124, w64 (x116 + 1))))
  (some (.brk y115))
noncomputable def F38_L1 (a0 : List Int) (a1 : List (Int × Int × BitVec 32)) (a2 : Int) (k5 : Nat) : ((List (BitVec 32)) × (BitVec 32) × Int) → Option (Ctl ((List (BitVec 32)) × (BitVec 32) × Int) ((List (BitVec 32)) × (BitVec 32)) (Unit)) := fun (y26, x27, x28) =>
  cond ((decide (x28 ≤ a2)))
  (Option.bind (F64 ([(((1#32) <<< k5) - (1#32))] : List (BitVec 32)) (a0.length : Int)) fun r44 =>
  Option.bind (whileM (F38_L2 a1 x28) (r44, x27, 0)) fun o56 => Ctl.on o56 (fun (y54, x55) =>
  Option.bind (F65 y26) fun r71 =>
  Option.bind (whileM (F38_L3 y26 x27 y54) (r71, 0)) fun o80 => Ctl.on o80 (fun y79 =>
  some (.nxt (y79, x55, w64 (x28 + 1)))) (fun _ => none)) (fun _ => none))
  (some (.brk (y26, x27)))
noncomputable def F38_L0 (y7 : List (BitVec 32)) : ((List (BitVec 32)) × Int) → Option (Ctl ((List (BitVec 32)) × Int) ((List (BitVec 32))) (Unit)) := fun (y11, x12) =>
  cond ((decide (x12 < (y7.length : Int))))
  (Option.bind (shc x12) fun k20 =>
  Option.bind (idx y11 x12) fun x22 =>
  some (.nxt (y11.set x12.toNat ((1#32) <<< k20), w64 (x12 + 1))))
  (some (.brk y11))
/-- the model of beaconry/flood.Play -/
noncomputable def F38 (a0 : List Int) (a1 : List (Int × Int × BitVec 32)) (a2 : Int) : Option ((List Int) × (BitVec 32) × Int) :=
  Option.bind (F63 a0 a1 a2) fun r2 =>
  cond ((r2 != 0))
  (some ([], 0#32, r2))
  (Option.bind (shc (a0.length : Int)) fun k5 =>
  Option.bind (mkl (a0.length : Int) 4 0) fun (y7 : List (BitVec 32)) =>
  Option.bind (whileM (F38_L0 y7) (y7, 0)) fun o16 => Ctl.on o16 (fun y15 =>
  Option.bind (whileM (F38_L1 a0 a1 a2 k5) (y15, (((1#32) <<< k5) - (1#32)), 1)) fun o38 => Ctl.on o38 (fun (y36, x37) =>
  Option.bind (mkl (a0.length : Int) 8 0) fun (y111 : List Int) =>
  Option.bind (whileM (F38_L5 a0 y36 x37) (y111, 0)) fun o120 => Ctl.on o120 (fun y119 =>
  some (y119, x37, 0)) (fun _ => none)) (fun _ => none)) (fun _ => none))

noncomputable def F39_L3 (a1 : List (Int × Int × BitVec 32)) (x28 : Int) : Int → Option (Ctl (Int) (Unit) (Int)) := fun x34 =>
  cond ((decide (x34 < x28)))
  (Option.bind (idx a1 x28) fun x40 =>
  Option.bind (idx a1 x34) fun x42 =>
  cond ((x40.1 == x42.1))
  (some (.ret 3))
  (some (.nxt (w64 (x34 + 1)))))
  (some (.brk ()))
noncomputable def F39_L2 (a1 : List (Int × Int × BitVec 32)) : Int → Option (Ctl (Int) (Unit) (Int)) := fun x28 =>
  cond ((decide (x28 < (a1.length : Int))))
  (Option.bind (whileM (F39_L3 a1 x28) 0) fun o36 => Ctl.on o36 (fun _ =>
  some (.nxt (w64 (x28 + 1)))) (fun r => some (.ret r)))
  (some (.brk ()))
noncomputable def F39_L1 (a0 : List Int) (a1 : List (Int × Int × BitVec 32)) (a2 : Int) : Int → Option (Ctl (Int) (Unit) (Int)) := fun x16 =>
  cond ((decide (x16 < (a1.length : Int))))
  (Option.bind (idx a1 x16) fun x22 =>
  cond ((((decide (x22.2.1 < 1)) || (decide (x22.2.1 > a2))) || (decide (((1#32) <<< (u64 (a0.length : Int)).toNat) ≤ x22.2.2))))
  (some (.ret 4))
  (some (.nxt (w64 (x16 + 1)))))
  (some (.brk ()))
noncomputable def F39_L0 (a0 : List Int) (a1 : List (Int × Int × BitVec 32)) : Int → Option (Ctl (Int) (Unit) (Int)) := fun x5 =>
  cond ((decide (x5 < (a1.length : Int))))
  (Option.bind (idx a1 x5) fun x11 =>
  cond (((decide (x11.1 < 0)) || (decide (x11.1 ≥ (a0.length : Int)))))
  (some (.ret 2))
  (some (.nxt (w64 (x5 + 1)))))
  (some (.brk ()))
/-- the model of beaconry/beaconryref.FloodCheck -/
noncomputable def F39 (a0 : List Int) (a1 : List (Int × Int × BitVec 32)) (a2 : Int) : Option (Int) :=
  cond (((((decide ((a0.length : Int) < 1)) || (decide ((a0.length : Int) > 6))) || (decide (a2 < 0))) || (decide (a2 > 8))))
  (some 1)
  (Option.bind (whileM (F39_L0 a0 a1) 0) fun o7 => Ctl.on o7 (fun _ =>
  Option.bind (whileM (F39_L1 a0 a1 a2) 0) fun o18 => Ctl.on o18 (fun _ =>
  Option.bind (whileM (F39_L2 a1) 0) fun o30 => Ctl.on o30 (fun _ =>
  some 0) (fun r => some r)) (fun r => some r)) (fun r => some r))

/-- the model of beaconry/beaconryref.Bit -/
noncomputable def F23 (a0 : BitVec 32) (a1 : Int) : Option (Bool) :=
  some (((decide (a1 ≥ 0)) && (decide (a1 < 32))) && ((a0 &&& ((1#32) <<< (u64 a1).toNat)) != (0#32)))

noncomputable def F62_L0 (a0 : List Int) (a1 : Int) : Int → Option (Ctl (Int) (Unit) (Bool)) := fun x1 =>
  cond ((decide (x1 < (a0.length : Int))))
  (Option.bind (idx a0 x1) fun x7 =>
  cond ((a1 == x7))
  (some (.ret true))
  (some (.nxt (w64 (x1 + 1)))))
  (some (.brk ()))
/-- the model of beaconry/beaconryref.Has -/
noncomputable def F62 (a0 : List Int) (a1 : Int) : Option (Bool) :=
  Option.bind (whileM (F62_L0 a0 a1) 0) fun o3 => Ctl.on o3 (fun _ =>
  some false) (fun r => some r)

noncomputable def F40_L5 (x131 : List Int) : ((List Int) × Int) → Option (Ctl ((List Int) × Int) ((List Int)) (Unit)) := fun (y136, x137) =>
  cond ((decide (x137 < (x131.length : Int))))
  (Option.bind (α := (List Int)) (Option.bind (idx x131 x137) fun x152 =>
  Option.bind (F62 y136 x152) fun r154 =>
  cond ((!r154))
  (Option.bind (appl 8 y136 ([x152] : List Int)) fun (y159 : List Int) =>
  some y159)
  (some y136))
  fun y149 =>
  some (.nxt (y149, w64 (x137 + 1))))
  (some (.brk y136))
noncomputable def F40_L4 (a0 : List Int) (y38 : List (BitVec 32)) (y39 : List Int) (y54 : List (List Int)) (x55 : Int) (x75 : Int) : ((List (List Int)) × Int) → Option (Ctl ((List (List Int)) × Int) ((List (List Int))) (Unit)) := fun (y95, x97) =>
  cond ((decide (x97 < (a0.length : Int))))
  (Option.bind (α := (List (List Int))) (Option.bind (idx y39 x97) fun x110 =>
  Option.bind (cond ((x110 == 0)) (some true) (Option.bind (idx y39 x97) fun x115 =>
  some (decide (x115 > x55)))) fun b113 =>
  Option.bind (cond (b113) (some true) (Option.bind (idx y39 x97) fun x120 =>
  Option.bind (cond ((x120 == x55)) (Option.bind (idx y38 x97) fun x125 =>
  Option.bind (F23 x125 x75) fun r127 =>
  some r127) (some false)) fun b123 =>
  some b123)) fun b118 =>
  cond (b118)
  (Option.bind (idx y54 x97) fun (xq130_8_1 : List Int) =>
  Option.bind (idx y95 x75) fun (xq130_4_1 : List Int) =>
  Option.bind (appl 8 xq130_4_1 xq130_8_1) fun (yq130_10_2 : List Int) =>
  Option.bind (idx y95 x75) fun (xq130_11_1 : List Int) =>
  some (y95.set x75.toNat yq130_10_2))
  (some y95))
  fun y107 =>
  some (.nxt (y107, w64 (x97 + 1))))
  (some (.brk y95))
noncomputable def F40_L3 (a0 : List Int) (y38 : List (BitVec 32)) (y39 : List Int) (y54 : List (List Int)) (x55 : Int) : ((List (List Int)) × Int) → Option (Ctl ((List (List Int)) × Int) ((List (List Int))) (Unit)) := fun (y73, x75) =>
  cond ((decide (x75 < (a0.length : Int))))
  (Option.bind (idx y54 x75) fun (x87 : List Int) =>
  Option.bind (appl 8 ([] : List Int) x87) fun (y90 : List Int) =>
  Option.bind (idx y73 x75) fun (x93 : List Int) =>
  Option.bind (whileM (F40_L4 a0 y38 y39 y54 x55 x75) (y73.set x75.toNat y90, 0)) fun o103 => Ctl.on o103 (fun y101 =>
  Option.bind (idx y101 x75) fun (x131 : List Int) =>
  Option.bind (whileM (F40_L5 x131) ([], 0)) fun o145 => Ctl.on o145 (fun y144 =>
  Option.bind (idx y101 x75) fun (x162 : List Int) =>
  some (.nxt (y101.set x75.toNat y144, w64 (x75 + 1)))) (fun _ => none)) (fun _ => none))
  (some (.brk y73))
noncomputable def F40_L7 (x170 : Int) (x193 : List Int) : ((List Int) × Int) → Option (Ctl ((List Int) × Int) ((List Int)) (Unit)) := fun (y196, x197) =>
  cond ((decide (x197 < (x193.length : Int))))
  (Option.bind (α := (List Int)) (Option.bind (idx x193 x197) fun x207 =>
  Option.bind (idx y196 x170) fun x209 =>
  cond ((decide (x207 < x209)))
  (Option.bind (idx y196 x170) fun x212 =>
  some (y196.set x170.toNat x207))
  (some y196))
  fun y205 =>
  some (.nxt (y205, w64 (x197 + 1))))
  (some (.brk y196))
noncomputable def F40_L6 (a0 : List Int) (y39 : List Int) (y64 : List (List Int)) : ((List Int) × (BitVec 32) × Int) → Option (Ctl ((List Int) × (BitVec 32) × Int) ((List Int) × (BitVec 32)) (Unit)) := fun (y168, x169, x170) =>
  cond ((decide (x170 < (a0.length : Int))))
  (Option.bind (α := (List Int) × (BitVec 32)) (Option.bind (idx y39 x170) fun x183 =>
  cond ((decide (x183 > 0)))
  (some (y168, x169))
  (Option.bind (idx y64 x170) fun (x186 : List Int) =>
  Option.bind (idx x186 0) fun x189 =>
  Option.bind (idx y168 x170) fun x191 =>
  Option.bind (idx y64 x170) fun (x193 : List Int) =>
  Option.bind (whileM (F40_L7 x170 x193) (y168.set x170.toNat x189, 0)) fun o201 => Ctl.on o201 (fun y200 =>
  some (y200, (x169 + ((1#32) <<< (u64 x170).toNat)))) (fun _ => none)))
  fun (y180, x181) =>
  some (.nxt (y180, x181, w64 (x170 + 1))))
  (some (.brk (y168, x169)))
noncomputable def F40_L2 (a0 : List Int) (a2 : Int) (y38 : List (BitVec 32)) (y39 : List Int) : ((List (List Int)) × Int) → Option (Ctl ((List (List Int)) × Int) ((List (List Int))) (Unit)) := fun (y54, x55) =>
  cond ((decide (x55 ≤ a2)))
  (Option.bind (mkl (a0.length : Int) 24 ([] : List Int)) fun (y69 : List (List Int)) =>
  Option.bind (whileM (F40_L3 a0 y38 y39 y54 x55) (y69, 0)) fun o81 => Ctl.on o81 (fun y79 =>
  some (.nxt (y79, w64 (x55 + 1)))) (fun _ => none))
  (some (.brk y54))
noncomputable def F40_L1 (a1 : List (Int × Int × BitVec 32)) : ((List (BitVec 32)) × (List Int) × Int) → Option (Ctl ((List (BitVec 32)) × (List Int) × Int) ((List (BitVec 32)) × (List Int)) (Unit)) := fun (y32, y33, x34) =>
  cond ((decide (x34 < (a1.length : Int))))
  (Option.bind (idx a1 x34) fun x44 =>
  Option.bind (idx y33 x44.1) fun x47 =>
  Option.bind (idx y32 x44.1) fun x49 =>
  some (.nxt (y32.set x44.1.toNat x44.2.2, y33.set x44.1.toNat x44.2.1, w64 (x34 + 1))))
  (some (.brk (y32, y33)))
noncomputable def F40_L0 (a0 : List Int) : ((List (List Int)) × Int) → Option (Ctl ((List (List Int)) × Int) ((List (List Int))) (Unit)) := fun (y14, x16) =>
  cond ((decide (x16 < (a0.length : Int))))
  (Option.bind (idx a0 x16) fun x26 =>
  Option.bind (idx y14 x16) fun (x30 : List Int) =>
  some (.nxt (y14.set x16.toNat ([x26] : List Int), w64 (x16 + 1))))
  (some (.brk y14))
/-- the model of beaconry/beaconryref.Flood -/
noncomputable def F40 (a0 : List Int) (a1 : List (Int × Int × BitVec 32)) (a2 : Int) : Option ((List Int) × (BitVec 32)) :=
  Option.bind (mkl (a0.length : Int) 24 ([] : List Int)) fun (y2 : List (List Int)) =>
  Option.bind (mkl (a0.length : Int) 8 0) fun (y6 : List Int) =>
  Option.bind (mkl (a0.length : Int) 4 0) fun (y10 : List (BitVec 32)) =>
  Option.bind (whileM (F40_L0 a0) (y2, 0)) fun o22 => Ctl.on o22 (fun y20 =>
  Option.bind (whileM (F40_L1 a1) (y10, y6, 0)) fun o40 => Ctl.on o40 (fun (y38, y39) =>
  Option.bind (whileM (F40_L2 a0 a2 y38 y39) (y20, 1)) fun o65 => Ctl.on o65 (fun y64 =>
  Option.bind (mkl (a0.length : Int) 8 0) fun (y164 : List Int) =>
  Option.bind (whileM (F40_L6 a0 y39 y64) (y164, 0#32, 0)) fun o176 => Ctl.on o176 (fun (y174, x175) =>
  some (y174, x175)) (fun _ => none)) (fun _ => none)) (fun _ => none)) (fun _ => none)

noncomputable def F29_L0 (a0 : List Int) (a1 : List Int) : Int → Option (Ctl (Int) (Unit) (Bool)) := fun x2 =>
  cond ((decide (x2 < (a0.length : Int))))
  (Option.bind (idx a0 x2) fun x8 =>
  Option.bind (idx a1 x2) fun x10 =>
  cond ((x8 != x10))
  (some (.ret false))
  (some (.nxt (w64 (x2 + 1)))))
  (some (.brk ()))
/-- the model of beaconry/beaconryref.Ints -/
noncomputable def F29 (a0 : List Int) (a1 : List Int) : Option (Bool) :=
  cond (((a0.length : Int) != (a1.length : Int)))
  (some false)
  (Option.bind (whileM (F29_L0 a0 a1) 0) fun o4 => Ctl.on o4 (fun _ =>
  some true) (fun r => some r))

/-- the model of beaconry/beaconrylaw.FloodPlays -/
noncomputable def F13 (a0 : List Int) (a1 : List (Int × Int × BitVec 32)) (a2 : Int) : Option (Bool) :=
  Option.bind (F38 a0 a1 a2) fun (r1, r2, r3) =>
  Option.bind (F39 a0 a1 a2) fun r7 =>
  cond ((r7 != 0))
  (some (((r3 == r7) && ((r1.length : Int) == 0)) && (r2 == (0#32))))
  (Option.bind (F40 a0 a1 a2) fun (r12, r13) =>
  Option.bind (cond ((r3 == 0)) (Option.bind (F29 r1 r12) fun r20 =>
  some r20) (some false)) fun b18 =>
  some (b18 && (r2 == r13)))
end Go.Proofs.Ytdjmlbjkendobaa
