/-
  Pure models of Go functions, written by a program (gen.py).
-/
import Derived.Test.YtadfgohglcglcaaDoorBk38
import Derived.Test.YtadfgohglcglcaaDoorSM
import Derived.Test.YtadfgohglcglcaaDoorNM
namespace Go.Proofs.YtadfgohglcglcaaDoor
open Go Go.Bk
set_option linter.unusedVariables false
@[reducible] def cTsi (x : ByteArray × Int) : List Value := [.string x.1, I x.2]
@[reducible] def cTissi (x : Int × ByteArray × ByteArray × Int) : List Value := [I x.1, .string x.2.1, .string x.2.2.1, I x.2.2.2]
@[reducible] def cTssi (x : ByteArray × ByteArray × Int) : List Value := [.string x.1, .string x.2.1, I x.2.2]
@[reducible] def nT41 : NT (Int × ByteArray × Int × List ByteArray) := ⟨fun x c => [I x.1, .string x.2.1, I x.2.2.1, cv c 0], fun x c => [OwnS 9 1 (cv c 0) (x.2.2.2.map cS)]⟩
/-- the model of beaconry/tree.New -/
noncomputable def F26 : Option ((ByteArray → Option (ByteArray × Int))) :=
  some (mupd (mzero : ByteArray → Option (ByteArray × Int)) (ByteArray.mk #[47]) (ByteArray.empty, 0))

noncomputable def F55_L0 (a0 : ByteArray) (a1 : Int) : Int → Option (Ctl (Int) (Unit) (Int)) := fun x1 =>
  cond ((decide (x1 ≥ 0)))
  (Option.bind (sidx a0 x1) fun x7 =>
  cond ((x7 == a1))
  (some (.ret x1))
  (some (.nxt (w64 (x1 - 1)))))
  (some (.brk ()))
/-- the model of internal/bytealg.LastIndexByteString -/
noncomputable def F55 (a0 : ByteArray) (a1 : Int) : Option (Int) :=
  Option.bind (whileM (F55_L0 a0 a1) (w64 ((a0.size : Int) - 1))) fun o3 => Ctl.on o3 (fun _ =>
  some (-1)) (fun r => some r)

/-- the model of strings.LastIndexByte -/
noncomputable def F49 (a0 : ByteArray) (a1 : Int) : Option (Int) :=
  Option.bind (F55 a0 a1) fun r1 =>
  some r1

/-- the model of beaconry/tree.Parent -/
noncomputable def F42 (a0 : ByteArray) : Option (ByteArray × ByteArray) :=
  Option.bind (F49 a0 47) fun r1 =>
  Option.bind (sslc a0 0 (mx r1 1)) fun x3 =>
  Option.bind (sslc a0 (w64 (r1 + 1)) (a0.size : Int)) fun x5 =>
  some (x3, x5)

/-- the model of (*beaconry/tree.Tree).build -/
noncomputable def F36 (a0 : ByteArray → Option (ByteArray × Int)) (a1 : Int × ByteArray × ByteArray × Int) : Option (Int × (ByteArray → Option (ByteArray × Int))) :=
  cond ((a0 a1.2.1).isSome)
  (some (7, a0))
  (Option.bind (F42 a1.2.1) fun (r6, r7) =>
  cond ((!((a0 r6).isSome)))
  (some (5, a0))
  (cond ((decide ((mlen a0 : Int) ≥ 12)))
  (some (1, a0))
  (some (0, mupd a0 a1.2.1 (a1.2.2.1, 0)))))

noncomputable def F37_L0 (a1 : ByteArray) : ByteArray → (ByteArray × Int) → (List ByteArray) → Option (Ctl ((List ByteArray)) Unit (Unit)) := fun k6 v7 y11 =>
  Option.bind (F42 k6) fun (r20, r21) =>
  cond (((sEq r20 a1) && (!sEq k6 (ByteArray.mk #[47]))))
  (Option.bind (appl 16 y11 ([r21] : List ByteArray)) fun (y27 : List ByteArray) =>
  some (.nxt y27))
  (some (.nxt y11))
/-- the model of (*beaconry/tree.Tree).below -/
noncomputable def F37 (a0 : ByteArray → Option (ByteArray × Int)) (a1 : ByteArray) : Option ((List ByteArray) × (ByteArray → Option (ByteArray × Int))) :=
  Option.bind (rangeQ List.Perm a0 (F37_L0 a1) []) fun o15 =>
  permK o15 fun (y11 : List ByteArray) =>
  Option.bind (srtS y11) fun y32 =>
  some (y32, a0)

/-- the model of (*beaconry/tree.Tree).Do -/
noncomputable def F29 (a0 : ByteArray → Option (ByteArray × Int)) (a1 : Int × ByteArray × ByteArray × Int) : Option ((Int × ByteArray × Int × List ByteArray) × (ByteArray → Option (ByteArray × Int))) :=
  cond (((decide (a1.1 < 1)) || (decide (a1.1 > 5))))
  (some ((6, ByteArray.empty, 0, []), a0))
  (Option.bind (F35 a1.2.1) fun r10 =>
  cond ((!r10))
  (some ((3, ByteArray.empty, 0, []), a0))
  (cond ((((a1.1 == 1) || (a1.1 == 2)) && (decide ((a1.2.2.1.size : Int) > 20))))
  (some ((1, ByteArray.empty, 0, []), a0))
  (cond ((a1.1 == 1))
  (Option.bind (F36 a0 (a1.1, a1.2.1, a1.2.2.1, a1.2.2.2)) fun (r16, r17) =>
  some ((r16, ByteArray.empty, 0, []), r17))
  (cond (((a1.1 == 3) && (sEq a1.2.1 (ByteArray.mk #[47]))))
  (some ((3, ByteArray.empty, 0, []), a0))
  (cond ((!((a0 a1.2.1).isSome)))
  (some ((5, ByteArray.empty, 0, []), a0))
  (cond ((a1.1 == 4))
  (some ((0, ((a0 a1.2.1).getD (ByteArray.empty, 0)).1, ((a0 a1.2.1).getD (ByteArray.empty, 0)).2, []), a0))
  (cond ((a1.1 == 5))
  (Option.bind (F37 a0 a1.2.1) fun (rq26_5_1, rq26_5_2) =>
  some ((0, ByteArray.empty, ((a0 a1.2.1).getD (ByteArray.empty, 0)).2, rq26_5_1), rq26_5_2))
  (cond (((decide (a1.2.2.2 ≥ 0)) && (a1.2.2.2 != (((a0 a1.2.1).getD (ByteArray.empty, 0)).2))))
  (some ((8, ByteArray.empty, 0, []), a0))
  (cond ((a1.1 == 2))
  (some ((0, ByteArray.empty, w64 ((((a0 a1.2.1).getD (ByteArray.empty, 0)).2) + 1), []), mupd a0 a1.2.1 (a1.2.2.1, w64 ((((a0 a1.2.1).getD (ByteArray.empty, 0)).2) + 1))))
  (Option.bind (F37 a0 a1.2.1) fun (r30, r31) =>
  cond ((decide ((r30.length : Int) > 0)))
  (some ((7, ByteArray.empty, 0, []), r31))
  (some ((0, ByteArray.empty, 0, []), mdel r31 a1.2.1))))))))))))

noncomputable def F15_L0 (a0 : List (Int × ByteArray × ByteArray × Int)) : ((List (Int × ByteArray × Int × List ByteArray)) × (ByteArray → Option (ByteArray × Int)) × Int) → Option (Ctl ((List (Int × ByteArray × Int × List ByteArray)) × (ByteArray → Option (ByteArray × Int)) × Int) ((List (Int × ByteArray × Int × List ByteArray)) × (ByteArray → Option (ByteArray × Int))) (Unit)) := fun (y11, y14, x15) =>
  cond ((decide (x15 < (a0.length : Int))))
  (Option.bind (idx a0 x15) fun x35 =>
  Option.bind (F29 y14 (x35.1, x35.2.1, x35.2.2.1, x35.2.2.2)) fun (r38, r39) =>
  Option.bind (appl 56 y11 [(r38.1, r38.2.1, r38.2.2.1, r38.2.2.2)]) fun (y48 : List (Int × ByteArray × Int × List ByteArray)) =>
  some (.nxt (y48, r39, w64 (x15 + 1))))
  (some (.brk (y11, y14)))
/-- the model of beaconry/tree.Play -/
noncomputable def F15 (a0 : List (Int × ByteArray × ByteArray × Int)) : Option ((List (Int × ByteArray × Int × List ByteArray)) × Int) :=
  cond ((decide ((a0.length : Int) > 60)))
  (some ([], 1))
  (Option.bind (F26) fun r3 =>
  Option.bind (whileM (F15_L0 a0) ([], r3, 0)) fun o31 => Ctl.on o31 (fun (y27, y30) =>
  some (y27, 0)) (fun _ => none))

/-- the model of beaconry/beaconryref.Root -/
noncomputable def F20 : Option ((List (ByteArray × ByteArray × Int))) :=
  some ([((ByteArray.mk #[47]), ByteArray.empty, 0)] : List (ByteArray × ByteArray × Int))

/-- the model of beaconry/beaconryref.Deed$1 -/
noncomputable def F38 (a0 : Int) (a1 : List (ByteArray × ByteArray × Int)) : Option ((Int × ByteArray × Int × List ByteArray)) :=
  some (a0, ByteArray.empty, 0, [])

noncomputable def F39_L0 (a0 : ByteArray) : Int → Option (Ctl (Int) (Unit) (Bool)) := fun x13 =>
  cond ((decide (x13 < (a0.size : Int))))
  (Option.bind (sidx a0 x13) fun x19 =>
  cond ((x19 == 47))
  (Option.bind (cond ((decide (x13 > 0))) (Option.bind (sidx a0 (w64 (x13 - 1))) fun x25 =>
  some (x25 == 47)) (some false)) fun b23 =>
  cond (b23)
  (some (.ret false))
  (some (.nxt (w64 (x13 + 1)))))
  (Option.bind (sidx a0 x13) fun x28 =>
  Option.bind (cond ((decide (x28 < 97))) (some true) (Option.bind (sidx a0 x13) fun x33 =>
  some (decide (x33 > 122)))) fun b31 =>
  cond (b31)
  (some (.ret false))
  (some (.nxt (w64 (x13 + 1))))))
  (some (.brk ()))
/-- the model of beaconry/beaconryref.Name -/
noncomputable def F39 (a0 : ByteArray) : Option (Bool) :=
  cond ((sEq a0 (ByteArray.mk #[47])))
  (some true)
  (Option.bind (cond ((sEq a0 (ByteArray.mk #[]))) (some true) (Option.bind (sidx a0 0) fun x5 =>
  some (x5 != 47))) fun b3 =>
  Option.bind (cond (b3) (some true) (Option.bind (sidx a0 (w64 ((a0.size : Int) - 1))) fun x10 =>
  some (x10 == 47))) fun b8 =>
  cond (b8)
  (some false)
  (Option.bind (whileM (F39_L0 a0) 0) fun o15 => Ctl.on o15 (fun _ =>
  some true) (fun r => some r)))

noncomputable def F40_L0 (a0 : List (ByteArray × ByteArray × Int)) (a1 : ByteArray) : Int → Option (Ctl (Int) (Unit) (Int)) := fun x1 =>
  cond ((decide (x1 < (a0.length : Int))))
  (Option.bind (idx a0 x1) fun x7 =>
  cond ((sEq x7.1 a1))
  (some (.ret x1))
  (some (.nxt (w64 (x1 + 1)))))
  (some (.brk ()))
/-- the model of beaconry/beaconryref.Where -/
noncomputable def F40 (a0 : List (ByteArray × ByteArray × Int)) (a1 : ByteArray) : Option (Int) :=
  Option.bind (whileM (F40_L0 a0 a1) 0) fun o3 => Ctl.on o3 (fun _ =>
  some (-1)) (fun r => some r)

noncomputable def F32_L0 (a0 : ByteArray) : Int → Option (Ctl (Int) (Int) (Unit)) := fun x1 =>
  Option.bind (sidx a0 x1) fun x7 =>
  cond ((x7 != 47))
  (some (.nxt (w64 (x1 - 1))))
  (some (.brk x1))
/-- the model of beaconry/beaconryref.Parent -/
noncomputable def F32 (a0 : ByteArray) : Option (ByteArray × ByteArray) :=
  Option.bind (whileM (F32_L0 a0) (w64 ((a0.size : Int) - 1))) fun o4 => Ctl.on o4 (fun x3 =>
  cond ((x3 == 0))
  (Option.bind (sslc a0 1 (a0.size : Int)) fun x11 =>
  some ((ByteArray.mk #[47]), x11))
  (Option.bind (sslc a0 0 x3) fun x13 =>
  Option.bind (sslc a0 (w64 (x3 + 1)) (a0.size : Int)) fun x15 =>
  some (x13, x15))) (fun _ => none)

noncomputable def F41_L2 : ((List ByteArray) × Int) → Option (Ctl ((List ByteArray) × Int) ((List ByteArray)) (Unit)) := fun (y42, x43) =>
  Option.bind (cond ((decide (x43 > 0))) (Option.bind (idx y42 x43) fun x53 =>
  Option.bind (idx y42 (w64 (x43 - 1))) fun x55 =>
  some (sLt x53 x55)) (some false)) fun b51 =>
  cond (b51)
  (Option.bind (idx y42 (w64 (x43 - 1))) fun xq58_8_1 =>
  Option.bind (idx y42 x43) fun xq58_12_1 =>
  Option.bind (idx y42 x43) fun xq58_14_1 =>
  Option.bind (idx (y42.set x43.toNat xq58_8_1) (w64 (x43 - 1))) fun xq58_16_1 =>
  some (.nxt ((y42.set x43.toNat xq58_8_1).set (w64 (x43 - 1)).toNat xq58_12_1, w64 (x43 - 1))))
  (some (.brk y42))
noncomputable def F41_L1 : ((List ByteArray) × Int) → Option (Ctl ((List ByteArray) × Int) ((List ByteArray)) (Unit)) := fun (y33, x34) =>
  cond ((decide (x34 < (y33.length : Int))))
  (Option.bind (whileM (F41_L2) (y33, x34)) fun o47 => Ctl.on o47 (fun y46 =>
  some (.nxt (y46, w64 (x34 + 1)))) (fun _ => none))
  (some (.brk y33))
noncomputable def F41_L0 (a0 : List (ByteArray × ByteArray × Int)) (a1 : ByteArray) : ((List ByteArray) × Int) → Option (Ctl ((List ByteArray) × Int) ((List ByteArray)) (Unit)) := fun (y4, x5) =>
  cond ((decide (x5 < (a0.length : Int))))
  (Option.bind (α := (List ByteArray)) (Option.bind (idx a0 x5) fun x20 =>
  cond ((sEq x20.1 (ByteArray.mk #[47])))
  (some y4)
  (Option.bind (F32 x20.1) fun (r24, r25) =>
  cond ((sEq r24 a1))
  (Option.bind (appl 16 y4 ([r25] : List ByteArray)) fun (y30 : List ByteArray) =>
  some y30)
  (some y4)))
  fun y17 =>
  some (.nxt (y17, w64 (x5 + 1))))
  (some (.brk y4))
/-- the model of beaconry/beaconryref.Below -/
noncomputable def F41 (a0 : List (ByteArray × ByteArray × Int)) (a1 : ByteArray) : Option ((List ByteArray)) :=
  Option.bind (whileM (F41_L0 a0 a1) ([], 0)) fun o13 => Ctl.on o13 (fun y12 =>
  Option.bind (whileM (F41_L1) (y12, 1)) fun o38 => Ctl.on o38 (fun y37 =>
  some y37) (fun _ => none)) (fun _ => none)

/-- the model of beaconry/beaconryref.Deed -/
noncomputable def F30 (a0 : List (ByteArray × ByteArray × Int)) (a1 : Int × ByteArray × ByteArray × Int) : Option ((List (ByteArray × ByteArray × Int)) × (Int × ByteArray × Int × List ByteArray)) :=
  cond (((decide (a1.1 < 1)) || (decide (a1.1 > 5))))
  (Option.bind (F38 6 a0) fun r9 =>
  some (a0, (r9.1, r9.2.1, r9.2.2.1, r9.2.2.2)))
  (Option.bind (F39 a1.2.1) fun r14 =>
  cond ((!r14))
  (Option.bind (F38 3 a0) fun r17 =>
  some (a0, (r17.1, r17.2.1, r17.2.2.1, r17.2.2.2)))
  (cond ((((a1.1 == 1) || (a1.1 == 2)) && (decide ((a1.2.2.1.size : Int) > 20))))
  (Option.bind (F38 1 a0) fun r25 =>
  some (a0, (r25.1, r25.2.1, r25.2.2.1, r25.2.2.2)))
  (Option.bind (F40 a0 a1.2.1) fun r30 =>
  cond ((a1.1 == 1))
  (cond ((decide (r30 ≥ 0)))
  (Option.bind (F38 7 a0) fun r34 =>
  some (a0, (r34.1, r34.2.1, r34.2.2.1, r34.2.2.2)))
  (Option.bind (F32 a1.2.1) fun (r39, r40) =>
  Option.bind (F40 a0 r39) fun r42 =>
  cond ((decide (r42 < 0)))
  (Option.bind (F38 5 a0) fun r45 =>
  some (a0, (r45.1, r45.2.1, r45.2.2.1, r45.2.2.2)))
  (cond ((decide ((a0.length : Int) ≥ 12)))
  (Option.bind (F38 1 a0) fun r51 =>
  some (a0, (r51.1, r51.2.1, r51.2.2.1, r51.2.2.2)))
  (Option.bind (α := (List (ByteArray × ByteArray × Int))) (Option.bind (appl 40 ([] : List (ByteArray × ByteArray × Int)) a0) fun (yq56_2_1 : List (ByteArray × ByteArray × Int)) =>
  Option.bind (appl 40 yq56_2_1 ([(a1.2.1, a1.2.2.1, 0)] : List (ByteArray × ByteArray × Int))) fun (yq56_9_1 : List (ByteArray × ByteArray × Int)) =>
  some yq56_9_1)
  fun y59 =>
  some (y59, (0, ByteArray.empty, 0, []))))))
  (cond (((a1.1 == 3) && (sEq a1.2.1 (ByteArray.mk #[47]))))
  (Option.bind (F38 3 a0) fun r63 =>
  some (a0, (r63.1, r63.2.1, r63.2.2.1, r63.2.2.2)))
  (cond ((decide (r30 < 0)))
  (Option.bind (F38 5 a0) fun r69 =>
  some (a0, (r69.1, r69.2.1, r69.2.2.1, r69.2.2.2)))
  (cond ((a1.1 == 4))
  (Option.bind (idx a0 r30) fun x75 =>
  Option.bind (idx a0 r30) fun x77 =>
  some (a0, (0, x75.2.1, x77.2.2, [])))
  (cond ((a1.1 == 5))
  (Option.bind (idx a0 r30) fun xq80_3_1 =>
  Option.bind (F41 a0 a1.2.1) fun rq80_9_1 =>
  some (a0, (0, ByteArray.empty, xq80_3_1.2.2, rq80_9_1)))
  (Option.bind (cond ((decide (a1.2.2.2 ≥ 0))) (Option.bind (idx a0 r30) fun x84 =>
  some (a1.2.2.2 != x84.2.2)) (some false)) fun b82 =>
  cond (b82)
  (Option.bind (F38 8 a0) fun r87 =>
  some (a0, (r87.1, r87.2.1, r87.2.2.1, r87.2.2.2)))
  (cond ((a1.1 == 3))
  (Option.bind (F41 a0 a1.2.1) fun r93 =>
  cond ((decide ((r93.length : Int) > 0)))
  (Option.bind (F38 7 a0) fun r98 =>
  some (a0, (r98.1, r98.2.1, r98.2.2.1, r98.2.2.2)))
  (Option.bind (slI a0 0 r30) fun yq103_3_1 =>
  Option.bind (slI a0 (w64 (r30 + 1)) (a0.length : Int)) fun yq103_8_1 =>
  Option.bind (appl 40 ([] : List (ByteArray × ByteArray × Int)) yq103_3_1) fun (yq103_4_1 : List (ByteArray × ByteArray × Int)) =>
  Option.bind (appl 40 yq103_4_1 yq103_8_1) fun (yq103_9_1 : List (ByteArray × ByteArray × Int)) =>
  some (yq103_9_1, (0, ByteArray.empty, 0, []))))
  (Option.bind (appl 40 ([] : List (ByteArray × ByteArray × Int)) a0) fun (y106 : List (ByteArray × ByteArray × Int)) =>
  Option.bind (idx y106 r30) fun x109 =>
  Option.bind (idx (y106.set r30.toNat (x109.1, a1.2.2.1, x109.2.2)) r30) fun x111 =>
  Option.bind (idx (y106.set r30.toNat (x109.1, a1.2.2.1, x109.2.2)) r30) fun x113 =>
  Option.bind (idx ((y106.set r30.toNat (x109.1, a1.2.2.1, x109.2.2)).set r30.toNat (x113.1, x113.2.1, w64 (x111.2.2 + 1))) r30) fun x115 =>
  some ((y106.set r30.toNat (x109.1, a1.2.2.1, x109.2.2)).set r30.toNat (x113.1, x113.2.1, w64 (x111.2.2 + 1)), (0, ByteArray.empty, x115.2.2, []))))))))))))

noncomputable def F19_L0 (a1 : List (Int × ByteArray × ByteArray × Int)) : ((List (ByteArray × ByteArray × Int)) × (List (Int × ByteArray × Int × List ByteArray)) × Int) → Option (Ctl ((List (ByteArray × ByteArray × Int)) × (List (Int × ByteArray × Int × List ByteArray)) × Int) ((List (ByteArray × ByteArray × Int)) × (List (Int × ByteArray × Int × List ByteArray))) (Unit)) := fun (y6, y10, x11) =>
  cond ((decide (x11 < (a1.length : Int))))
  (Option.bind (idx a1 x11) fun x31 =>
  Option.bind (F30 y6 (x31.1, x31.2.1, x31.2.2.1, x31.2.2.2)) fun (r34, r35) =>
  Option.bind (appl 56 y10 [(r35.1, r35.2.1, r35.2.2.1, r35.2.2.2)]) fun (y46 : List (Int × ByteArray × Int × List ByteArray)) =>
  some (.nxt (r34, y46, w64 (x11 + 1))))
  (some (.brk (y6, y10)))
/-- the model of beaconry/beaconryref.Deeds -/
noncomputable def F19 (a0 : List (ByteArray × ByteArray × Int)) (a1 : List (Int × ByteArray × ByteArray × Int)) : Option ((List (ByteArray × ByteArray × Int)) × (List (Int × ByteArray × Int × List ByteArray))) :=
  Option.bind (whileM (F19_L0 a1) (a0, [], 0)) fun o27 => Ctl.on o27 (fun (y22, y26) =>
  some (y22, y26)) (fun _ => none)

noncomputable def F16_L0 (a0 : Int × ByteArray × Int × List ByteArray) (a1 : Int × ByteArray × Int × List ByteArray) : Int → Option (Ctl (Int) (Unit) (Bool)) := fun x9 =>
  cond ((decide (x9 < (a0.2.2.2.length : Int))))
  (Option.bind (idx a0.2.2.2 x9) fun x15 =>
  Option.bind (idx a1.2.2.2 x9) fun x17 =>
  cond ((!sEq x15 x17))
  (some (.ret false))
  (some (.nxt (w64 (x9 + 1)))))
  (some (.brk ()))
/-- the model of beaconry/beaconryref.Telling -/
noncomputable def F16 (a0 : Int × ByteArray × Int × List ByteArray) (a1 : Int × ByteArray × Int × List ByteArray) : Option (Bool) :=
  cond (((((a0.1 != a1.1) || (!sEq a0.2.1 a1.2.1)) || (a0.2.2.1 != a1.2.2.1)) || ((a0.2.2.2.length : Int) != (a1.2.2.2.length : Int))))
  (some false)
  (Option.bind (whileM (F16_L0 a0 a1) 0) fun o11 => Ctl.on o11 (fun _ =>
  some true) (fun r => some r))

noncomputable def F13_L0 (a0 : List (Int × ByteArray × Int × List ByteArray)) (a1 : List (Int × ByteArray × Int × List ByteArray)) : Int → Option (Ctl (Int) (Unit) (Bool)) := fun x2 =>
  cond ((decide (x2 < (a0.length : Int))))
  (Option.bind (idx a0 x2) fun (x8 : Int × ByteArray × Int × List ByteArray) =>
  Option.bind (idx a1 x2) fun (x10 : Int × ByteArray × Int × List ByteArray) =>
  Option.bind (F16 (x8.1, x8.2.1, x8.2.2.1, x8.2.2.2) (x10.1, x10.2.1, x10.2.2.1, x10.2.2.2)) fun r12 =>
  cond ((!r12))
  (some (.ret false))
  (some (.nxt (w64 (x2 + 1)))))
  (some (.brk ()))
/-- the model of beaconry/beaconryref.Tellings -/
noncomputable def F13 (a0 : List (Int × ByteArray × Int × List ByteArray)) (a1 : List (Int × ByteArray × Int × List ByteArray)) : Option (Bool) :=
  cond (((a0.length : Int) != (a1.length : Int)))
  (some false)
  (Option.bind (whileM (F13_L0 a0 a1) 0) fun o4 => Ctl.on o4 (fun _ =>
  some true) (fun r => some r))

/-- the model of beaconry/beaconrylaw.TreePlays -/
noncomputable def F6 (a0 : List (Int × ByteArray × ByteArray × Int)) : Option (Bool) :=
  Option.bind (F15 a0) fun (r1, r2) =>
  cond ((decide ((a0.length : Int) > 60)))
  (some ((r2 == 1) && ((r1.length : Int) == 0)))
  (Option.bind (F20) fun r9 =>
  Option.bind (F19 r9 a0) fun (r13, r14) =>
  Option.bind (cond ((r2 == 0)) (Option.bind (F13 r1 r14) fun r24 =>
  some r24) (some false)) fun b22 =>
  some b22)
end Go.Proofs.YtadfgohglcglcaaDoor
