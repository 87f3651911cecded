/-
  Pure models of Go functions, written by a program (gen.py).
-/
import Derived.Test.YtadfgohglcglcaaDoorBk38
import Derived.Test.YtadfgohglcglcaaDoorSM
import Derived.Test.YtadfgohglcglcaaDoorNM
import Derived.Test.YtadfgohglcglcaaDoorKM
namespace Go.Proofs.YtadfgohglcglcaaDoor
open Go Go.Bk
set_option linter.unusedVariables false
@[reducible] def cTiiiissi (x : Int × Int × Int × Int × ByteArray × ByteArray × Int) : List Value := [I x.1, I x.2.1, I x.2.2.1, I x.2.2.2.1, .string x.2.2.2.2.1, .string x.2.2.2.2.2.1, I x.2.2.2.2.2.2]
@[reducible] def nT77 : NT ((ByteArray → Option (ByteArray × Int)) × Int) := ⟨fun x c => [.pointer (some ⟨pq (cv c 0), 0, none⟩), I x.2], fun x c => [Bx (pq (cv c 0)) 103 [.map (some (mv (cv c 1)))], MF (fun k : ByteArray => .string k) (fun x : ByteArray × Int => .agg (cTsi x).toArray) (mv (cv c 1)) x.1]⟩
noncomputable def F34_L0 (a0 : (List ((ByteArray → Option (ByteArray × Int)) × Int)) × List (Int × ByteArray × ByteArray × Int)) (a1 : Int) (a2 : Int) : ((List ByteArray) × (List ((ByteArray → Option (ByteArray × Int)) × Int)) × Int × ByteArray × Int) → Option (Ctl ((List ByteArray) × (List ((ByteArray → Option (ByteArray × Int)) × Int)) × Int × ByteArray × Int) ((List ByteArray) × (List ((ByteArray → Option (ByteArray × Int)) × Int)) × Int × ByteArray × Int) (Unit)) := fun (y10, y11, x13, t14, x15) =>
  Option.bind (idx y11 a1) fun (x35 : (ByteArray → Option (ByteArray × Int)) × Int) =>
  cond ((decide (x35.2 < a2)))
  (Option.bind (idx y11 a1) fun (x38 : (ByteArray → Option (ByteArray × Int)) × Int) =>
  Option.bind (idx y11 a1) fun (x40 : (ByteArray → Option (ByteArray × Int)) × Int) =>
  Option.bind (idx a0.2 x40.2) fun x42 =>
  Option.bind (F29 x38.1 x42) fun (r46, r47) =>
  Option.bind (some (y11.set a1.toNat (r47, x38.2))) fun (y54 : List ((ByteArray → Option (ByteArray × Int)) × Int)) =>
  Option.bind (idx y54 a1) fun (x57 : (ByteArray → Option (ByteArray × Int)) × Int) =>
  Option.bind (idx y54 a1) fun (x59 : (ByteArray → Option (ByteArray × Int)) × Int) =>
  Option.bind (some (y54.set a1.toNat (x59.1, w64 (x57.2 + 1)))) fun (y64 : List ((ByteArray → Option (ByteArray × Int)) × Int)) =>
  some (.nxt (r46.2.2.2, y64, r46.1, r46.2.1, r46.2.2.1)))
  (some (.brk (y10, y11, x13, t14, x15)))
/-- the model of (*beaconry/keep.place).apply -/
noncomputable def F34 (a0 : (List ((ByteArray → Option (ByteArray × Int)) × Int)) × List (Int × ByteArray × ByteArray × Int)) (a1 : Int) (a2 : Int) : Option ((Int × ByteArray × Int × List ByteArray) × ((List ((ByteArray → Option (ByteArray × Int)) × Int)) × List (Int × ByteArray × ByteArray × Int))) :=
  Option.bind (whileM (F34_L0 a0 a1 a2) ([], a0.1, 0, ByteArray.empty, 0)) fun o32 => Ctl.on o32 (fun (y26, y27, x29, t30, x31) =>
  some ((x29, t30, x31, y26), (y27, a0.2))) (fun _ => none)

/-- the model of (*beaconry/keep.place).deed -/
noncomputable def F33 (a0 : (List ((ByteArray → Option (ByteArray × Int)) × Int)) × (List (Int × ByteArray × ByteArray × Int)) × (T6 Int) × T6 Int) (a1 : Int) (a2 : Int × ByteArray × ByteArray × Int) : Option ((Int × ByteArray × Int × List ByteArray) × ((List ((ByteArray → Option (ByteArray × Int)) × Int)) × (List (Int × ByteArray × ByteArray × Int)) × (T6 Int) × T6 Int)) :=
  Option.bind (idx (tl6 a0.2.2.1) a1) fun x8 =>
  Option.bind (α := (List ByteArray) × (List ((ByteArray → Option (ByteArray × Int)) × Int)) × (List (Int × ByteArray × ByteArray × Int)) × Int × ByteArray × Int) (cond (((a2.1 == 4) || (a2.1 == 5)))
  (Option.bind (idx a0.1 x8) fun (x24 : (ByteArray → Option (ByteArray × Int)) × Int) =>
  Option.bind (F29 x24.1 (a2.1, a2.2.1, a2.2.2.1, a2.2.2.2)) fun (r28, r29) =>
  Option.bind (some (a0.1.set x8.toNat (r29, x24.2))) fun (y36 : List ((ByteArray → Option (ByteArray × Int)) × Int)) =>
  some (r28.2.2.2, y36, a0.2.1, r28.1, r28.2.1, r28.2.2.1))
  (Option.bind (appl 48 a0.2.1 ([(a2.1, a2.2.1, a2.2.2.1, a2.2.2.2)] : List (Int × ByteArray × ByteArray × Int))) fun (yq39_7_1 : List (Int × ByteArray × ByteArray × Int)) =>
  Option.bind (F34 (a0.1, yq39_7_1) x8 (yq39_7_1.length : Int)) fun (r40, r41) =>
  some (r40.2.2.2, r41.1, r41.2, r40.1, r40.2.1, r40.2.2.1)))
  fun (y14, y15, y17, x19, t20, x21) =>
  Option.bind (idx y15 x8) fun (x49 : (ByteArray → Option (ByteArray × Int)) × Int) =>
  Option.bind (idx (tl6 a0.2.2.2) a1) fun x51 =>
  Option.bind (as6 a0.2.2.2 a1 x49.2) fun z53 =>
  some ((x19, t20, x21, y14), (y15, y17, a0.2.2.1, z53))

/-- the model of (*beaconry/keep.place).do -/
noncomputable def F27 (a0 : (List ((ByteArray → Option (ByteArray × Int)) × Int)) × (List (Int × ByteArray × ByteArray × Int)) × (T6 Int) × T6 Int) (a1 : Int × Int × Int × Int × ByteArray × ByteArray × Int) : Option ((Int × ByteArray × Int × List ByteArray) × ((List ((ByteArray → Option (ByteArray × Int)) × Int)) × (List (Int × ByteArray × ByteArray × Int)) × (T6 Int) × T6 Int)) :=
  cond ((((decide (a1.1 < 1)) || (decide (a1.1 > 4))) || ((a1.1 == 1) && ((decide (a1.2.2.2.1 < 1)) || (decide (a1.2.2.2.1 > 5))))))
  (some ((6, ByteArray.empty, 0, []), (a0.1, a0.2.1, a0.2.2.1, a0.2.2.2)))
  (cond ((((a1.1 != 2) && (!((decide (a1.2.1 ≥ 0)) && (decide (a1.2.1 < 6))))) || (((a1.1 == 2) || (a1.1 == 3)) && (!((decide (a1.2.2.1 ≥ 0)) && (decide (a1.2.2.1 < (a0.1.length : Int))))))))
  (some ((2, ByteArray.empty, 0, []), (a0.1, a0.2.1, a0.2.2.1, a0.2.2.2)))
  (cond ((a1.1 == 1))
  (Option.bind (F33 (a0.1, a0.2.1, a0.2.2.1, a0.2.2.2) a1.2.1 (a1.2.2.2.1, a1.2.2.2.2.1, a1.2.2.2.2.2.1, a1.2.2.2.2.2.2)) fun (r21, r22) =>
  some ((r21.1, r21.2.1, r21.2.2.1, r21.2.2.2), (r22.1, r22.2.1, r22.2.2.1, r22.2.2.2)))
  (Option.bind (cond ((a1.1 == 2)) (Option.bind (idx a0.1 a1.2.2.1) fun (x34 : (ByteArray → Option (ByteArray × Int)) × Int) =>
  some (x34.2 == (a0.2.1.length : Int))) (some false)) fun b32 =>
  cond (b32)
  (some ((5, ByteArray.empty, 0, []), (a0.1, a0.2.1, a0.2.2.1, a0.2.2.2)))
  (cond ((a1.1 == 2))
  (Option.bind (idx a0.1 a1.2.2.1) fun (x38 : (ByteArray → Option (ByteArray × Int)) × Int) =>
  Option.bind (F34 (a0.1, a0.2.1) a1.2.2.1 (w64 (x38.2 + 1))) fun (r40, r41) =>
  some ((0, ByteArray.empty, 0, []), (r41.1, r41.2, a0.2.2.1, a0.2.2.2)))
  (Option.bind (cond ((a1.1 == 3)) (Option.bind (idx a0.1 a1.2.2.1) fun (x51 : (ByteArray → Option (ByteArray × Int)) × Int) =>
  Option.bind (idx (tl6 a0.2.2.2) a1.2.1) fun x53 =>
  some (decide (x51.2 < x53))) (some false)) fun b49 =>
  cond (b49)
  (some ((8, ByteArray.empty, 0, []), (a0.1, a0.2.1, a0.2.2.1, a0.2.2.2)))
  (Option.bind (α := (List ((ByteArray → Option (ByteArray × Int)) × Int)) × (List (Int × ByteArray × ByteArray × Int)) × (T6 Int) × (T6 Int)) (cond ((a1.1 == 3))
  (Option.bind (idx (tl6 a0.2.2.1) a1.2.1) fun x63 =>
  Option.bind (as6 a0.2.2.1 a1.2.1 a1.2.2.1) fun z65 =>
  some (a0.1, a0.2.1, z65, a0.2.2.2))
  (Option.bind (idx (tl6 a0.2.2.1) a1.2.1) fun x67 =>
  Option.bind (F34 (a0.1, a0.2.1) x67 (a0.2.1.length : Int)) fun (r69, r70) =>
  Option.bind (idx (tl6 a0.2.2.2) a1.2.1) fun x77 =>
  Option.bind (as6 a0.2.2.2 a1.2.1 (r70.2.length : Int)) fun z79 =>
  some (r70.1, r70.2, a0.2.2.1, z79)))
  fun (y56, y58, z59, z60) =>
  some ((0, ByteArray.empty, 0, []), (y56, y58, z59, z60))))))))

noncomputable def F10_L2 (y60 : List ((ByteArray → Option (ByteArray × Int)) × Int)) : ((List Int) × Int) → Option (Ctl ((List Int) × Int) ((List Int)) (Unit)) := fun (y74, x75) =>
  cond ((decide (x75 < (y60.length : Int))))
  (Option.bind (idx y60 x75) fun (x87 : (ByteArray → Option (ByteArray × Int)) × Int) =>
  Option.bind (appl 8 y74 ([x87.2] : List Int)) fun (y92 : List Int) =>
  some (.nxt (y92, w64 (x75 + 1))))
  (some (.brk y74))
noncomputable def F10_L1 (a1 : List (Int × Int × Int × Int × ByteArray × ByteArray × Int)) : ((List (Int × ByteArray × Int × List ByteArray)) × (List (Int × ByteArray × ByteArray × Int)) × (List ((ByteArray → Option (ByteArray × Int)) × Int)) × (T6 Int) × (T6 Int) × Int) → Option (Ctl ((List (Int × ByteArray × Int × List ByteArray)) × (List (Int × ByteArray × ByteArray × Int)) × (List ((ByteArray → Option (ByteArray × Int)) × Int)) × (T6 Int) × (T6 Int) × Int) ((List (Int × ByteArray × Int × List ByteArray)) × (List (Int × ByteArray × ByteArray × Int)) × (List ((ByteArray → Option (ByteArray × Int)) × Int)) × (T6 Int) × (T6 Int)) (Unit)) := fun (y32, y35, y36, z38, z39, x40) =>
  cond ((decide (x40 < (a1.length : Int))))
  (Option.bind (idx a1 x40) fun x68 =>
  Option.bind (F27 (y36, y35, z38, z39) (x68.1, x68.2.1, x68.2.2.1, (x68.2.2.2.1, x68.2.2.2.2.1, x68.2.2.2.2.2.1, x68.2.2.2.2.2.2))) fun (rq71_4_1, rq71_4_2) =>
  Option.bind (appl 56 y32 [(rq71_4_1.1, rq71_4_1.2.1, rq71_4_1.2.2.1, rq71_4_1.2.2.2)]) fun (yq71_6_2 : List (Int × ByteArray × Int × List ByteArray)) =>
  some (.nxt (yq71_6_2, rq71_4_2.2.1, rq71_4_2.1, rq71_4_2.2.2.1, rq71_4_2.2.2.2, w64 (x40 + 1))))
  (some (.brk (y32, y35, y36, z38, z39)))
noncomputable def F10_L0 (a0 : Int) : ((List ((ByteArray → Option (ByteArray × Int)) × Int)) × Int) → Option (Ctl ((List ((ByteArray → Option (ByteArray × Int)) × Int)) × Int) ((List ((ByteArray → Option (ByteArray × Int)) × Int))) (Unit)) := fun (y12, x13) =>
  cond ((decide (x13 < a0)))
  (Option.bind (F26) fun rq27_5_1 =>
  Option.bind (appl 16 y12 [(rq27_5_1, 0)]) fun (yq27_8_1 : List ((ByteArray → Option (ByteArray × Int)) × Int)) =>
  some (.nxt (yq27_8_1, w64 (x13 + 1))))
  (some (.brk y12))
/-- the model of beaconry/keep.Play -/
noncomputable def F10 (a0 : Int) (a1 : List (Int × Int × Int × Int × ByteArray × ByteArray × Int)) : Option (((List (Int × ByteArray × Int × List ByteArray)) × (List Int) × List Int) × Int) :=
  cond ((((decide (a0 < 1)) || (decide (a0 > 6))) || (decide ((a1.length : Int) > 60))))
  (some (([], [], []), 1))
  (Option.bind (whileM (F10_L0 a0) ([], 0)) fun o23 => Ctl.on o23 (fun y22 =>
  Option.bind (whileM (F10_L1 a1) ([], [], y22, (0, 0, 0, 0, 0, 0), (0, 0, 0, 0, 0, 0), 0)) fun o64 => Ctl.on o64 (fun (y56, y59, y60, z62, z63) =>
  Option.bind (whileM (F10_L2 y60) ([], 0)) fun o83 => Ctl.on o83 (fun y82 =>
  Option.bind (appl 8 ([] : List (Int)) (tl6 z63)) fun (y98 : List Int) =>
  some ((y56, y82, y98), 0)) (fun _ => none)) (fun _ => none)) (fun _ => none))

/-- the model of beaconry/beaconryref.PlayCheck -/
noncomputable def F11 (a0 : Int) (a1 : Int) : Option (Int) :=
  cond ((((decide (a0 < 1)) || (decide (a0 > 6))) || (decide (a1 > 60))))
  (some 1)
  (some 0)

noncomputable def F25_L0 (a0 : Int) (a1 : List (Int × Int × Int × Int × ByteArray × ByteArray × Int)) : ((List (Int × ByteArray × ByteArray × Int)) × (List (Int × ByteArray × Int × List ByteArray)) × (List Int) × (List Int) × (List Int) × Int) → Option (Ctl ((List (Int × ByteArray × ByteArray × Int)) × (List (Int × ByteArray × Int × List ByteArray)) × (List Int) × (List Int) × (List Int) × Int) ((List (Int × ByteArray × Int × List ByteArray)) × (List Int) × (List Int) × (List Int)) (Unit)) := fun (y19, y23, y24, y25, y26, x27) =>
  cond ((decide (x27 < (a1.length : Int))))
  (Option.bind (idx a1 x27) fun x50 =>
  Option.bind (α := (List ByteArray) × (List (Int × ByteArray × ByteArray × Int)) × (List Int) × (List Int) × (List Int) × Int × ByteArray × Int) (cond ((((decide (x50.1 < 1)) || (decide (x50.1 > 4))) || ((x50.1 == 1) && ((decide (x50.2.2.2.1 < 1)) || (decide (x50.2.2.2.1 > 5))))))
  (some ([], y19, y24, y25, y26, 6, ByteArray.empty, 0))
  (cond ((((x50.1 != 2) && (!((decide (x50.2.1 ≥ 0)) && (decide (x50.2.1 < 6))))) || (((x50.1 == 2) || (x50.1 == 3)) && (!((decide (x50.2.2.1 ≥ 0)) && (decide (x50.2.2.1 < a0)))))))
  (some ([], y19, y24, y25, y26, 2, ByteArray.empty, 0))
  (cond ((x50.1 == 2))
  (Option.bind (idx y25 x50.2.2.1) fun x79 =>
  cond ((x79 == (y19.length : Int)))
  (some ([], y19, y24, y25, y26, 5, ByteArray.empty, 0))
  (Option.bind (idx y25 x50.2.2.1) fun x82 =>
  Option.bind (idx y25 x50.2.2.1) fun x84 =>
  some ([], y19, y24, y25.set x50.2.2.1.toNat (w64 (x82 + 1)), y26, 0, ByteArray.empty, 0)))
  (cond ((x50.1 == 3))
  (Option.bind (idx y25 x50.2.2.1) fun x87 =>
  Option.bind (idx y26 x50.2.1) fun x89 =>
  cond ((decide (x87 < x89)))
  (some ([], y19, y24, y25, y26, 8, ByteArray.empty, 0))
  (Option.bind (idx y24 x50.2.1) fun x92 =>
  some ([], y19, y24.set x50.2.1.toNat x50.2.2.1, y25, y26, 0, ByteArray.empty, 0)))
  (Option.bind (idx y24 x50.2.1) fun x94 =>
  Option.bind (α := (List ByteArray) × (List (Int × ByteArray × ByteArray × Int)) × (List Int) × Int × ByteArray × Int) (cond ((x50.1 == 4))
  (Option.bind (idx y25 x94) fun x107 =>
  some ([], y19, y25.set x94.toNat (y19.length : Int), 0, ByteArray.empty, 0))
  (cond ((decide (x50.2.2.2.1 ≥ 4)))
  (Option.bind (idx y25 x94) fun xq110_5_1 =>
  Option.bind (slI y19 0 xq110_5_1) fun yq110_7_1 =>
  Option.bind (F20) fun rq110_0_1 =>
  Option.bind (F19 rq110_0_1 yq110_7_1) fun (rq110_8_1, rq110_8_2) =>
  Option.bind (F30 rq110_8_1 (x50.2.2.2.1, x50.2.2.2.2.1, x50.2.2.2.2.2.1, x50.2.2.2.2.2.2)) fun (r111, r112) =>
  some (r112.2.2.2, y19, y25, r112.1, r112.2.1, r112.2.2.1))
  (Option.bind (F20) fun r119 =>
  Option.bind (F19 r119 y19) fun (r123, r124) =>
  Option.bind (F30 r123 (x50.2.2.2.1, x50.2.2.2.2.1, x50.2.2.2.2.2.1, x50.2.2.2.2.2.2)) fun (r131, r132) =>
  Option.bind (appl 48 y19 ([(x50.2.2.2.1, x50.2.2.2.2.1, x50.2.2.2.2.2.1, x50.2.2.2.2.2.2)] : List (Int × ByteArray × ByteArray × Int))) fun (y141 : List (Int × ByteArray × ByteArray × Int)) =>
  Option.bind (idx y25 x94) fun x144 =>
  some (r132.2.2.2, y141, y25.set x94.toNat (y141.length : Int), r132.1, r132.2.1, r132.2.2.1))))
  fun (y98, y99, y101, x102, t103, x104) =>
  Option.bind (idx y101 x94) fun x146 =>
  Option.bind (idx y26 x50.2.1) fun x148 =>
  some (y98, y99, y24, y101, y26.set x50.2.1.toNat x146, x102, t103, x104))))))
  fun (y62, y63, y65, y66, y67, x68, t69, x70) =>
  Option.bind (appl 56 y23 [(x68, t69, x70, y62)]) fun (y153 : List (Int × ByteArray × Int × List ByteArray)) =>
  some (.nxt (y63, y153, y65, y66, y67, w64 (x27 + 1))))
  (some (.brk (y23, y24, y25, y26)))
/-- the model of beaconry/beaconryref.Keep -/
noncomputable def F25 (a0 : Int) (a1 : List (Int × Int × Int × Int × ByteArray × ByteArray × Int)) : Option (((List (Int × ByteArray × Int × List ByteArray)) × (List Int) × List Int)) :=
  Option.bind (α := (List Int) × (List Int)) (Option.bind (mkl a0 8 0) fun (yq5_1_1 : List Int) =>
  Option.bind (mkl 6 8 0) fun (yq5_2_1 : List Int) =>
  some (yq5_1_1, yq5_2_1))
  fun (y8, y11) =>
  Option.bind (mkl 6 8 0) fun (y13 : List Int) =>
  Option.bind (whileM (F25_L0 a0 a1) ([], [], y13, y8, y11, 0)) fun o46 => Ctl.on o46 (fun (y42, y43, y44, y45) =>
  some (y42, y44, y45)) (fun _ => none)

noncomputable def F18_L0 (a0 : List Int) (a1 : List Int) : Int → Option (Ctl (Int) (Unit) (Bool)) := fun x2 =>
  cond ((decide (x2 < (a0.length : Int))))
  (Option.bind (idx a0 x2) fun x8 =>
  Option.bind (idx a1 x2) fun x10 =>
  cond ((x8 != x10))
  (some (.ret false))
  (some (.nxt (w64 (x2 + 1)))))
  (some (.brk ()))
/-- the model of beaconry/beaconryref.Ints -/
noncomputable def F18 (a0 : List Int) (a1 : List Int) : Option (Bool) :=
  cond (((a0.length : Int) != (a1.length : Int)))
  (some false)
  (Option.bind (whileM (F18_L0 a0 a1) 0) fun o4 => Ctl.on o4 (fun _ =>
  some true) (fun r => some r))

/-- the model of beaconry/beaconrylaw.KeepPlays -/
noncomputable def F9 (a0 : Int) (a1 : List (Int × Int × Int × Int × ByteArray × ByteArray × Int)) : Option (Bool) :=
  Option.bind (F10 a0 a1) fun (r1, r2) =>
  Option.bind (F11 a0 (a1.length : Int)) fun r15 =>
  Option.bind (α := (List (Int × ByteArray × Int × List ByteArray)) × (List Int) × (List Int)) (cond ((r15 == 0))
  (Option.bind (F25 a0 a1) fun r30 =>
  some (r30.1, r30.2.1, r30.2.2))
  (some ([], [], [])))
  fun (y21, y24, y27) =>
  Option.bind (cond ((r2 == r15)) (Option.bind (F13 r1.1 y21) fun r45 =>
  some r45) (some false)) fun b43 =>
  Option.bind (cond (b43) (Option.bind (F18 r1.2.1 y24) fun r50 =>
  some r50) (some false)) fun b48 =>
  Option.bind (cond (b48) (Option.bind (F18 r1.2.2 y27) fun r55 =>
  some r55) (some false)) fun b53 =>
  some b53
end Go.Proofs.YtadfgohglcglcaaDoor
