/-
  Pure models of Go functions, written by a program (gen.py).
-/
import Derived.Test.YthfkdepcnhhepaaBk26
import Derived.Test.YthfkdepcnhhepaaXM
namespace Go.Proofs.Ythfkdepcnhhepaa
open Go Go.Bk
set_option linter.unusedVariables false
@[reducible] def cTii (x : Int × Int) : List Value := [I x.1, I x.2]
noncomputable def F24_L1 (y23 : List (Int × Int × Int × Int)) (x63 : Int × Int × Int × Int) : (Int × Int × Int × Int × Int × Int) → Option (Ctl (Int × Int × Int × Int × Int × Int) (Int × Int × Int × Int × Int) (Unit)) := fun (x93, x94, x95, x96, x97, x98) =>
  cond ((decide (x98 < (y23.length : Int))))
  (Option.bind (α := Int × Int × Int × Int × Int) (Option.bind (idx y23 x98) fun x120 =>
  cond ((x120.2.1 == x63.2.2.2))
  (cond ((decide (x120.2.2.1 > x95)))
  (some (x120.1, x120.2.1, x120.2.2.1, x120.2.2.2, w64 (x97 + 1)))
  (some (x93, x94, x95, x96, w64 (x97 + 1))))
  (some (x93, x94, x95, x96, x97)))
  fun (x114, x115, x116, x117, x118) =>
  some (.nxt (x114, x115, x116, x117, x118, w64 (x98 + 1))))
  (some (.brk (x93, x94, x95, x96, x97)))
noncomputable def F24_L3 (x63 : Int × Int × Int × Int) (y150 : List (Int × Int)) (x153 : Int) (x154 : Int) : Int → Option (Ctl (Int) (Int) (Unit)) := fun x162 =>
  cond ((decide (x162 < (y150.length : Int))))
  (Option.bind (idx y150 x162) fun x169 =>
  cond (((x169.1 == x63.2.2.2) && (x169.2 == x154)))
  (some (.brk (w64 (x153 + 1))))
  (some (.nxt (w64 (x162 + 1)))))
  (some (.brk x153))
noncomputable def F24_L2 (a0 : Int) (x63 : Int × Int × Int × Int) (y150 : List (Int × Int)) : (Int × Int) → Option (Ctl (Int × Int) (Int) (Unit)) := fun (x153, x154) =>
  cond ((decide (x154 < a0)))
  (Option.bind (whileM (F24_L3 x63 y150 x153 x154) 0) fun o165 => Ctl.on o165 (fun x164 =>
  some (.nxt (x164, w64 (x154 + 1)))) (fun _ => none))
  (some (.brk x153))
noncomputable def F24_L0 (a0 : Int) (a1 : List (Int × Int × Int × Int)) : ((List (Int × Int × Int × Int)) × (List (Int × Int)) × (List Int) × (List Int) × (List Int) × (List Int) × (List Int) × Int × Int) → Option (Ctl ((List (Int × Int × Int × Int)) × (List (Int × Int)) × (List Int) × (List Int) × (List Int) × (List Int) × (List Int) × Int × Int) ((List Int) × (List Int) × (List Int) × (List Int) × (List Int) × Int) (Unit)) := fun (y23, y26, y29, y30, y31, y32, y33, x34, x35) =>
  cond ((decide (x35 < (a1.length : Int))))
  (Option.bind (idx a1 x35) fun x63 =>
  Option.bind (α := (List (Int × Int × Int × Int)) × (List (Int × Int)) × (List Int) × (List Int) × (List Int) × (List Int) × Int × Int) (cond (((decide (x63.1 < 1)) || (decide (x63.1 > 3))))
  (some (y23, y26, y30, y31, y32, y33, x34, 6))
  (cond (((x63.1 != 2) && ((decide (x63.2.1 < 0)) || (decide (x63.2.1 ≥ a0)))))
  (some (y23, y26, y30, y31, y32, y33, x34, 2))
  (cond (((decide (x63.2.2.2 < 1)) || (decide (x63.2.2.2 > 9))))
  (some (y23, y26, y30, y31, y32, y33, x34, 4))
  (cond ((x63.1 == 1))
  (Option.bind (idx y31 x63.2.1) fun x85 =>
  cond ((decide (x85 ≥ x63.2.2.2)))
  (some (y23, y26, y30, y31, y32, y33, x34, 8))
  (Option.bind (idx y31 x63.2.1) fun x88 =>
  Option.bind (idx y32 x63.2.1) fun xq90_6_1 =>
  Option.bind (idx y33 x63.2.1) fun xq90_11_1 =>
  Option.bind (appl 32 y23 ([(x63.2.1, x63.2.2.2, xq90_6_1, xq90_11_1)] : List (Int × Int × Int × Int))) fun (yq90_15_1 : List (Int × Int × Int × Int)) =>
  some (yq90_15_1, y26, y30, y31.set x63.2.1.toNat x63.2.2.2, y32, y33, x34, 0)))
  (cond ((x63.1 == 2))
  (Option.bind (whileM (F24_L1 y23 x63) (0, 0, 0, 0, 0, 0)) fun o110 => Ctl.on o110 (fun (x105, x106, x107, x108, x109) =>
  Option.bind (idx y30 x63.2.2.2) fun x125 =>
  cond ((decide (x125 > 0)))
  (some (y23, y26, y30, y31, y32, y33, x34, 7))
  (cond ((decide ((w64 (x109 * 2)) ≤ a0)))
  (some (y23, y26, y30, y31, y32, y33, x34, 5))
  (cond ((decide (x107 > 0)))
  (Option.bind (idx y30 x63.2.2.2) fun x130 =>
  some (y23, y26, y30.set x63.2.2.2.toNat x108, y31, y32, y33, x34, 0))
  (Option.bind (idx y30 x63.2.2.2) fun x132 =>
  some (y23, y26, y30.set x63.2.2.2.toNat x63.2.2.2, y31, y32, y33, x34, 0))))) (fun _ => none))
  (Option.bind (idx y30 x63.2.2.2) fun x134 =>
  cond ((x134 == 0))
  (some (y23, y26, y30, y31, y32, y33, x34, 5))
  (Option.bind (idx y31 x63.2.1) fun x137 =>
  cond ((decide (x137 > x63.2.2.2)))
  (some (y23, y26, y30, y31, y32, y33, x34, 8))
  (Option.bind (idx y31 x63.2.1) fun x140 =>
  Option.bind (idx y32 x63.2.1) fun x142 =>
  Option.bind (idx y30 x63.2.2.2) fun x144 =>
  Option.bind (idx y33 x63.2.1) fun x146 =>
  Option.bind (appl 16 y26 ([(x63.2.2.2, x63.2.1)] : List (Int × Int))) fun (y150 : List (Int × Int)) =>
  Option.bind (whileM (F24_L2 a0 x63 y150) (0, 0)) fun o158 => Ctl.on o158 (fun x157 =>
  cond ((decide ((w64 (x157 * 2)) > a0)))
  (Option.bind (idx y30 x63.2.2.2) fun x175 =>
  some (y23, y150, y30, y31.set x63.2.1.toNat x63.2.2.2, y32.set x63.2.1.toNat x63.2.2.2, y33.set x63.2.1.toNat x144, x175, 0))
  (some (y23, y150, y30, y31.set x63.2.1.toNat x63.2.2.2, y32.set x63.2.1.toNat x63.2.2.2, y33.set x63.2.1.toNat x144, x34, 0))) (fun _ => none)))))))))
  fun (y67, y69, y71, y72, y73, y74, x75, x76) =>
  Option.bind (appl 8 y29 ([x76] : List Int)) fun (y179 : List Int) =>
  some (.nxt (y67, y69, y179, y71, y72, y73, y74, x75, w64 (x35 + 1))))
  (some (.brk (y29, y30, y31, y32, y33, x34)))
/-- the model of beaconry/beaconryref.Paxos -/
noncomputable def F24 (a0 : Int) (a1 : List (Int × Int × Int × Int)) : Option (((List Int) × Int × (List Int) × (List Int) × List Int)) :=
  Option.bind (α := (List Int) × (List Int) × (List Int)) (Option.bind (mkl a0 8 0) fun (yq6_1_1 : List Int) =>
  Option.bind (mkl a0 8 0) fun (yq6_3_1 : List Int) =>
  Option.bind (mkl a0 8 0) fun (yq6_5_1 : List Int) =>
  some (yq6_1_1, yq6_3_1, yq6_5_1))
  fun (y9, y12, y15) =>
  Option.bind (mkl 10 8 0) fun (y17 : List Int) =>
  Option.bind (whileM (F24_L0 a0 a1) ([], [], [], y17, y9, y12, y15, (-1), 0)) fun o59 => Ctl.on o59 (fun (y53, y54, y55, y56, y57, x58) =>
  some (y53, x58, y55, y56, y57)) (fun _ => none)
end Go.Proofs.Ythfkdepcnhhepaa
