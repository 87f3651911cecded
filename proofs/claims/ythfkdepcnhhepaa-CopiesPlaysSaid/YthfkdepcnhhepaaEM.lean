/-
  Pure models of Go functions, written by a program (gen.py).
-/
import Derived.Test.YthfkdepcnhhepaaBk27
namespace Go.Proofs.Ythfkdepcnhhepaa
open Go Go.Bk
set_option linter.unusedVariables false
@[reducible] def cTiiii (x : Int × Int × Int × Int) : List Value := [I x.1, I x.2.1, I x.2.2.1, I x.2.2.2]
@[reducible] def cTiiibi (x : Int × Int × Int × Bool × Int) : List Value := [I x.1, I x.2.1, I x.2.2.1, .bool x.2.2.2.1, I x.2.2.2.2]
noncomputable def F66_L0 (a0 : List Int) (a1 : Int) : Int → Option (Ctl (Int) (Unit) (Bool)) := fun x1 =>
  cond ((decide (x1 < (a0.length : Int))))
  (Option.bind (idx a0 x1) fun x7 =>
  cond ((a1 == x7))
  (some (.ret true))
  (some (.nxt (w64 (x1 + 1)))))
  (some (.brk ()))
/-- the model of beaconry/beaconryref.Has -/
noncomputable def F66 (a0 : List Int) (a1 : Int) : Option (Bool) :=
  Option.bind (whileM (F66_L0 a0 a1) 0) fun o3 => Ctl.on o3 (fun _ =>
  some false) (fun r => some r)

noncomputable def F34_L1 (x89 : Int × Int × Int × Int) : Int → Option (Ctl (Int) (Int) (Unit)) := fun x231 =>
  cond (((x231.tmod 6) != x89.2.1))
  (some (.nxt (w64 (x231 + 1))))
  (some (.brk x231))
noncomputable def F34_L0 (a0 : Int) (a1 : List (Int × Int × Int × Int)) : ((List Int) × (List (Int × Int × Int × Bool × Int)) × (List Int) × (List Int) × (List (List Int)) × (List (Int × Int × Int × Bool × Int)) × (List Int) × (List Bool) × (List Int) × (List Int) × Int) → Option (Ctl ((List Int) × (List (Int × Int × Int × Bool × Int)) × (List Int) × (List Int) × (List (List Int)) × (List (Int × Int × Int × Bool × Int)) × (List Int) × (List Bool) × (List Int) × (List Int) × Int) ((List Int) × (List (Int × Int × Int × Bool × Int)) × (List Int) × (List Int) × (List (List Int)) × (List (Int × Int × Int × Bool × Int)) × (List Int) × (List Bool) × (List Int) × (List Int)) (Unit)) := fun (y40, y43, y44, y45, y46, y48, y49, y50, y51, y52, x53) =>
  cond ((decide (x53 < (a1.length : Int))))
  (Option.bind (idx a1 x53) fun x89 =>
  Option.bind (α := (List (Int × Int × Int × Bool × Int)) × (List Int) × (List Int) × (List (List Int)) × (List (Int × Int × Int × Bool × Int)) × (List Int) × (List Bool) × (List Int) × (List Int) × Int) (cond (((decide (x89.1 < 1)) || (decide (x89.1 > 3))))
  (some (y43, y44, y45, y46, y48, y49, y50, y51, y52, 6))
  (cond ((((x89.1 != 3) && ((decide (x89.2.1 < 0)) || (decide (x89.2.1 ≥ 6)))) || ((x89.1 != 1) && ((decide (x89.2.2.1 < 0)) || (decide (x89.2.2.1 ≥ a0))))))
  (some (y43, y44, y45, y46, y48, y49, y50, y51, y52, 2))
  (cond ((x89.1 == 3))
  (Option.bind (idx y50 x89.2.2.1) fun x114 =>
  Option.bind (α := Int) (cond (x114)
  (some 7)
  (some 0))
  fun x116 =>
  Option.bind (idx y50 x89.2.2.1) fun x119 =>
  some (y43, y44, y45, y46, y48, y49, y50.set x89.2.2.1.toNat true, y51, y52, x116))
  (Option.bind (cond ((x89.1 == 1)) (Option.bind (idx y49 x89.2.1) fun x124 =>
  some (decide (x124 > 0))) (some false)) fun b122 =>
  Option.bind (cond (b122) (some true) (Option.bind (cond ((x89.1 == 2)) (Option.bind (idx y49 x89.2.1) fun x132 =>
  some (x132 == 0)) (some false)) fun b130 =>
  some b130)) fun b127 =>
  cond (b127)
  (some (y43, y44, y45, y46, y48, y49, y50, y51, y52, 7))
  (cond ((x89.1 == 1))
  (Option.bind (idx y49 x89.2.1) fun x136 =>
  Option.bind (idx y46 x89.2.1) fun (x138 : List Int) =>
  Option.bind (idx y45 x89.2.1) fun x141 =>
  Option.bind (idx y44 x89.2.1) fun x143 =>
  Option.bind (idx y48 x89.2.1) fun x145 =>
  cond ((decide (x89.2.2.2 > 0)))
  (Option.bind (idx (y48.set x89.2.1.toNat (x89.2.1, x53, 0, (decide (x89.2.2.2 ≥ 0)), 0)) x89.2.1) fun x148 =>
  some (y43, y44.set x89.2.1.toNat 0, y45.set x89.2.1.toNat 0, y46.set x89.2.1.toNat ([] : List (Int)), (y48.set x89.2.1.toNat (x89.2.1, x53, 0, (decide (x89.2.2.2 ≥ 0)), 0)).set x89.2.1.toNat (x148.1, x148.2.1, x148.2.2.1, x148.2.2.2.1, x89.2.2.2), y49.set x89.2.1.toNat 1, y50, y51, y52, 0))
  (some (y43, y44.set x89.2.1.toNat 0, y45.set x89.2.1.toNat 0, y46.set x89.2.1.toNat ([] : List (Int)), y48.set x89.2.1.toNat (x89.2.1, x53, 0, (decide (x89.2.2.2 ≥ 0)), 0), y49.set x89.2.1.toNat 1, y50, y51, y52, 0)))
  (Option.bind (idx y46 x89.2.1) fun (x150 : List Int) =>
  Option.bind (F66 x150 x89.2.2.1) fun r153 =>
  cond (r153)
  (some (y43, y44, y45, y46, y48, y49, y50, y51, y52, 8))
  (Option.bind (idx y50 x89.2.2.1) fun x156 =>
  cond (x156)
  (some (y43, y44, y45, y46, y48, y49, y50, y51, y52, 5))
  (Option.bind (α := (List (List Int))) (Option.bind (idx y46 x89.2.1) fun (xq159_4_1 : List Int) =>
  Option.bind (appl 8 xq159_4_1 ([x89.2.2.1] : List Int)) fun (yq159_9_2 : List Int) =>
  Option.bind (idx y46 x89.2.1) fun (xq159_10_1 : List Int) =>
  some (y46.set x89.2.1.toNat yq159_9_2))
  fun y160 =>
  Option.bind (idx y49 x89.2.1) fun x163 =>
  Option.bind (cond ((x163 == 1)) (Option.bind (idx y51 x89.2.2.1) fun x168 =>
  Option.bind (idx y45 x89.2.1) fun x170 =>
  some (decide (x168 > x170))) (some false)) fun b166 =>
  Option.bind (α := (List Int) × (List Int)) (cond (b166)
  (Option.bind (idx y51 x89.2.2.1) fun x176 =>
  Option.bind (idx y45 x89.2.1) fun x178 =>
  Option.bind (idx y52 x89.2.2.1) fun x180 =>
  Option.bind (idx y44 x89.2.1) fun x182 =>
  some (y44.set x89.2.1.toNat x180, y45.set x89.2.1.toNat x176))
  (some (y44, y45)))
  fun (y172, y173) =>
  Option.bind (idx y49 x89.2.1) fun x184 =>
  Option.bind (cond ((x184 == 2)) (Option.bind (idx y173 x89.2.1) fun x189 =>
  Option.bind (idx y51 x89.2.2.1) fun x191 =>
  some (decide (x189 > x191))) (some false)) fun b187 =>
  Option.bind (α := (List Int) × (List Int)) (cond (b187)
  (Option.bind (idx y173 x89.2.1) fun x197 =>
  Option.bind (idx y51 x89.2.2.1) fun x199 =>
  Option.bind (idx y172 x89.2.1) fun x201 =>
  Option.bind (idx y52 x89.2.2.1) fun x203 =>
  some (y51.set x89.2.2.1.toNat x197, y52.set x89.2.2.1.toNat x201))
  (some (y51, y52)))
  fun (y193, y194) =>
  Option.bind (idx y160 x89.2.1) fun (x205 : List Int) =>
  cond ((decide ((w64 ((x205.length : Int) * 2)) > a0)))
  (Option.bind (idx y160 x89.2.1) fun (x209 : List Int) =>
  Option.bind (idx y49 x89.2.1) fun x212 =>
  cond ((x212 == 2))
  (Option.bind (idx y49 x89.2.1) fun x215 =>
  Option.bind (idx y48 x89.2.1) fun x217 =>
  Option.bind (idx y172 x89.2.1) fun x219 =>
  Option.bind (idx (y48.set x89.2.1.toNat (x217.1, x217.2.1, x53, x217.2.2.2.1, x217.2.2.2.2)) x89.2.1) fun x221 =>
  Option.bind (idx ((y48.set x89.2.1.toNat (x217.1, x217.2.1, x53, x217.2.2.2.1, x217.2.2.2.2)).set x89.2.1.toNat (x221.1, x221.2.1, x221.2.2.1, x221.2.2.2.1, x219)) x89.2.1) fun xq223_4_1 =>
  Option.bind (appl 40 y43 ([xq223_4_1] : List (Int × Int × Int × Bool × Int))) fun (yq223_7_1 : List (Int × Int × Int × Bool × Int)) =>
  some (yq223_7_1, y172, y173, y160.set x89.2.1.toNat ([] : List (Int)), (y48.set x89.2.1.toNat (x217.1, x217.2.1, x53, x217.2.2.2.1, x217.2.2.2.2)).set x89.2.1.toNat (x221.1, x221.2.1, x221.2.2.1, x221.2.2.2.1, x219), y49.set x89.2.1.toNat 0, y50, y193, y194, 0))
  (Option.bind (idx y49 x89.2.1) fun x224 =>
  Option.bind (idx y48 x89.2.1) fun x226 =>
  cond (x226.2.2.2.1)
  (Option.bind (idx y173 x89.2.1) fun x229 =>
  Option.bind (whileM (F34_L1 x89) (w64 (x229 + 1))) fun o234 => Ctl.on o234 (fun x233 =>
  Option.bind (idx y173 x89.2.1) fun x238 =>
  Option.bind (idx y48 x89.2.1) fun x240 =>
  Option.bind (idx y172 x89.2.1) fun x242 =>
  some (y43, y172.set x89.2.1.toNat x240.2.2.2.2, y173.set x89.2.1.toNat x233, y160.set x89.2.1.toNat ([] : List (Int)), y48, y49.set x89.2.1.toNat 2, y50, y193, y194, 0)) (fun _ => none))
  (some (y43, y172, y173, y160.set x89.2.1.toNat ([] : List (Int)), y48, y49.set x89.2.1.toNat 2, y50, y193, y194, 0))))
  (some (y43, y172, y173, y160, y48, y49, y50, y193, y194, 0))))))))))
  fun (y93, y95, y96, y97, y99, y100, y101, y102, y103, x104) =>
  Option.bind (appl 8 y40 ([x104] : List Int)) fun (y246 : List Int) =>
  some (.nxt (y246, y93, y95, y96, y97, y99, y100, y101, y102, y103, w64 (x53 + 1))))
  (some (.brk (y40, y43, y44, y45, y46, y48, y49, y50, y51, y52)))
/-- the model of beaconry/beaconryref.Copies -/
noncomputable def F34 (a0 : Int) (a1 : List (Int × Int × Int × Int)) : Option (((List Int) × (List (Int × Int × Int × Bool × Int)) × (List Int) × List Int)) :=
  Option.bind (α := (List Int) × (List Int)) (Option.bind (mkl a0 8 0) fun (yq6_1_1 : List Int) =>
  Option.bind (mkl a0 8 0) fun (yq6_3_1 : List Int) =>
  some (yq6_1_1, yq6_3_1))
  fun (y9, y12) =>
  Option.bind (mkl a0 1 false) fun (y14 : List Bool) =>
  Option.bind (mkl 6 8 0) fun (y18 : List Int) =>
  Option.bind (mkl 6 40 (0, 0, 0, false, 0)) fun (y22 : List (Int × Int × Int × Bool × Int)) =>
  Option.bind (mkl 6 24 ([] : List Int)) fun (y26 : List (List Int)) =>
  Option.bind (mkl 6 8 0) fun (y30 : List Int) =>
  Option.bind (mkl 6 8 0) fun (y34 : List Int) =>
  Option.bind (whileM (F34_L0 a0 a1) ([], [], y34, y30, y26, y22, y18, y14, y9, y12, 0)) fun o85 => Ctl.on o85 (fun (y72, y75, y76, y77, y78, y80, y81, y82, y83, y84) =>
  some (y72, y75, y83, y84)) (fun _ => none)
end Go.Proofs.Ythfkdepcnhhepaa
