/-
  Pure models of Go functions, written by a program (gen.py).
-/
import Derived.Test.YthfkdepcnhhepaaBk35
import Derived.Test.YthfkdepcnhhepaaKM
import Derived.Test.YthfkdepcnhhepaaGM
namespace Go.Proofs.Ythfkdepcnhhepaa
open Go Go.Bk
set_option linter.unusedVariables false

noncomputable def F71_L1 (a4 : List (List Int)) (x23 : Int) (x33 : List Int) : (Bool × Int) → Option (Ctl (Bool × Int) (Bool) (Unit)) := fun (b36, x37) =>
  cond ((decide (x37 < (x33.length : Int))))
  (Option.bind (idx x33 x37) fun x45 =>
  Option.bind (cond (b36) (Option.bind (idx a4 x45) fun (x50 : List Int) =>
  Option.bind (F66 x50 x23) fun r53 =>
  some (!r53)) (some false)) fun b48 =>
  some (.nxt (b48, w64 (x37 + 1))))
  (some (.brk b36))
noncomputable def F71_L0 (a0 : Int) (a1 : Int) (a2 : List (List Int)) (a3 : List (Int × Int × Int × Int)) (a4 : List (List Int)) (x2 : List Int) : ((List Int) × Int) → Option (Ctl ((List Int) × Int) ((List Int)) (Unit)) := fun (y7, x8) =>
  cond ((decide (x8 < (x2.length : Int))))
  (Option.bind (α := (List Int)) (Option.bind (idx x2 x8) fun x23 =>
  Option.bind (idx a3 x23) fun x25 =>
  Option.bind (cond ((x25.1 != 1)) (some true) (Option.bind (idx a3 x23) fun x30 =>
  some (x30.2.2.2 != a1))) fun b28 =>
  cond (b28)
  (some y7)
  (Option.bind (idx a2 a0) fun (x33 : List Int) =>
  Option.bind (whileM (F71_L1 a4 x23 x33) (true, 0)) fun o41 => Ctl.on o41 (fun b40 =>
  cond (b40)
  (Option.bind (appl 8 y7 ([x23] : List Int)) fun (y58 : List Int) =>
  some y58)
  (some y7)) (fun _ => none)))
  fun y20 =>
  some (.nxt (y20, w64 (x8 + 1))))
  (some (.brk y7))
/-- the model of beaconry/beaconryref.Merge$1 -/
noncomputable def F71 (a0 : Int) (a1 : Int) (a2 : List (List Int)) (a3 : List (Int × Int × Int × Int)) (a4 : List (List Int)) : Option ((List Int)) :=
  Option.bind (idx a2 a0) fun (x2 : List Int) =>
  Option.bind (whileM (F71_L0 a0 a1 a2 a3 a4 x2) ([], 0)) fun o16 => Ctl.on o16 (fun y15 =>
  some y15) (fun _ => none)

noncomputable def F37_L1 (x48 : Int × Int × Int × Int) (y85 : List Int) : ((List (List Int)) × Int) → Option (Ctl ((List (List Int)) × Int) ((List (List Int))) (Unit)) := fun (y88, x90) =>
  cond ((decide (x90 < (y85.length : Int))))
  (Option.bind (α := (List (List Int))) (Option.bind (idx y85 x90) fun x103 =>
  Option.bind (idx y88 x48.2.1) fun (x105 : List Int) =>
  Option.bind (F66 x105 x103) fun r108 =>
  cond ((!r108))
  (Option.bind (α := (List (List Int))) (Option.bind (idx y88 x48.2.1) fun (xq111_6_1 : List Int) =>
  Option.bind (appl 8 xq111_6_1 ([x103] : List Int)) fun (yq111_10_2 : List Int) =>
  Option.bind (idx y88 x48.2.1) fun (xq111_11_1 : List Int) =>
  some (y88.set x48.2.1.toNat yq111_10_2))
  fun y112 =>
  some y112)
  (some y88))
  fun y100 =>
  some (.nxt (y100, w64 (x90 + 1))))
  (some (.brk y88))
noncomputable def F37_L4 (a1 : List (Int × Int × Int × Int)) (x185 : List Int) : (Int × Int) → Option (Ctl (Int × Int) (Int) (Unit)) := fun (x188, x189) =>
  cond ((decide (x189 < (x185.length : Int))))
  (Option.bind (α := Int) (Option.bind (idx x185 x189) fun x199 =>
  Option.bind (idx a1 x199) fun x201 =>
  cond ((x201.1 == 3))
  (Option.bind (idx a1 x199) fun x204 =>
  some (w64 (x188 + x204.2.2.2)))
  (some x188))
  fun x197 =>
  some (.nxt (x197, w64 (x189 + 1))))
  (some (.brk x188))
noncomputable def F37_L3 (a1 : List (Int × Int × Int × Int)) (y40 : List (List Int)) (y42 : List (List Int)) (x137 : Int) : ((List Int) × Int) → Option (Ctl ((List Int) × Int) ((List Int)) (Unit)) := fun (y159, x160) =>
  cond ((decide (x160 ≤ 8)))
  (Option.bind (α := (List Int)) (Option.bind (F71 x137 x160 y42 a1 y40) fun r175 =>
  cond ((decide ((r175.length : Int) > 0)))
  (Option.bind (appl 8 y159 ([x160] : List Int)) fun (y182 : List Int) =>
  some y182)
  (some y159))
  fun y172 =>
  some (.nxt (y172, w64 (x160 + 1))))
  (some (.brk y159))
noncomputable def F37_L2 (a0 : Int) (a1 : List (Int × Int × Int × Int)) (y40 : List (List Int)) (y42 : List (List Int)) : ((List (List Int)) × (List Int) × Int) → Option (Ctl ((List (List Int)) × (List Int) × Int) ((List (List Int)) × (List Int)) (Unit)) := fun (y133, y136, x137) =>
  cond ((decide (x137 < a0)))
  (Option.bind (whileM (F37_L3 a1 y40 y42 x137) ([], 0)) fun o168 => Ctl.on o168 (fun y167 =>
  Option.bind (idx y42 x137) fun (x185 : List Int) =>
  Option.bind (whileM (F37_L4 a1 x185) (0, 0)) fun o193 => Ctl.on o193 (fun x192 =>
  Option.bind (appl 24 y133 [y167]) fun (y209 : List (List Int)) =>
  Option.bind (appl 8 y136 ([x192] : List Int)) fun (y216 : List Int) =>
  some (.nxt (y209, y216, w64 (x137 + 1)))) (fun _ => none)) (fun _ => none))
  (some (.brk (y133, y136)))
noncomputable def F37_L0 (a0 : Int) (a1 : List (Int × Int × Int × Int)) : ((List Int) × (List (List Int)) × (List (List Int)) × Int) → Option (Ctl ((List Int) × (List (List Int)) × (List (List Int)) × Int) ((List Int) × (List (List Int)) × (List (List Int))) (Unit)) := fun (y23, y24, y26, x28) =>
  cond ((decide (x28 < (a1.length : Int))))
  (Option.bind (idx a1 x28) fun x48 =>
  Option.bind (α := (List (List Int)) × (List (List Int)) × Int) (cond (((decide (x48.1 < 1)) || (decide (x48.1 > 4))))
  (some (y24, y26, 6))
  (cond ((((decide (x48.2.1 < 0)) || (decide (x48.2.1 ≥ a0))) || ((x48.1 == 4) && ((decide (x48.2.2.1 < 0)) || (decide (x48.2.2.1 ≥ a0))))))
  (some (y24, y26, 2))
  (cond (((((x48.1 == 1) || (x48.1 == 2)) && ((decide (x48.2.2.2 < 0)) || (decide (x48.2.2.2 > 8)))) || (((x48.1 == 3) && (x48.2.2.2 != 1)) && (x48.2.2.2 != (-1)))))
  (some (y24, y26, 4))
  (Option.bind (cond ((x48.1 == 2)) (Option.bind (F71 x48.2.1 x48.2.2.2 y26 a1 y24) fun r74 =>
  some ((r74.length : Int) == 0)) (some false)) fun b72 =>
  cond (b72)
  (some (y24, y26, 5))
  (cond ((x48.1 == 4))
  (Option.bind (idx y26 x48.2.2.1) fun (x82 : List Int) =>
  Option.bind (appl 8 ([] : List Int) x82) fun (y85 : List Int) =>
  Option.bind (whileM (F37_L1 x48 y85) (y26, 0)) fun o96 => Ctl.on o96 (fun y94 =>
  some (y24, y94, 0)) (fun _ => none))
  (Option.bind (α := (List (List Int))) (cond ((x48.1 == 2))
  (Option.bind (F71 x48.2.1 x48.2.2.2 y26 a1 y24) fun rq119_7_1 =>
  Option.bind (idx y24 x28) fun (xq119_8_1 : List Int) =>
  some (y24.set x28.toNat rq119_7_1))
  (some y24))
  fun y115 =>
  Option.bind (α := (List (List Int))) (Option.bind (idx y26 x48.2.1) fun (xq120_6_1 : List Int) =>
  Option.bind (appl 8 xq120_6_1 ([x28] : List Int)) fun (yq120_10_2 : List Int) =>
  Option.bind (idx y26 x48.2.1) fun (xq120_11_1 : List Int) =>
  some (y26.set x48.2.1.toNat yq120_10_2))
  fun y121 =>
  some (y115, y121, 0)))))))
  fun (y52, y54, x56) =>
  Option.bind (appl 8 y23 ([x56] : List Int)) fun (y126 : List Int) =>
  some (.nxt (y126, y52, y54, w64 (x28 + 1))))
  (some (.brk (y23, y24, y26)))
/-- the model of beaconry/beaconryref.Merge -/
noncomputable def F37 (a0 : Int) (a1 : List (Int × Int × Int × Int)) : Option (((List Int) × (List (List Int)) × List Int)) :=
  Option.bind (mkl a0 24 ([] : List Int)) fun (y7 : List (List Int)) =>
  Option.bind (mkl (a1.length : Int) 24 ([] : List Int)) fun (y14 : List (List Int)) =>
  Option.bind (whileM (F37_L0 a0 a1) ([], y14, y7, 0)) fun o44 => Ctl.on o44 (fun (y39, y40, y42) =>
  Option.bind (whileM (F37_L2 a0 a1 y40 y42) ([], [], 0)) fun o153 => Ctl.on o153 (fun (y149, y152) =>
  some (y39, y149, y152)) (fun _ => none)) (fun _ => none)

/-- the model of beaconry/beaconrylaw.MergePlays -/
noncomputable def F10 (a0 : Int) (a1 : List (Int × Int × Int × Int)) : Option (Bool) :=
  Option.bind (F36 a0 a1) fun (r1, r2) =>
  Option.bind (F21 a0 (a1.length : Int)) fun r15 =>
  Option.bind (α := (List Int) × (List (List Int)) × (List Int)) (cond ((r15 == 0))
  (Option.bind (F37 a0 a1) fun r30 =>
  some (r30.1, r30.2.1, r30.2.2))
  (some ([], [], [])))
  fun (y20, y24, y27) =>
  Option.bind (cond ((r2 == r15)) (Option.bind (F18 r1.1 y20) fun r45 =>
  some r45) (some false)) fun b43 =>
  Option.bind (cond (b43) (Option.bind (F28 r1.2.1 y24) fun r50 =>
  some r50) (some false)) fun b48 =>
  Option.bind (cond (b48) (Option.bind (F25 r1.2.2 y27) fun r55 =>
  some r55) (some false)) fun b53 =>
  some b53
end Go.Proofs.Ythfkdepcnhhepaa
