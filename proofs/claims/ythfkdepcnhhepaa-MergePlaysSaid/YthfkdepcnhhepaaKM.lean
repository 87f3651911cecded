/-
  Pure models of Go functions, written by a program (gen.py).
-/
import Derived.Test.YthfkdepcnhhepaaBk35
namespace Go.Proofs.Ythfkdepcnhhepaa
open Go Go.Bk
set_option linter.unusedVariables false
@[reducible] def cTiii (x : Int × Int × Int) : List Value := [I x.1, I x.2.1, I x.2.2]
@[reducible] def cTiiii (x : Int × Int × Int × Int) : List Value := [I x.1, I x.2.1, I x.2.2.1, I x.2.2.2]
noncomputable def F61_L0 (a0 : List (Int × Int × Int)) (a1 : Int) (a2 : Int) : Int → Option (Ctl (Int) (Unit) (Int)) := fun x1 =>
  cond ((decide (x1 < (a0.length : Int))))
  (Option.bind (idx a0 x1) fun x7 =>
  cond (((x7.1 == a1) && (x7.2.1 == a2)))
  (some (.ret x1))
  (some (.nxt (w64 (x1 + 1)))))
  (some (.brk ()))
/-- the model of beaconry/beaconryref.First -/
noncomputable def F61 (a0 : List (Int × Int × Int)) (a1 : Int) (a2 : Int) : Option (Int) :=
  Option.bind (whileM (F61_L0 a0 a1 a2) 0) fun o3 => Ctl.on o3 (fun _ =>
  some (-1)) (fun r => some r)

/-- the model of beaconry/beaconryref.Without -/
noncomputable def F62 (a0 : List (Int × Int × Int)) (a1 : Int) : Option ((List (Int × Int × Int))) :=
  Option.bind (slI a0 0 a1) fun yq2_3_1 =>
  Option.bind (slI a0 (w64 (a1 + 1)) (a0.length : Int)) fun yq2_8_1 =>
  Option.bind (appl 24 ([] : List (Int × Int × Int)) yq2_3_1) fun (yq2_4_1 : List (Int × Int × Int)) =>
  Option.bind (appl 24 yq2_4_1 yq2_8_1) fun (yq2_9_1 : List (Int × Int × Int)) =>
  some yq2_9_1

/-- the model of beaconry/beaconryref.ends -/
noncomputable def F57 (a0 : Int) (a1 : Int × Int × Int × Int) (a2 : Bool) : Option (Bool) :=
  cond (((decide (a1.2.1 < 0)) || (decide (a1.2.1 ≥ a0))))
  (some false)
  (some ((!a2) || (((decide (a1.2.2.1 ≥ 0)) && (decide (a1.2.2.1 < a0))) && (a1.2.2.1 != a1.2.1))))

noncomputable def F18_L0 (a0 : List Int) (a1 : List Int) : Int → Option (Ctl (Int) (Unit) (Bool)) := fun x2 =>
  cond ((decide (x2 < (a0.length : Int))))
  (Option.bind (idx a0 x2) fun x8 =>
  Option.bind (idx a1 x2) fun x10 =>
  cond ((x8 != x10))
  (some (.ret false))
  (some (.nxt (w64 (x2 + 1)))))
  (some (.brk ()))
/-- the model of beaconry/beaconryref.Codes -/
noncomputable def F18 (a0 : List Int) (a1 : List Int) : Option (Bool) :=
  cond (((a0.length : Int) != (a1.length : Int)))
  (some false)
  (Option.bind (whileM (F18_L0 a0 a1) 0) fun o4 => Ctl.on o4 (fun _ =>
  some true) (fun r => some r))

/-- the model of beaconry/beaconryref.PlayCheck -/
noncomputable def F21 (a0 : Int) (a1 : Int) : Option (Int) :=
  cond ((((decide (a0 < 1)) || (decide (a0 > 6))) || (decide (a1 > 60))))
  (some 1)
  (some 0)

noncomputable def F66_L0 (a0 : List Int) (a1 : Int) : Int → Option (Ctl (Int) (Unit) (Bool)) := fun x1 =>
  cond ((decide (x1 < (a0.length : Int))))
  (Option.bind (idx a0 x1) fun x7 =>
  cond ((a1 == x7))
  (some (.ret true))
  (some (.nxt (w64 (x1 + 1)))))
  (some (.brk ()))
/-- the model of beaconry/beaconryref.Has -/
noncomputable def F66 (a0 : List Int) (a1 : Int) : Option (Bool) :=
  Option.bind (whileM (F66_L0 a0 a1) 0) fun o3 => Ctl.on o3 (fun _ =>
  some false) (fun r => some r)

noncomputable def F25_L0 (a0 : List Int) (a1 : List Int) : Int → Option (Ctl (Int) (Unit) (Bool)) := fun x2 =>
  cond ((decide (x2 < (a0.length : Int))))
  (Option.bind (idx a0 x2) fun x8 =>
  Option.bind (idx a1 x2) fun x10 =>
  cond ((x8 != x10))
  (some (.ret false))
  (some (.nxt (w64 (x2 + 1)))))
  (some (.brk ()))
/-- the model of beaconry/beaconryref.Ints -/
noncomputable def F25 (a0 : List Int) (a1 : List Int) : Option (Bool) :=
  cond (((a0.length : Int) != (a1.length : Int)))
  (some false)
  (Option.bind (whileM (F25_L0 a0 a1) 0) fun o4 => Ctl.on o4 (fun _ =>
  some true) (fun r => some r))

noncomputable def F28_L0 (a0 : List (List Int)) (a1 : List (List Int)) : Int → Option (Ctl (Int) (Unit) (Bool)) := fun x2 =>
  cond ((decide (x2 < (a0.length : Int))))
  (Option.bind (idx a0 x2) fun (x8 : List Int) =>
  Option.bind (idx a1 x2) fun (x11 : List Int) =>
  Option.bind (F25 x8 x11) fun r14 =>
  cond ((!r14))
  (some (.ret false))
  (some (.nxt (w64 (x2 + 1)))))
  (some (.brk ()))
/-- the model of beaconry/beaconryref.Lists -/
noncomputable def F28 (a0 : List (List Int)) (a1 : List (List Int)) : Option (Bool) :=
  cond (((a0.length : Int) != (a1.length : Int)))
  (some false)
  (Option.bind (whileM (F28_L0 a0 a1) 0) fun o4 => Ctl.on o4 (fun _ =>
  some true) (fun r => some r))
end Go.Proofs.Ythfkdepcnhhepaa
