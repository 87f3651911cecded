/-
  Pure models of Go functions, written by a program (gen.py).
-/
import Derived.Test.YthfkdepcnhhepaaBk30
import Derived.Test.YthfkdepcnhhepaaQM
import Derived.Test.YthfkdepcnhhepaaRM
namespace Go.Proofs.Ythfkdepcnhhepaa
open Go Go.Bk
set_option linter.unusedVariables false

/-- the model of beaconry/beaconryref.PlayCheck -/
noncomputable def F21 (a0 : Int) (a1 : Int) : Option (Int) :=
  cond ((((decide (a0 < 1)) || (decide (a0 > 6))) || (decide (a1 > 60))))
  (some 1)
  (some 0)

noncomputable def F18_L0 (a0 : List Int) (a1 : List Int) : Int → Option (Ctl (Int) (Unit) (Bool)) := fun x2 =>
  cond ((decide (x2 < (a0.length : Int))))
  (Option.bind (idx a0 x2) fun x8 =>
  Option.bind (idx a1 x2) fun x10 =>
  cond ((x8 != x10))
  (some (.ret false))
  (some (.nxt (w64 (x2 + 1)))))
  (some (.brk ()))
/-- the model of beaconry/beaconryref.Codes -/
noncomputable def F18 (a0 : List Int) (a1 : List Int) : Option (Bool) :=
  cond (((a0.length : Int) != (a1.length : Int)))
  (some false)
  (Option.bind (whileM (F18_L0 a0 a1) 0) fun o4 => Ctl.on o4 (fun _ =>
  some true) (fun r => some r))

noncomputable def F25_L0 (a0 : List Int) (a1 : List Int) : Int → Option (Ctl (Int) (Unit) (Bool)) := fun x2 =>
  cond ((decide (x2 < (a0.length : Int))))
  (Option.bind (idx a0 x2) fun x8 =>
  Option.bind (idx a1 x2) fun x10 =>
  cond ((x8 != x10))
  (some (.ret false))
  (some (.nxt (w64 (x2 + 1)))))
  (some (.brk ()))
/-- the model of beaconry/beaconryref.Ints -/
noncomputable def F25 (a0 : List Int) (a1 : List Int) : Option (Bool) :=
  cond (((a0.length : Int) != (a1.length : Int)))
  (some false)
  (Option.bind (whileM (F25_L0 a0 a1) 0) fun o4 => Ctl.on o4 (fun _ =>
  some true) (fun r => some r))

noncomputable def F43_L0 (a0 : List (Int × Int)) (a1 : List (Int × Int)) : Int → Option (Ctl (Int) (Unit) (Bool)) := fun x2 =>
  cond ((decide (x2 < (a0.length : Int))))
  (Option.bind (idx a0 x2) fun x8 =>
  Option.bind (idx a1 x2) fun x10 =>
  cond ((!(x8.1 == x10.1 && x8.2 == x10.2)))
  (some (.ret false))
  (some (.nxt (w64 (x2 + 1)))))
  (some (.brk ()))
/-- the model of beaconry/beaconryref.Twos -/
noncomputable def F43 (a0 : List (Int × Int)) (a1 : List (Int × Int)) : Option (Bool) :=
  cond (((a0.length : Int) != (a1.length : Int)))
  (some false)
  (Option.bind (whileM (F43_L0 a0 a1) 0) fun o4 => Ctl.on o4 (fun _ =>
  some true) (fun r => some r))

/-- the model of beaconry/beaconrylaw.ElectPlays -/
noncomputable def F12 (a0 : Int) (a1 : List (Int × Int × Int × Int)) : Option (Bool) :=
  Option.bind (F41 a0 a1) fun (r1, r2) =>
  Option.bind (F21 a0 (a1.length : Int)) fun r20 =>
  Option.bind (α := (List Int) × (List Int) × (List Int) × (List Int) × (List (Int × Int))) (cond ((r20 == 0))
  (Option.bind (F42 a0 a1) fun r40 =>
  some (r40.1, r40.2.1, r40.2.2.1, r40.2.2.2.1, r40.2.2.2.2))
  (some ([], [], [], [], [])))
  fun (y25, y28, y31, y34, y37) =>
  Option.bind (cond ((r2 == r20)) (Option.bind (F18 r1.1 y25) fun r60 =>
  some r60) (some false)) fun b58 =>
  Option.bind (cond (b58) (Option.bind (F25 r1.2.1 y28) fun r65 =>
  some r65) (some false)) fun b63 =>
  Option.bind (cond (b63) (Option.bind (F25 r1.2.2.1 y31) fun r70 =>
  some r70) (some false)) fun b68 =>
  Option.bind (cond (b68) (Option.bind (F25 r1.2.2.2.1 y34) fun r75 =>
  some r75) (some false)) fun b73 =>
  Option.bind (cond (b73) (Option.bind (F43 r1.2.2.2.2 y37) fun r80 =>
  some r80) (some false)) fun b78 =>
  some b78
end Go.Proofs.Ythfkdepcnhhepaa
