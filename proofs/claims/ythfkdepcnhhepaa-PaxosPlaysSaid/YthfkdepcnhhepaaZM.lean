/-
  Pure models of Go functions, written by a program (gen.py).
-/
import Derived.Test.YthfkdepcnhhepaaBk26
import Derived.Test.YthfkdepcnhhepaaXM
import Derived.Test.YthfkdepcnhhepaaYM
namespace Go.Proofs.Ythfkdepcnhhepaa
open Go Go.Bk
set_option linter.unusedVariables false

/-- the model of beaconry/beaconryref.PlayCheck -/
noncomputable def F21 (a0 : Int) (a1 : Int) : Option (Int) :=
  cond ((((decide (a0 < 1)) || (decide (a0 > 6))) || (decide (a1 > 60))))
  (some 1)
  (some 0)

noncomputable def F18_L0 (a0 : List Int) (a1 : List Int) : Int → Option (Ctl (Int) (Unit) (Bool)) := fun x2 =>
  cond ((decide (x2 < (a0.length : Int))))
  (Option.bind (idx a0 x2) fun x8 =>
  Option.bind (idx a1 x2) fun x10 =>
  cond ((x8 != x10))
  (some (.ret false))
  (some (.nxt (w64 (x2 + 1)))))
  (some (.brk ()))
/-- the model of beaconry/beaconryref.Codes -/
noncomputable def F18 (a0 : List Int) (a1 : List Int) : Option (Bool) :=
  cond (((a0.length : Int) != (a1.length : Int)))
  (some false)
  (Option.bind (whileM (F18_L0 a0 a1) 0) fun o4 => Ctl.on o4 (fun _ =>
  some true) (fun r => some r))

noncomputable def F25_L0 (a0 : List Int) (a1 : List Int) : Int → Option (Ctl (Int) (Unit) (Bool)) := fun x2 =>
  cond ((decide (x2 < (a0.length : Int))))
  (Option.bind (idx a0 x2) fun x8 =>
  Option.bind (idx a1 x2) fun x10 =>
  cond ((x8 != x10))
  (some (.ret false))
  (some (.nxt (w64 (x2 + 1)))))
  (some (.brk ()))
/-- the model of beaconry/beaconryref.Ints -/
noncomputable def F25 (a0 : List Int) (a1 : List Int) : Option (Bool) :=
  cond (((a0.length : Int) != (a1.length : Int)))
  (some false)
  (Option.bind (whileM (F25_L0 a0 a1) 0) fun o4 => Ctl.on o4 (fun _ =>
  some true) (fun r => some r))

/-- the model of beaconry/beaconrylaw.PaxosPlays -/
noncomputable def F5 (a0 : Int) (a1 : List (Int × Int × Int × Int)) : Option (Bool) :=
  Option.bind (F23 a0 a1) fun (r1, r2) =>
  Option.bind (F21 a0 (a1.length : Int)) fun r17 =>
  Option.bind (α := (List Int) × (List Int) × (List Int) × (List Int) × Int) (cond ((r17 == 0))
  (Option.bind (F24 a0 a1) fun r35 =>
  some (r35.1, r35.2.2.1, r35.2.2.2.1, r35.2.2.2.2, r35.2.1))
  (some ([], [], [], [], 0)))
  fun (y22, y25, y28, y31, x32) =>
  Option.bind (cond ((r2 == r17)) (Option.bind (F18 r1.1 y22) fun r52 =>
  some r52) (some false)) fun b50 =>
  Option.bind (cond ((b50 && (r1.2.1 == x32))) (Option.bind (F25 r1.2.2.1 y25) fun r58 =>
  some r58) (some false)) fun b56 =>
  Option.bind (cond (b56) (Option.bind (F25 r1.2.2.2.1 y28) fun r63 =>
  some r63) (some false)) fun b61 =>
  Option.bind (cond (b61) (Option.bind (F25 r1.2.2.2.2 y31) fun r68 =>
  some r68) (some false)) fun b66 =>
  some b66
end Go.Proofs.Ythfkdepcnhhepaa
