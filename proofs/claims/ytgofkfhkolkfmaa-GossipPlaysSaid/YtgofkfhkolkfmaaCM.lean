/-
  Pure models of Go functions, written by a program (gen.py).
-/
import Derived.Test.YtgofkfhkolkfmaaBk35
import Derived.Test.YtgofkfhkolkfmaaBk45
import Derived.Test.YtgofkfhkolkfmaaBk46
import Derived.Test.YtgofkfhkolkfmaaAM
import Derived.Test.YtgofkfhkolkfmaaBM
namespace Go.Proofs.Ytgofkfhkolkfmaa
open Go Go.Bk
set_option linter.unusedVariables false

/-- the model of slices.Grow[[]beaconry/api.Known,beaconry/api.Known], of nil -/
noncomputable def F37 (a1 : Int) : Option (List (Int × Nat)) := growm 32 a1

noncomputable def F25_L1 (a0 : List (List (Int × Nat))) : ((List (Int × Nat)) × Int) → Option (Ctl ((List (Int × Nat)) × Int) ((List (Int × Nat))) (Unit)) := fun (y19, x21) =>
  cond ((decide (x21 < (a0.length : Int))))
  (Option.bind (idx a0 x21) fun (x31 : List (Int × Nat)) =>
  Option.bind (appl 32 y19 x31) fun (y34 : List (Int × Nat)) =>
  some (.nxt (y34, w64 (x21 + 1))))
  (some (.brk y19))
noncomputable def F25_L0 (a0 : List (List (Int × Nat))) : (Int × Int) → Option (Ctl (Int × Int) (Int) (Unit)) := fun (x2, x3) =>
  cond ((decide (x3 < (a0.length : Int))))
  (Option.bind (idx a0 x3) fun (x11 : List (Int × Nat)) =>
  cond ((decide ((w64 (x2 + (x11.length : Int))) < 0)))
  (none)
  (some (.nxt (w64 (x2 + (x11.length : Int)), w64 (x3 + 1)))))
  (some (.brk x2))
/-- the model of slices.Concat[[]beaconry/api.Known,beaconry/api.Known] -/
noncomputable def F25 (a0 : List (List (Int × Nat))) : Option ((List (Int × Nat))) :=
  Option.bind (whileM (F25_L0 a0) (0, 0)) fun o7 => Ctl.on o7 (fun x6 =>
  Option.bind (F37 x6) fun r15 =>
  Option.bind (whileM (F25_L1 a0) (r15, 0)) fun o27 => Ctl.on o27 (fun y25 =>
  some y25) (fun _ => none)) (fun _ => none)

noncomputable def F20_L1 (zp : List (List Int)) (r11 : List (Int × Nat)) (x18 : Int) (x33 : Int × Nat) : (Bool × Int) → Option (Ctl (Bool × Int) (Bool) (Unit)) := fun (b36, x37) =>
  cond ((decide (x37 < (r11.length : Int))))
  (Option.bind (idx r11 x37) fun x45 =>
  Option.bind (zget zp x33.2) fun (l48 : List Int) =>
  Option.bind (zget zp x45.2) fun (l50 : List Int) =>
  Option.bind (F26 l48 l50) fun r52 =>
  Option.bind (cond (r52) (Option.bind (zget zp x45.2) fun (l57 : List Int) =>
  Option.bind (zget zp x33.2) fun (l59 : List Int) =>
  Option.bind (F26 l57 l59) fun r61 =>
  some r61) (some false)) fun b55 =>
  some (.nxt (((b36 || (r52 && (!b55))) || (b55 && (decide (x37 < x18)))), w64 (x37 + 1))))
  (some (.brk b36))
noncomputable def F20_L0 (zp : List (List Int)) (r11 : List (Int × Nat)) : ((List (Int × Nat)) × Int) → Option (Ctl ((List (Int × Nat)) × Int) ((List (Int × Nat))) (Unit)) := fun (y17, x18) =>
  cond ((decide (x18 < (r11.length : Int))))
  (Option.bind (α := (List (Int × Nat))) (Option.bind (idx r11 x18) fun x33 =>
  Option.bind (whileM (F20_L1 zp r11 x18 x33) (false, 0)) fun o41 => Ctl.on o41 (fun b40 =>
  cond ((!b40))
  (Option.bind (appl 32 y17 ([(x33.1, x33.2)] : List (Int × Nat))) fun (y70 : List (Int × Nat)) =>
  some y70)
  (some y17)) (fun _ => none))
  fun y30 =>
  some (.nxt (y30, w64 (x18 + 1))))
  (some (.brk y17))
/-- the model of (*beaconry/gossip.place).tell -/
noncomputable def F20 (a0 : List (List (Int × Nat))) (a1 : Int) (a2 : Int) (zp : List (List Int)) : Option ((List (List (Int × Nat)))) :=
  Option.bind (idx a0 a2) fun (x3 : List (Int × Nat)) =>
  Option.bind (idx a0 a1) fun (x6 : List (Int × Nat)) =>
  Option.bind (F25 ([x3, x6] : List (List (Int × Nat)))) fun r11 =>
  Option.bind (whileM (F20_L0 zp r11) ([], 0)) fun o26 => Ctl.on o26 (fun y25 =>
  Option.bind (idx a0 a2) fun (x73 : List (Int × Nat)) =>
  some (a0.set a2.toNat y25)) (fun _ => none)

/-- the model of (*beaconry/gossip.place).do -/
noncomputable def F9 (a0 : (List (List (Int × Nat))) × List Int) (a1 : Int × Int × Int × Int) (zp : List (List Int)) : Option (Int × ((List (List (Int × Nat))) × List Int) × (List (List Int))) :=
  cond (((a1.1 != 1) && (a1.1 != 2)))
  (some (6, (a0.1, a0.2), zp))
  (Option.bind (F19 a1.2.1 (a0.1.length)) fun r9 =>
  Option.bind (cond (r9) (some true) (Option.bind (cond ((a1.1 == 2)) (Option.bind (F19 a1.2.2.1 (a0.1.length)) fun r17 =>
  some r17) (some false)) fun b15 =>
  some b15)) fun b12 =>
  cond (b12)
  (some (2, (a0.1, a0.2), zp))
  (cond ((a1.1 == 2))
  (Option.bind (F20 a0.1 a1.2.1 a1.2.2.1 zp) fun r21 =>
  some (0, (r21, a0.2), zp))
  (cond (((decide (a1.2.2.2 < 0)) || (decide (a1.2.2.2 > 100))))
  (some (4, (a0.1, a0.2), zp))
  (Option.bind (F21 (a0.1, a0.2) a1.2.1 a1.2.2.2 zp) fun (r27, r28) =>
  some (0, (r27.1, r27.2), r28)))))
end Go.Proofs.Ytgofkfhkolkfmaa
