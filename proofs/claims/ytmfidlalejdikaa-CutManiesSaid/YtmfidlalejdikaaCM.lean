/-
  Pure models of Go functions, written by a program (gen.py).
-/
import Derived.Test.YtmfidlalejdikaaBk25
import Derived.Test.YtmfidlalejdikaaAM
namespace Go.Proofs.Ytmfidlalejdikaa
open Go Go.Bk
set_option linter.unusedVariables false

noncomputable def F30_L2 (r4 : List (BitVec 32)) (k27 : BitVec 32) : (((BitVec 32) → Option Bool) × Int) → Option (Ctl (((BitVec 32) → Option Bool) × Int) (((BitVec 32) → Option Bool)) (Unit)) := fun (y37, x38) =>
  cond ((decide (x38 < (r4.length : Int))))
  (Option.bind (α := ((BitVec 32) → Option Bool)) (Option.bind (idx r4 x38) fun x48 =>
  Option.bind (shc x38) fun k50 =>
  cond (((((k27 >>> k50) &&& (1#32)) == (0#32)) && ((x48 &&& ~~~k27) == (0#32))))
  (Option.bind (shc x38) fun k54 =>
  some (mupd y37 (k27 ||| ((1#32) <<< k54)) true))
  (some y37))
  fun y46 =>
  some (.nxt (y46, w64 (x38 + 1))))
  (some (.brk y37))
noncomputable def F30_L1 (r4 : List (BitVec 32)) : (BitVec 32) → Bool → ((BitVec 32) → Option Bool) → Option (Ctl (((BitVec 32) → Option Bool)) Unit (Unit)) := fun k27 v28 y29 =>
  Option.bind (whileM (F30_L2 r4 k27) (y29, 0)) fun o42 => Ctl.on o42 (fun y41 =>
  some (.nxt y41)) (fun _ => none)
noncomputable def F30_L0 (r4 : List (BitVec 32)) : (((BitVec 32) → Option Bool) × Int) → Option (Ctl (((BitVec 32) → Option Bool) × Int) (Int) (Unit)) := fun (y12, x13) =>
  cond ((decide ((mlen y12 : Int) > 0)))
  (Option.bind (rangeM y12 (F30_L1 r4) (mzero : (BitVec 32) → Option Bool)) fun o31 => Ctl.onN o31 (fun y29 =>
  some (.nxt (y29, w64 (x13 + (mlen y12 : Int))))) (fun _ => none))
  (some (.brk x13))
/-- the model of beaconry/cut.Many -/
noncomputable def F30 (a0 : Int) (a1 : List (Int × Int × Int)) : Option (Int × Int) :=
  Option.bind (F15 a0 a1) fun r1 =>
  cond ((r1 != 0))
  (some (0, r1))
  (Option.bind (F40 a0 a1) fun r4 =>
  Option.bind (whileM (F30_L0 r4) (mupd (mzero : (BitVec 32) → Option Bool) (0#32) true, 0)) fun o19 => Ctl.on o19 (fun x18 =>
  some (x18, 0)) (fun _ => none))

noncomputable def F31_L1 (a1 : List (Int × Int × Int)) (a2 : List Int) : (Int × Int) → Option (Ctl (Int × Int) (Int) (Unit)) := fun (x20, x21) =>
  cond ((decide (x21 < (a1.length : Int))))
  (Option.bind (α := Int) (Option.bind (idx a1 x21) fun x31 =>
  cond ((x31.1 == (a2.length : Int)))
  (some (w64 (x20 + 1)))
  (some x20))
  fun x29 =>
  some (.nxt (x29, w64 (x21 + 1))))
  (some (.brk x20))
noncomputable def F31_L0 (rec31 : Int → (List (Int × Int × Int)) → (List Int) → Option (Int)) (a0 : Int) (a1 : List (Int × Int × Int)) (a2 : List Int) : (Int × Int) → Option (Ctl (Int × Int) (Unit) (Int)) := fun (x13, x14) =>
  Option.bind (whileM (F31_L1 a1 a2) (0, 0)) fun o25 => Ctl.on o25 (fun x24 =>
  cond ((decide (x14 > x24)))
  (some (.ret x13))
  (Option.bind (appl 8 ([] : List Int) a2) fun (y38 : List Int) =>
  Option.bind (appl 8 y38 ([x14] : List Int)) fun (y43 : List Int) =>
  Option.bind (rec31 a0 a1 y43) fun r46 =>
  some (.nxt (w64 (x13 + r46), w64 (x14 + 1))))) (fun _ => none)
/-- the model of beaconry/beaconryref.Cuts -/
noncomputable def F31_B (rec31 : Int → (List (Int × Int × Int)) → (List Int) → Option (Int)) (a0 : Int) (a1 : List (Int × Int × Int)) (a2 : List Int) : Option (Int) :=
  cond (((a2.length : Int) == a0))
  (Option.bind (F35 a0 a1 a2) fun (r2, r3) =>
  Option.bind (cond (r3) (Option.bind (F36 a1 r2) fun r10 =>
  some r10) (some false)) fun b8 =>
  cond (b8)
  (some 1)
  (some 0))
  (Option.bind (whileM (F31_L0 rec31 a0 a1 a2) (0, 0)) fun o17 => Ctl.on o17 (fun _ =>
  none) (fun r => some r))
noncomputable def F31_R : Nat → Int → (List (Int × Int × Int)) → (List Int) → Option (Int)
  | 0 => fun _ _ _ => none
  | n + 1 => fun a0 a1 a2 => F31_B (F31_R n) a0 a1 a2
noncomputable def F31 (a0 : Int) (a1 : List (Int × Int × Int)) (a2 : List Int) : Option (Int) := fixO (fun n => F31_R n a0 a1 a2)

/-- the model of beaconry/beaconrylaw.CutManies -/
noncomputable def F10 (a0 : Int) (a1 : List (Int × Int × Int)) : Option (Bool) :=
  Option.bind (F30 a0 a1) fun (r1, r2) =>
  Option.bind (F16 a0 a1) fun r4 =>
  cond ((r4 != 0))
  (some ((r2 == r4) && (r1 == 0)))
  (Option.bind (cond ((r2 == 0)) (Option.bind (F31 a0 a1 []) fun r11 =>
  some (r1 == r11)) (some false)) fun b9 =>
  some b9)
end Go.Proofs.Ytmfidlalejdikaa
