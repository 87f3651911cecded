/-
  Pure models of Go functions, written by a program (gen.py).
-/
import Derived.Test.YtmfidlalejdikaaBk28
import Derived.Test.YtmfidlalejdikaaAM
namespace Go.Proofs.Ytmfidlalejdikaa
open Go Go.Bk
set_option linter.unusedVariables false

/-- the model of beaconry/cut.Way$1 -/
noncomputable def F52 (a0 : Int) (a1 : Int × Int × Int) : Option (Bool) :=
  some (a0 == a1.2.2)

noncomputable def F59_L0 (a0 : List Int) (a1 : Int → Option Bool) : Int → Option (Ctl (Int) (Unit) (Int)) := fun x1 =>
  cond ((decide (x1 < (a0.length : Int))))
  (Option.bind (idx a0 x1) fun x7 =>
  Option.bind (a1 x7) fun r9 =>
  cond (r9)
  (some (.ret x1))
  (some (.nxt (w64 (x1 + 1)))))
  (some (.brk ()))
/-- the model of slices.IndexFunc[[]int,int] -/
noncomputable def F59 (a0 : List Int) (a1 : Int → Option Bool) : Option (Int) :=
  Option.bind (whileM (F59_L0 a0 a1) 0) fun o3 => Ctl.on o3 (fun _ =>
  some (-1)) (fun r => some r)

noncomputable def F51_L0 (a1 : Int → Option Bool) : ((List Int) × Int × Int) → Option (Ctl ((List Int) × Int × Int) ((List Int) × Int) (Unit)) := fun (y6, x7, x8) =>
  cond ((decide (x8 < (y6.length : Int))))
  (Option.bind (α := (List Int) × Int) (Option.bind (idx y6 x8) fun x21 =>
  Option.bind (a1 x21) fun r23 =>
  cond ((!r23))
  (Option.bind (idx y6 x7) fun x26 =>
  some (y6.set x7.toNat x21, w64 (x7 + 1)))
  (some (y6, x7)))
  fun (y18, x19) =>
  some (.nxt (y18, x19, w64 (x8 + 1))))
  (some (.brk (y6, x7)))
/-- the model of slices.DeleteFunc[[]int,int] -/
noncomputable def F51 (a0 : List Int) (a1 : Int → Option Bool) : Option ((List Int)) :=
  Option.bind (F59 a0 a1) fun r3 =>
  cond ((r3 == (-1)))
  (some a0)
  (Option.bind (whileM (F51_L0 a1) (a0, r3, w64 (r3 + 1))) fun o14 => Ctl.on o14 (fun (y12, x13) =>
  Option.bind (slI y12 x13 (y12.length : Int)) fun y28 =>
  Option.bind (slI (y12.take x13.toNat ++ List.replicate (y12.length - x13.toNat) 0) 0 x13) fun y31 =>
  some y31) (fun _ => none))

noncomputable def F39_L0 (a1 : List (Int × Int × Int)) (r7 : BitVec 32) : ((List Int) × Int) → Option (Ctl ((List Int) × Int) ((List Int)) (Unit)) := fun (y12, x13) =>
  cond ((decide (x13 < (a1.length : Int))))
  (Option.bind (α := (List Int)) (Option.bind (idx a1 x13) fun x29 =>
  Option.bind (shc x13) fun k32 =>
  cond ((((r7 >>> k32) &&& (1#32)) == (0#32)))
  (some y12)
  (Option.bind (α := (List Int)) (cond ((x29.2.1 == 2))
  (Option.bind (appl 8 y12 ([x29.2.2] : List Int)) fun (y41 : List Int) =>
  some y41)
  (some y12))
  fun y35 =>
  cond ((x29.2.1 == 3))
  (Option.bind (F51 y35 (fun z => F52 z (x29.1, x29.2.1, x29.2.2))) fun r45 =>
  some r45)
  (some y35)))
  fun y27 =>
  some (.nxt (y27, w64 (x13 + 1))))
  (some (.brk y12))
/-- the model of beaconry/cut.Way -/
noncomputable def F39 (a0 : Int) (a1 : List (Int × Int × Int)) (a2 : List Int) : Option ((List Int) × Int) :=
  Option.bind (F33 a0 a1 a2) fun (r2, r3) =>
  cond ((r3 != 0))
  (some ([], r3))
  (cond ((!r2))
  (some ([], 5))
  (Option.bind (F45 a0 a1 a2) fun (r7, r8) =>
  Option.bind (whileM (F39_L0 a1 r7) ([], 0)) fun o21 => Ctl.on o21 (fun y20 =>
  Option.bind (srt y20) fun y49 =>
  some (y49, 0)) (fun _ => none)))

noncomputable def F14_L1 (a1 : List (Int × Int × Int)) (r10 : List Bool) (x22 : Int) : (Bool × Bool × Int) → Option (Ctl (Bool × Bool × Int) (Bool × Bool) (Unit)) := fun (b37, b38, x39) =>
  cond ((decide (x39 < (a1.length : Int))))
  (Option.bind (idx a1 x39) fun x49 =>
  Option.bind (cond (b37) (some true) (Option.bind (idx r10 x39) fun x55 =>
  some ((x55 && (x49.2.1 == 2)) && (x49.2.2 == x22)))) fun b53 =>
  Option.bind (cond (b38) (some true) (Option.bind (idx r10 x39) fun x62 =>
  some ((x62 && (x49.2.1 == 3)) && (x49.2.2 == x22)))) fun b60 =>
  some (.nxt (b53, b60, w64 (x39 + 1))))
  (some (.brk (b37, b38)))
noncomputable def F14_L0 (a1 : List (Int × Int × Int)) (r10 : List Bool) : ((List Int) × Int) → Option (Ctl ((List Int) × Int) ((List Int)) (Unit)) := fun (y21, x22) =>
  cond ((decide (x22 ≤ 20)))
  (Option.bind (α := (List Int)) (Option.bind (whileM (F14_L1 a1 r10 x22) (false, false, 0)) fun o45 => Ctl.on o45 (fun (b43, b44) =>
  cond ((b43 && (!b44)))
  (Option.bind (appl 8 y21 ([x22] : List Int)) fun (y70 : List Int) =>
  some y70)
  (some y21)) (fun _ => none))
  fun y34 =>
  some (.nxt (y34, w64 (x22 + 1))))
  (some (.brk y21))
/-- the model of beaconry/beaconrylaw.CutWays -/
noncomputable def F14 (a0 : Int) (a1 : List (Int × Int × Int)) (a2 : List Int) : Option (Bool) :=
  Option.bind (F39 a0 a1 a2) fun (r1, r2) =>
  Option.bind (F34 a0 a1 a2) fun r6 =>
  cond ((r6 != 0))
  (some ((r2 == r6) && ((r1.length : Int) == 0)))
  (Option.bind (F35 a0 a1 a2) fun (r10, r11) =>
  Option.bind (F36 a1 r10) fun r15 =>
  cond ((!r15))
  (some ((r2 == 5) && ((r1.length : Int) == 0)))
  (Option.bind (whileM (F14_L0 a1 r10) ([], 0)) fun o30 => Ctl.on o30 (fun y29 =>
  Option.bind (cond ((r2 == 0)) (Option.bind (F24 r1 y29) fun r76 =>
  some r76) (some false)) fun b74 =>
  some b74) (fun _ => none)))
end Go.Proofs.Ytmfidlalejdikaa
