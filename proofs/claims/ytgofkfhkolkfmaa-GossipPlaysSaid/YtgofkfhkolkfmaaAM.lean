/-
  Pure models of Go functions, written by a program (gen.py).
-/
import Derived.Test.YtgofkfhkolkfmaaBk35
import Derived.Test.YtgofkfhkolkfmaaBk45
namespace Go.Proofs.Ytgofkfhkolkfmaa
open Go Go.Bk
set_option linter.unusedVariables false
@[reducible] def cZ44 (zs : List ZH) (x : Int × Nat) : List Value := [I x.1, zv zs x.2]
/-- the model of beaconry/beaconryref.PlayCheck -/
noncomputable def F5 (a0 : Int) (a1 : Int) : Option (Int) :=
  cond ((((decide (a0 < 1)) || (decide (a0 > 6))) || (decide (a1 > 60))))
  (some 1)
  (some 0)

noncomputable def F7_L0 (a0 : List Int) (a1 : List Int) : Int → Option (Ctl (Int) (Unit) (Bool)) := fun x2 =>
  cond ((decide (x2 < (a0.length : Int))))
  (Option.bind (idx a0 x2) fun x8 =>
  Option.bind (idx a1 x2) fun x10 =>
  cond ((x8 != x10))
  (some (.ret false))
  (some (.nxt (w64 (x2 + 1)))))
  (some (.brk ()))
/-- the model of beaconry/beaconryref.Codes -/
noncomputable def F7 (a0 : List Int) (a1 : List Int) : Option (Bool) :=
  cond (((a0.length : Int) != (a1.length : Int)))
  (some false)
  (Option.bind (whileM (F7_L0 a0 a1) 0) fun o4 => Ctl.on o4 (fun _ =>
  some true) (fun r => some r))

noncomputable def F18_L0 (a0 : List Int) (a1 : List Int) : Int → Option (Ctl (Int) (Unit) (Bool)) := fun x2 =>
  cond ((decide (x2 < (a0.length : Int))))
  (Option.bind (idx a0 x2) fun x8 =>
  Option.bind (idx a1 x2) fun x10 =>
  cond ((x8 != x10))
  (some (.ret false))
  (some (.nxt (w64 (x2 + 1)))))
  (some (.brk ()))
/-- the model of beaconry/beaconryref.Ints -/
noncomputable def F18 (a0 : List Int) (a1 : List Int) : Option (Bool) :=
  cond (((a0.length : Int) != (a1.length : Int)))
  (some false)
  (Option.bind (whileM (F18_L0 a0 a1) 0) fun o4 => Ctl.on o4 (fun _ =>
  some true) (fun r => some r))

noncomputable def F8_L0 (a0 : List (Int × Nat)) (a1 : List (Int × Nat)) (zp : List (List Int)) : Int → Option (Ctl (Int) (Unit) (Bool)) := fun x2 =>
  cond ((decide (x2 < (a0.length : Int))))
  (Option.bind (idx a0 x2) fun x8 =>
  Option.bind (idx a1 x2) fun x10 =>
  Option.bind (cond ((x8.1 != x10.1)) (some true) (Option.bind (idx a0 x2) fun x15 =>
  Option.bind (zget zp x15.2) fun (l17 : List Int) =>
  Option.bind (idx a1 x2) fun x19 =>
  Option.bind (zget zp x19.2) fun (l21 : List Int) =>
  Option.bind (F18 l17 l21) fun r23 =>
  some (!r23))) fun b13 =>
  cond (b13)
  (some (.ret false))
  (some (.nxt (w64 (x2 + 1)))))
  (some (.brk ()))
/-- the model of beaconry/beaconryref.Knowns -/
noncomputable def F8 (a0 : List (Int × Nat)) (a1 : List (Int × Nat)) (zp : List (List Int)) : Option (Bool) :=
  cond (((a0.length : Int) != (a1.length : Int)))
  (some false)
  (Option.bind (whileM (F8_L0 a0 a1 zp) 0) fun o4 => Ctl.on o4 (fun _ =>
  some true) (fun r => some r))

/-- the model of slices.Clone[[]int,int] -/
noncomputable def F10 (a0 : List Int) : Option (List Int) := appl 8 ([] : List Int) a0

/-- the model of cmp.isNaN[int] -/
noncomputable def F24 (a0 : Int) : Option (Bool) :=
  some (a0 != a0)

/-- the model of cmp.Compare[int] -/
noncomputable def F14 (a0 : Int) (a1 : Int) : Option (Int) :=
  Option.bind (F24 a0) fun r1 =>
  Option.bind (F24 a1) fun r3 =>
  cond (r1)
  (cond (r3)
  (some 0)
  (some (-1)))
  (cond (r3)
  (some 1)
  (cond ((decide (a0 < a1)))
  (some (-1))
  (cond ((decide (a0 > a1)))
  (some 1)
  (some 0))))

noncomputable def F15_L0 (a0 : List Int) (a1 : List Int) : Int → Option (Ctl (Int) (Unit) (Int)) := fun x1 =>
  cond ((decide (x1 < (a0.length : Int))))
  (Option.bind (idx a0 x1) fun x7 =>
  cond ((decide (x1 ≥ (a1.length : Int))))
  (some (.ret 1))
  (Option.bind (idx a1 x1) fun x10 =>
  Option.bind (F14 x7 x10) fun r12 =>
  cond ((r12 != 0))
  (some (.ret r12))
  (some (.nxt (w64 (x1 + 1))))))
  (some (.brk ()))
/-- the model of slices.Compare[[]int,int] -/
noncomputable def F15 (a0 : List Int) (a1 : List Int) : Option (Int) :=
  Option.bind (whileM (F15_L0 a0 a1) 0) fun o3 => Ctl.on o3 (fun _ =>
  cond ((decide ((a0.length : Int) < (a1.length : Int))))
  (some (-1))
  (some 0)) (fun r => some r)

noncomputable def F13_L0 (a0 : List Int) : Int → Option (Ctl (Int) (Unit) (Int)) := fun x1 =>
  cond ((decide (x1 < (a0.length : Int))))
  (Option.bind (idx a0 x1) fun x7 =>
  cond ((x7 != 0))
  (some (.ret x7))
  (some (.nxt (w64 (x1 + 1)))))
  (some (.brk ()))
/-- the model of cmp.Or[int] -/
noncomputable def F13 (a0 : List Int) : Option (Int) :=
  Option.bind (whileM (F13_L0 a0) 0) fun o3 => Ctl.on o3 (fun _ =>
  some 0) (fun r => some r)

/-- the model of beaconry/gossip.Play$1 -/
noncomputable def F12 (a0 : Int × Nat) (a1 : Int × Nat) (zp : List (List Int)) : Option (Int) :=
  Option.bind (zget zp a0.2) fun (lq3_6_1 : List Int) =>
  Option.bind (zget zp a1.2) fun (lq3_8_1 : List Int) =>
  Option.bind (F14 a0.1 a1.1) fun rq3_4_1 =>
  Option.bind (F15 lq3_6_1 lq3_8_1) fun rq3_9_1 =>
  Option.bind (F13 ([rq3_4_1, rq3_9_1] : List Int)) fun rq3_11_1 =>
  some rq3_11_1

noncomputable def F17_L0 (a0 : Int × Nat) (a1 : Int × Nat) (zp : List (List Int)) : Int → Option (Ctl (Int) (Unit) (Bool)) := fun x4 =>
  Option.bind (zget zp a0.2) fun (l9 : List Int) =>
  cond ((decide (x4 < (l9.length : Int))))
  (Option.bind (zget zp a0.2) fun (l12 : List Int) =>
  Option.bind (idx l12 x4) fun x14 =>
  Option.bind (zget zp a1.2) fun (l16 : List Int) =>
  Option.bind (idx l16 x4) fun x18 =>
  cond ((x14 != x18))
  (Option.bind (zget zp a0.2) fun (l21 : List Int) =>
  Option.bind (idx l21 x4) fun x23 =>
  Option.bind (zget zp a1.2) fun (l25 : List Int) =>
  Option.bind (idx l25 x4) fun x27 =>
  some (.ret (decide (x23 < x27))))
  (some (.nxt (w64 (x4 + 1)))))
  (some (.brk ()))
/-- the model of beaconry/beaconryref.knownAhead -/
noncomputable def F17 (a0 : Int × Nat) (a1 : Int × Nat) (zp : List (List Int)) : Option (Bool) :=
  cond ((a0.1 != a1.1))
  (some (decide (a0.1 < a1.1)))
  (Option.bind (whileM (F17_L0 a0 a1 zp) 0) fun o6 => Ctl.on o6 (fun _ =>
  some false) (fun r => some r))

/-- the model of (*beaconry/gossip.place).do$1 -/
noncomputable def F19 (a0 : Int) (a1_0 : Nat) : Option (Bool) :=
  some ((decide (a0 < 0)) || (decide (a0 ≥ (a1_0 : Int))))

noncomputable def F21_L1 (l24 : List Int) : ((List Int) × Int) → Option (Ctl ((List Int) × Int) ((List Int)) (Unit)) := fun (y26, x27) =>
  cond ((decide (x27 < (l24.length : Int))))
  (Option.bind (idx l24 x27) fun x35 =>
  Option.bind (idx y26 x27) fun x37 =>
  Option.bind (idx y26 x27) fun x39 =>
  some (.nxt (y26.set x27.toNat (mx x37 x35), w64 (x27 + 1))))
  (some (.brk y26))
noncomputable def F21_L0 (zp : List (List Int)) (x9 : List (Int × Nat)) : ((List Int) × Int) → Option (Ctl ((List Int) × Int) ((List Int)) (Unit)) := fun (y12, x13) =>
  cond ((decide (x13 < (x9.length : Int))))
  (Option.bind (idx x9 x13) fun x21 =>
  Option.bind (zget zp x21.2) fun (l24 : List Int) =>
  Option.bind (whileM (F21_L1 l24) (y12, 0)) fun o31 => Ctl.on o31 (fun y30 =>
  some (.nxt (y30, w64 (x13 + 1)))) (fun _ => none))
  (some (.brk y12))
/-- the model of (*beaconry/gossip.place).write -/
noncomputable def F21 (a0 : (List (List (Int × Nat))) × List Int) (a1 : Int) (a2 : Int) (zp : List (List Int)) : Option (((List (List (Int × Nat))) × List Int) × (List (List Int))) :=
  Option.bind (mkl (a0.1.length : Int) 8 0) fun (y5 : List Int) =>
  Option.bind (idx a0.1 a1) fun (x9 : List (Int × Nat)) =>
  Option.bind (whileM (F21_L0 zp x9) (y5, 0)) fun o17 => Ctl.on o17 (fun y16 =>
  Option.bind (idx a0.2 a1) fun x41 =>
  Option.bind (idx a0.2 a1) fun x43 =>
  Option.bind (idx (a0.2.set a1.toNat (w64 (x41 + 1))) a1) fun x45 =>
  Option.bind (idx y16 a1) fun x47 =>
  Option.bind (zokLL (fun x : Int × Nat => x.2) (zp).length a0.1) fun _ =>
  Option.bind (idx a0.1 a1) fun (x54 : List (Int × Nat)) =>
  some ((a0.1.set a1.toNat ([(a2, (zp).length)] : List (Int × Nat)), a0.2.set a1.toNat (w64 (x41 + 1))), (zp ++ [y16.set a1.toNat x45]))) (fun _ => none)

noncomputable def F26_L0 (a0 : List Int) (a1 : List Int) : Int → Option (Ctl (Int) (Unit) (Bool)) := fun x1 =>
  cond ((decide (x1 < (a0.length : Int))))
  (Option.bind (idx a0 x1) fun x7 =>
  Option.bind (idx a1 x1) fun x9 =>
  cond ((decide (x7 > x9)))
  (some (.ret false))
  (some (.nxt (w64 (x1 + 1)))))
  (some (.brk ()))
/-- the model of beaconry/vector.Under -/
noncomputable def F26 (a0 : List Int) (a1 : List Int) : Option (Bool) :=
  Option.bind (whileM (F26_L0 a0 a1) 0) fun o3 => Ctl.on o3 (fun _ =>
  some true) (fun r => some r)
end Go.Proofs.Ytgofkfhkolkfmaa
