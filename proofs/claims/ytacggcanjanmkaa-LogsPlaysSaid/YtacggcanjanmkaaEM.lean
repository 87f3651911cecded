/-
  Pure models of Go functions, written by a program (gen.py).
-/
import Derived.Test.YtacggcanjanmkaaBk35
import Derived.Test.YtacggcanjanmkaaAM
import Derived.Test.YtacggcanjanmkaaBM
import Derived.Test.YtacggcanjanmkaaCM
import Derived.Test.YtacggcanjanmkaaDM
namespace Go.Proofs.Ytacggcanjanmkaa
open Go Go.Bk
set_option linter.unusedVariables false
@[reducible] def nT61 : NT (Int × Int × Int × (List Int) × (List (Int × Int)) × Int × (List Int) × List Int) := ⟨fun x c => [I x.1, I x.2.1, I x.2.2.1, cv c 0, cv c 1, I x.2.2.2.2.2.1, cv c 2, cv c 3], fun x c => [OwnS 3 1 (cv c 0) (x.2.2.2.1.map cI), OwnS 52 2 (cv c 1) (x.2.2.2.2.1.map cTii), OwnS 3 1 (cv c 2) (x.2.2.2.2.2.2.1.map cI), OwnS 3 1 (cv c 3) (x.2.2.2.2.2.2.2.map cI)]⟩
noncomputable def F15_L0 (a0 : Int) : ((List (Int × Int × Int × (List Int) × (List (Int × Int)) × Int × (List Int) × List Int)) × Int) → Option (Ctl ((List (Int × Int × Int × (List Int) × (List (Int × Int)) × Int × (List Int) × List Int)) × Int) ((List (Int × Int × Int × (List Int) × (List (Int × Int)) × Int × (List Int) × List Int))) (Unit)) := fun (y7, x8) =>
  cond ((decide (x8 < a0)))
  (Option.bind (appl 128 y7 [(0, 0, (-1), ([] : List (Int)), ([] : List (Int × Int)), 0, ([] : List (Int)), ([] : List (Int)))]) fun (y32 : List (Int × Int × Int × (List Int) × (List (Int × Int)) × Int × (List Int) × List Int)) =>
  some (.nxt (y32, w64 (x8 + 1))))
  (some (.brk y7))
/-- the model of beaconry/beaconryref.Voters -/
noncomputable def F15 (a0 : Int) : Option (((List (Int × Int × Int × (List Int) × (List (Int × Int)) × Int × (List Int) × List Int)) × List (Int × Int))) :=
  Option.bind (whileM (F15_L0 a0) ([], 0)) fun o18 => Ctl.on o18 (fun y17 =>
  some (y17, [])) (fun _ => none)

/-- the model of beaconry/beaconryref.ends -/
noncomputable def F24 (a0 : Int) (a1 : Int × Int × Int × Int) (a2 : Bool) : Option (Bool) :=
  cond (((decide (a1.2.1 < 0)) || (decide (a1.2.1 ≥ a0))))
  (some false)
  (some ((!a2) || (((decide (a1.2.2.1 ≥ 0)) && (decide (a1.2.2.1 < a0))) && (a1.2.2.1 != a1.2.1))))

noncomputable def F33_L0 (a0 : List Int) (a1 : Int) : Int → Option (Ctl (Int) (Unit) (Bool)) := fun x1 =>
  cond ((decide (x1 < (a0.length : Int))))
  (Option.bind (idx a0 x1) fun x7 =>
  cond ((a1 == x7))
  (some (.ret true))
  (some (.nxt (w64 (x1 + 1)))))
  (some (.brk ()))
/-- the model of beaconry/beaconryref.Has -/
noncomputable def F33 (a0 : List Int) (a1 : Int) : Option (Bool) :=
  Option.bind (whileM (F33_L0 a0 a1) 0) fun o3 => Ctl.on o3 (fun _ =>
  some false) (fun r => some r)

noncomputable def F25_L0 (a1 : Int) : ((List (Int × Int × Int × (List Int) × (List (Int × Int)) × Int × (List Int) × List Int)) × Int) → Option (Ctl ((List (Int × Int × Int × (List Int) × (List (Int × Int)) × Int × (List Int) × List Int)) × Int) ((List (Int × Int × Int × (List Int) × (List (Int × Int)) × Int × (List Int) × List Int))) (Unit)) := fun (y72, x74) =>
  cond ((decide (x74 < (y72.length : Int))))
  (Option.bind (idx y72 a1) fun x84 =>
  Option.bind (idx y72 a1) fun x86 =>
  Option.bind (idx x84.2.2.2.2.2.2.2 x74) fun x88 =>
  Option.bind (some (y72.set a1.toNat (x84.1, x84.2.1, x84.2.2.1, x84.2.2.2.1, x84.2.2.2.2.1, x84.2.2.2.2.2.1, x84.2.2.2.2.2.2.1, x84.2.2.2.2.2.2.2.set x74.toNat (x86.2.2.2.2.1.length : Int)))) fun (y95 : List (Int × Int × Int × (List Int) × (List (Int × Int)) × Int × (List Int) × List Int)) =>
  some (.nxt (y95, w64 (x74 + 1))))
  (some (.brk y72))
/-- the model of (*beaconry/beaconryref.voters).got -/
noncomputable def F25 (a0 : (List (Int × Int × Int × (List Int) × (List (Int × Int)) × Int × (List Int) × List Int)) × List (Int × Int)) (a1 : Int) (a2 : Int) : Option (((List (Int × Int × Int × (List Int) × (List (Int × Int)) × Int × (List Int) × List Int)) × List (Int × Int))) :=
  Option.bind (idx a0.1 a1) fun (x5 : Int × Int × Int × (List Int) × (List (Int × Int)) × Int × (List Int) × List Int) =>
  Option.bind (F33 x5.2.2.2.1 a2) fun r7 =>
  Option.bind (α := (List (Int × Int × Int × (List Int) × (List (Int × Int)) × Int × (List Int) × List Int))) (cond ((!r7))
  (Option.bind (appl 8 x5.2.2.2.1 ([a2] : List Int)) fun (y19 : List Int) =>
  Option.bind (some (a0.1.set a1.toNat (x5.1, x5.2.1, x5.2.2.1, y19, x5.2.2.2.2.1, x5.2.2.2.2.2.1, x5.2.2.2.2.2.2.1, x5.2.2.2.2.2.2.2))) fun (y24 : List (Int × Int × Int × (List Int) × (List (Int × Int)) × Int × (List Int) × List Int)) =>
  some y24)
  (some a0.1))
  fun y9 =>
  Option.bind (idx y9 a1) fun x26 =>
  Option.bind (cond ((x26.2.1 == 1)) (Option.bind (idx y9 a1) fun x31 =>
  some (decide ((w64 ((x31.2.2.2.1.length : Int) * 2)) > (y9.length : Int)))) (some false)) fun b29 =>
  cond (b29)
  (Option.bind (idx y9 a1) fun x34 =>
  Option.bind (some (y9.set a1.toNat (x34.1, 2, x34.2.2.1, x34.2.2.2.1, x34.2.2.2.2.1, x34.2.2.2.2.2.1, x34.2.2.2.2.2.2.1, x34.2.2.2.2.2.2.2))) fun (y41 : List (Int × Int × Int × (List Int) × (List (Int × Int)) × Int × (List Int) × List Int)) =>
  Option.bind (idx y41 a1) fun xq43_8_1 =>
  Option.bind (appl 16 a0.2 ([(xq43_8_1.1, a1)] : List (Int × Int))) fun (yq43_12_1 : List (Int × Int)) =>
  Option.bind (mkl (y41.length : Int) 8 0) fun (y44 : List Int) =>
  Option.bind (idx y41 a1) fun x48 =>
  Option.bind (some (y41.set a1.toNat (x48.1, x48.2.1, x48.2.2.1, x48.2.2.2.1, x48.2.2.2.2.1, x48.2.2.2.2.2.1, y44, x48.2.2.2.2.2.2.2))) fun (y56 : List (Int × Int × Int × (List Int) × (List (Int × Int)) × Int × (List Int) × List Int)) =>
  Option.bind (mkl (y56.length : Int) 8 0) fun (y58 : List Int) =>
  Option.bind (idx y56 a1) fun x62 =>
  Option.bind (some (y56.set a1.toNat (x62.1, x62.2.1, x62.2.2.1, x62.2.2.2.1, x62.2.2.2.2.1, x62.2.2.2.2.2.1, x62.2.2.2.2.2.2.1, y58))) fun (y70 : List (Int × Int × Int × (List Int) × (List (Int × Int)) × Int × (List Int) × List Int)) =>
  Option.bind (whileM (F25_L0 a1) (y70, 0)) fun o80 => Ctl.on o80 (fun y78 =>
  some (y78, yq43_12_1)) (fun _ => none))
  (some (y9, a0.2))

/-- the model of (*beaconry/beaconryref.voters).know -/
noncomputable def F26 (a0 : List (Int × Int × Int × (List Int) × (List (Int × Int)) × Int × (List Int) × List Int)) (a1 : Int) (a2 : Int) : Option ((List (Int × Int × Int × (List Int) × (List (Int × Int)) × Int × (List Int) × List Int))) :=
  Option.bind (idx a0 a1) fun (x3 : Int × Int × Int × (List Int) × (List (Int × Int)) × Int × (List Int) × List Int) =>
  cond ((decide (a2 > x3.1)))
  (Option.bind (some (a0.set a1.toNat (a2, x3.2.1, x3.2.2.1, x3.2.2.2.1, x3.2.2.2.2.1, x3.2.2.2.2.2.1, x3.2.2.2.2.2.2.1, x3.2.2.2.2.2.2.2))) fun (y11 : List (Int × Int × Int × (List Int) × (List (Int × Int)) × Int × (List Int) × List Int)) =>
  Option.bind (idx y11 a1) fun x13 =>
  Option.bind (some (y11.set a1.toNat (x13.1, x13.2.1, (-1), x13.2.2.2.1, x13.2.2.2.2.1, x13.2.2.2.2.2.1, x13.2.2.2.2.2.2.1, x13.2.2.2.2.2.2.2))) fun (y20 : List (Int × Int × Int × (List Int) × (List (Int × Int)) × Int × (List Int) × List Int)) =>
  Option.bind (idx y20 a1) fun x22 =>
  Option.bind (some (y20.set a1.toNat (x22.1, 0, x22.2.2.1, x22.2.2.2.1, x22.2.2.2.2.1, x22.2.2.2.2.2.1, x22.2.2.2.2.2.2.1, x22.2.2.2.2.2.2.2))) fun (y29 : List (Int × Int × Int × (List Int) × (List (Int × Int)) × Int × (List Int) × List Int)) =>
  Option.bind (idx y29 a1) fun x32 =>
  Option.bind (some (y29.set a1.toNat (x32.1, x32.2.1, x32.2.2.1, ([] : List (Int)), x32.2.2.2.2.1, x32.2.2.2.2.2.1, x32.2.2.2.2.2.2.1, x32.2.2.2.2.2.2.2))) fun (y40 : List (Int × Int × Int × (List Int) × (List (Int × Int)) × Int × (List Int) × List Int)) =>
  some y40)
  (some a0)

/-- the model of beaconry/beaconryref.lastTerm -/
noncomputable def F27 (a0 : List (Int × Int)) : Option (Int) :=
  cond (((a0.length : Int) == 0))
  (some 0)
  (Option.bind (idx a0 (w64 ((a0.length : Int) - 1))) fun x2 =>
  some x2.1)

noncomputable def F16_L1 (a0 : (List (Int × Int × Int × (List Int) × (List (Int × Int)) × Int × (List Int) × List Int)) × List (Int × Int)) (a1 : Int × Int × Int × Int) (x270 : Int) : (Int × Int) → Option (Ctl (Int × Int) (Int) (Unit)) := fun (x282, x283) =>
  cond ((decide (x283 < (a0.1.length : Int))))
  (Option.bind (α := Int) (Option.bind (cond ((x283 != a1.2.1)) (Option.bind (idx a0.1 a1.2.1) fun x296 =>
  Option.bind (idx x296.2.2.2.2.2.2.1 x283) fun x298 =>
  some (decide (x298 ≥ x270))) (some false)) fun b294 =>
  cond (b294)
  (some (w64 (x282 + 1)))
  (some x282))
  fun x291 =>
  some (.nxt (x291, w64 (x283 + 1))))
  (some (.brk x282))
noncomputable def F16_L0 (a0 : (List (Int × Int × Int × (List Int) × (List (Int × Int)) × Int × (List Int) × List Int)) × List (Int × Int)) (a1 : Int × Int × Int × Int) : (Int × Int) → Option (Ctl (Int × Int) (Int) (Unit)) := fun (x269, x270) =>
  Option.bind (idx a0.1 a1.2.1) fun x277 =>
  cond ((decide (x270 ≤ (x277.2.2.2.2.1.length : Int))))
  (Option.bind (α := Int) (Option.bind (whileM (F16_L1 a0 a1 x270) (1, 0)) fun o287 => Ctl.on o287 (fun x286 =>
  Option.bind (cond ((decide ((w64 (x286 * 2)) > (a0.1.length : Int)))) (Option.bind (idx a0.1 a1.2.1) fun x304 =>
  Option.bind (idx x304.2.2.2.2.1 (w64 (x270 - 1))) fun x306 =>
  Option.bind (idx a0.1 a1.2.1) fun x308 =>
  some (x306.1 == x308.1)) (some false)) fun b302 =>
  cond (b302)
  (some x270)
  (some x269)) (fun _ => none))
  fun x280 =>
  some (.nxt (x280, w64 (x270 + 1))))
  (some (.brk x269))
/-- the model of (*beaconry/beaconryref.voters).step -/
noncomputable def F16 (a0 : (List (Int × Int × Int × (List Int) × (List (Int × Int)) × Int × (List Int) × List Int)) × List (Int × Int)) (a1 : Int × Int × Int × Int) (a2 : Bool) : Option (Int × ((List (Int × Int × Int × (List Int) × (List (Int × Int)) × Int × (List Int) × List Int)) × List (Int × Int))) :=
  cond ((((decide (a1.1 < 1)) || (decide (a1.1 > 6))) || ((!a2) && ((a1.1 == 4) || (a1.1 == 5)))))
  (some (6, (a0.1, a0.2)))
  (Option.bind (F24 (a0.1.length : Int) (a1.1, a1.2.1, a1.2.2.1, a1.2.2.2) ((a1.1 == 2) || (a1.1 == 3))) fun r12 =>
  cond ((!r12))
  (some (2, (a0.1, a0.2)))
  (Option.bind (idx a0.1 a1.2.1) fun (x15 : Int × Int × Int × (List Int) × (List (Int × Int)) × Int × (List Int) × List Int) =>
  cond ((a1.1 == 1))
  (cond ((x15.2.1 == 2))
  (some (7, (a0.1, a0.2)))
  (Option.bind (some (a0.1.set a1.2.1.toNat (w64 (x15.1 + 1), x15.2.1, x15.2.2.1, x15.2.2.2.1, x15.2.2.2.2.1, x15.2.2.2.2.2.1, x15.2.2.2.2.2.2.1, x15.2.2.2.2.2.2.2))) fun (y24 : List (Int × Int × Int × (List Int) × (List (Int × Int)) × Int × (List Int) × List Int)) =>
  Option.bind (idx y24 a1.2.1) fun x26 =>
  Option.bind (some (y24.set a1.2.1.toNat (x26.1, 1, x26.2.2.1, x26.2.2.2.1, x26.2.2.2.2.1, x26.2.2.2.2.2.1, x26.2.2.2.2.2.2.1, x26.2.2.2.2.2.2.2))) fun (y33 : List (Int × Int × Int × (List Int) × (List (Int × Int)) × Int × (List Int) × List Int)) =>
  Option.bind (idx y33 a1.2.1) fun x35 =>
  Option.bind (some (y33.set a1.2.1.toNat (x35.1, x35.2.1, a1.2.1, x35.2.2.2.1, x35.2.2.2.2.1, x35.2.2.2.2.2.1, x35.2.2.2.2.2.2.1, x35.2.2.2.2.2.2.2))) fun (y42 : List (Int × Int × Int × (List Int) × (List (Int × Int)) × Int × (List Int) × List Int)) =>
  Option.bind (idx y42 a1.2.1) fun x45 =>
  Option.bind (some (y42.set a1.2.1.toNat (x45.1, x45.2.1, x45.2.2.1, ([] : List (Int)), x45.2.2.2.2.1, x45.2.2.2.2.2.1, x45.2.2.2.2.2.2.1, x45.2.2.2.2.2.2.2))) fun (y53 : List (Int × Int × Int × (List Int) × (List (Int × Int)) × Int × (List Int) × List Int)) =>
  Option.bind (F25 (y53, a0.2) a1.2.1 a1.2.1) fun r55 =>
  some (0, (r55.1, r55.2))))
  (cond ((a1.1 == 2))
  (Option.bind (idx a0.1 a1.2.2.1) fun (x62 : Int × Int × Int × (List Int) × (List (Int × Int)) × Int × (List Int) × List Int) =>
  cond ((x62.2.1 != 1))
  (some (5, (a0.1, a0.2)))
  (Option.bind (F26 a0.1 a1.2.1 x62.1) fun r65 =>
  Option.bind (idx r65 a1.2.1) fun x69 =>
  Option.bind (idx r65 a1.2.2.1) fun x71 =>
  cond ((decide (x69.1 > x71.1)))
  (Option.bind (idx r65 a1.2.1) fun x74 =>
  Option.bind (F26 r65 a1.2.2.1 x74.1) fun r76 =>
  some (8, (r76, a0.2)))
  (Option.bind (idx r65 a1.2.1) fun x80 =>
  Option.bind (cond ((decide (x80.2.2.1 ≥ 0))) (Option.bind (idx r65 a1.2.1) fun x85 =>
  some (x85.2.2.1 != a1.2.2.1)) (some false)) fun b83 =>
  cond (b83)
  (some (7, (r65, a0.2)))
  (Option.bind (cond (a2) (Option.bind (idx r65 a1.2.2.1) fun x91 =>
  Option.bind (F27 x91.2.2.2.2.1) fun r93 =>
  Option.bind (idx r65 a1.2.1) fun x95 =>
  Option.bind (F27 x95.2.2.2.2.1) fun r97 =>
  Option.bind (cond ((decide (r93 < r97))) (some true) (Option.bind (idx r65 a1.2.2.1) fun x102 =>
  Option.bind (F27 x102.2.2.2.2.1) fun r104 =>
  Option.bind (idx r65 a1.2.1) fun x106 =>
  Option.bind (F27 x106.2.2.2.2.1) fun r108 =>
  Option.bind (cond ((r104 == r108)) (Option.bind (idx r65 a1.2.2.1) fun x113 =>
  Option.bind (idx r65 a1.2.1) fun x115 =>
  some (decide ((x113.2.2.2.2.1.length : Int) < (x115.2.2.2.2.1.length : Int)))) (some false)) fun b111 =>
  some b111)) fun b100 =>
  some b100) (some false)) fun b89 =>
  cond (b89)
  (some (7, (r65, a0.2)))
  (Option.bind (idx r65 a1.2.1) fun x118 =>
  Option.bind (some (r65.set a1.2.1.toNat (x118.1, x118.2.1, a1.2.2.1, x118.2.2.2.1, x118.2.2.2.2.1, x118.2.2.2.2.2.1, x118.2.2.2.2.2.2.1, x118.2.2.2.2.2.2.2))) fun (y125 : List (Int × Int × Int × (List Int) × (List (Int × Int)) × Int × (List Int) × List Int)) =>
  Option.bind (F25 (y125, a0.2) a1.2.2.1 a1.2.1) fun r127 =>
  some (0, (r127.1, r127.2)))))))
  (cond ((a1.1 == 3))
  (Option.bind (idx a0.1 a1.2.2.1) fun (x134 : Int × Int × Int × (List Int) × (List (Int × Int)) × Int × (List Int) × List Int) =>
  cond ((x15.2.1 != 2))
  (some (5, (a0.1, a0.2)))
  (cond ((decide (x134.1 > x15.1)))
  (Option.bind (F26 a0.1 a1.2.1 x134.1) fun r138 =>
  some (8, (r138, a0.2)))
  (Option.bind (F26 a0.1 a1.2.2.1 x15.1) fun r142 =>
  Option.bind (idx r142 a1.2.2.1) fun x146 =>
  Option.bind (some (r142.set a1.2.2.1.toNat (x146.1, 0, x146.2.2.1, x146.2.2.2.1, x146.2.2.2.2.1, x146.2.2.2.2.2.1, x146.2.2.2.2.2.2.1, x146.2.2.2.2.2.2.2))) fun (y153 : List (Int × Int × Int × (List Int) × (List (Int × Int)) × Int × (List Int) × List Int)) =>
  cond ((!a2))
  (some (0, (y153, a0.2)))
  (Option.bind (idx y153 a1.2.1) fun x156 =>
  Option.bind (idx x156.2.2.2.2.2.2.2 a1.2.2.1) fun x158 =>
  Option.bind (idx y153 a1.2.2.1) fun x160 =>
  Option.bind (cond ((decide (x158 > (x160.2.2.2.2.1.length : Int)))) (some true) (Option.bind (cond ((decide (x158 > 0))) (Option.bind (idx y153 a1.2.2.1) fun x168 =>
  Option.bind (idx x168.2.2.2.2.1 (w64 (x158 - 1))) fun x170 =>
  Option.bind (idx y153 a1.2.1) fun x172 =>
  Option.bind (idx x172.2.2.2.2.1 (w64 (x158 - 1))) fun x174 =>
  some (!((x170.1 == x174.1) && ((x170.2 == x174.2) && true)))) (some false)) fun b166 =>
  some b166)) fun b163 =>
  cond (b163)
  (Option.bind (idx y153 a1.2.1) fun x177 =>
  Option.bind (idx x177.2.2.2.2.2.2.2 a1.2.2.1) fun x179 =>
  Option.bind (some (y153.set a1.2.1.toNat (x177.1, x177.2.1, x177.2.2.1, x177.2.2.2.1, x177.2.2.2.2.1, x177.2.2.2.2.2.1, x177.2.2.2.2.2.2.1, x177.2.2.2.2.2.2.2.set a1.2.2.1.toNat (w64 (x158 - 1))))) fun (y186 : List (Int × Int × Int × (List Int) × (List (Int × Int)) × Int × (List Int) × List Int)) =>
  some (3, (y186, a0.2)))
  (Option.bind (idx y153 a1.2.2.1) fun x188 =>
  Option.bind (idx y153 a1.2.1) fun x190 =>
  Option.bind (F17 x188.2.2.2.2.1 x190.2.2.2.2.1) fun r192 =>
  Option.bind (α := (List (Int × Int × Int × (List Int) × (List (Int × Int)) × Int × (List Int) × List Int))) (cond ((!r192))
  (Option.bind (idx y153 a1.2.1) fun x200 =>
  Option.bind (appl 16 ([] : List (Int × Int)) x200.2.2.2.2.1) fun (y202 : List (Int × Int)) =>
  Option.bind (idx y153 a1.2.2.1) fun x205 =>
  Option.bind (some (y153.set a1.2.2.1.toNat (x205.1, x205.2.1, x205.2.2.1, x205.2.2.2.1, y202, x205.2.2.2.2.2.1, x205.2.2.2.2.2.2.1, x205.2.2.2.2.2.2.2))) fun (y213 : List (Int × Int × Int × (List Int) × (List (Int × Int)) × Int × (List Int) × List Int)) =>
  some y213)
  (some y153))
  fun y194 =>
  Option.bind (idx y194 a1.2.1) fun x215 =>
  Option.bind (idx y194 a1.2.1) fun x217 =>
  Option.bind (idx x215.2.2.2.2.2.2.1 a1.2.2.1) fun x219 =>
  Option.bind (some (y194.set a1.2.1.toNat (x215.1, x215.2.1, x215.2.2.1, x215.2.2.2.1, x215.2.2.2.2.1, x215.2.2.2.2.2.1, x215.2.2.2.2.2.2.1.set a1.2.2.1.toNat (x217.2.2.2.2.1.length : Int), x215.2.2.2.2.2.2.2))) fun (y226 : List (Int × Int × Int × (List Int) × (List (Int × Int)) × Int × (List Int) × List Int)) =>
  Option.bind (idx y226 a1.2.1) fun x228 =>
  Option.bind (idx y226 a1.2.1) fun x230 =>
  Option.bind (idx x228.2.2.2.2.2.2.2 a1.2.2.1) fun x232 =>
  Option.bind (some (y226.set a1.2.1.toNat (x228.1, x228.2.1, x228.2.2.1, x228.2.2.2.1, x228.2.2.2.2.1, x228.2.2.2.2.2.1, x228.2.2.2.2.2.2.1, x228.2.2.2.2.2.2.2.set a1.2.2.1.toNat (x230.2.2.2.2.1.length : Int)))) fun (y239 : List (Int × Int × Int × (List Int) × (List (Int × Int)) × Int × (List Int) × List Int)) =>
  Option.bind (idx y239 a1.2.1) fun x241 =>
  Option.bind (idx y239 a1.2.2.1) fun x243 =>
  Option.bind (α := (List (Int × Int × Int × (List Int) × (List (Int × Int)) × Int × (List Int) × List Int))) (cond ((decide (x241.2.2.2.2.2.1 > x243.2.2.2.2.2.1)))
  (Option.bind (idx y239 a1.2.1) fun x249 =>
  Option.bind (idx y239 a1.2.2.1) fun x251 =>
  Option.bind (some (y239.set a1.2.2.1.toNat (x251.1, x251.2.1, x251.2.2.1, x251.2.2.2.1, x251.2.2.2.2.1, x249.2.2.2.2.2.1, x251.2.2.2.2.2.2.1, x251.2.2.2.2.2.2.2))) fun (y258 : List (Int × Int × Int × (List Int) × (List (Int × Int)) × Int × (List Int) × List Int)) =>
  some y258)
  (some y239))
  fun y245 =>
  some (0, (y245, a0.2)))))))
  (cond ((a1.1 == 4))
  (cond ((x15.2.1 != 2))
  (some (5, (a0.1, a0.2)))
  (cond ((decide ((x15.2.2.2.2.1.length : Int) ≥ 30)))
  (some (1, (a0.1, a0.2)))
  (Option.bind (α := (List (Int × Int × Int × (List Int) × (List (Int × Int)) × Int × (List Int) × List Int))) (Option.bind (appl 16 ([] : List (Int × Int)) x15.2.2.2.2.1) fun (yq263_6_1 : List (Int × Int)) =>
  Option.bind (appl 16 yq263_6_1 ([(x15.1, a1.2.2.2)] : List (Int × Int))) fun (yq263_15_1 : List (Int × Int)) =>
  Option.bind (some (a0.1.set a1.2.1.toNat (x15.1, x15.2.1, x15.2.2.1, x15.2.2.2.1, yq263_15_1, x15.2.2.2.2.2.1, x15.2.2.2.2.2.2.1, x15.2.2.2.2.2.2.2))) fun (yq263_18_7 : List (Int × Int × Int × (List Int) × (List (Int × Int)) × Int × (List Int) × List Int)) =>
  some yq263_18_7)
  fun y264 =>
  some (0, (y264, a0.2)))))
  (cond ((a1.1 == 5))
  (cond ((x15.2.1 != 2))
  (some (5, (a0.1, a0.2)))
  (Option.bind (whileM (F16_L0 a0 a1) (x15.2.2.2.2.2.1, w64 (x15.2.2.2.2.2.1 + 1))) fun o274 => Ctl.on o274 (fun x273 =>
  Option.bind (idx a0.1 a1.2.1) fun x311 =>
  cond ((x273 == x311.2.2.2.2.2.1))
  (some (8, (a0.1, a0.2)))
  (Option.bind (idx a0.1 a1.2.1) fun x314 =>
  Option.bind (some (a0.1.set a1.2.1.toNat (x314.1, x314.2.1, x314.2.2.1, x314.2.2.2.1, x314.2.2.2.2.1, x273, x314.2.2.2.2.2.2.1, x314.2.2.2.2.2.2.2))) fun (y321 : List (Int × Int × Int × (List Int) × (List (Int × Int)) × Int × (List Int) × List Int)) =>
  some (0, (y321, a0.2)))) (fun _ => none)))
  (Option.bind (α := (List (Int × Int × Int × (List Int) × (List (Int × Int)) × Int × (List Int) × List Int))) (cond ((a1.1 == 6))
  (Option.bind (some (a0.1.set a1.2.1.toNat (x15.1, 0, x15.2.2.1, x15.2.2.2.1, x15.2.2.2.2.1, x15.2.2.2.2.2.1, x15.2.2.2.2.2.2.1, x15.2.2.2.2.2.2.2))) fun (y332 : List (Int × Int × Int × (List Int) × (List (Int × Int)) × Int × (List Int) × List Int)) =>
  Option.bind (idx y332 a1.2.1) fun x335 =>
  Option.bind (some (y332.set a1.2.1.toNat (x335.1, x335.2.1, x335.2.2.1, ([] : List (Int)), x335.2.2.2.2.1, x335.2.2.2.2.2.1, x335.2.2.2.2.2.2.1, x335.2.2.2.2.2.2.2))) fun (y343 : List (Int × Int × Int × (List Int) × (List (Int × Int)) × Int × (List Int) × List Int)) =>
  Option.bind (idx y343 a1.2.1) fun x345 =>
  Option.bind (some (y343.set a1.2.1.toNat (x345.1, x345.2.1, x345.2.2.1, x345.2.2.2.1, x345.2.2.2.2.1, 0, x345.2.2.2.2.2.2.1, x345.2.2.2.2.2.2.2))) fun (y352 : List (Int × Int × Int × (List Int) × (List (Int × Int)) × Int × (List Int) × List Int)) =>
  some y352)
  (some a0.1))
  fun y323 =>
  some (0, (y323, a0.2)))))))))
end Go.Proofs.Ytacggcanjanmkaa
