/-
  Pure models of Go functions, written by a program (gen.py).
-/
import Derived.Test.YtpeijfboikfcjaaBk35
import Derived.Test.YtpeijfboikfcjaaAM
namespace Go.Proofs.Ytpeijfboikfcjaa
open Go Go.Bk
set_option linter.unusedVariables false
@[reducible] def cTiii (x : Int × Int × Int) : List Value := [I x.1, I x.2.1, I x.2.2]
/-- the model of beaconry/beaconryref.Echo$1 -/
noncomputable def F16 (a0 : Int) (a1 : Int) (a2 : List (Int × Int × Int)) (a3 : Int) : Option ((List (Int × Int × Int)) × Int) :=
  Option.bind (appl 24 a2 ([(a0, a1, 0)] : List (Int × Int × Int))) fun (y5 : List (Int × Int × Int)) =>
  some (y5, w64 (a3 + 1))

noncomputable def F17_L1 (a1 : List (Int × Int)) (a2 : Int) (x5 : Int) : ((List Int) × Int) → Option (Ctl ((List Int) × Int) ((List Int)) (Unit)) := fun (y17, x19) =>
  cond ((decide (x19 < (a1.length : Int))))
  (Option.bind (α := (List Int)) (Option.bind (idx a1 x19) fun x32 =>
  cond ((((x32.1 == a2) && (x32.2 == x5)) || ((x32.2 == a2) && (x32.1 == x5))))
  (Option.bind (appl 8 y17 ([x5] : List Int)) fun (y41 : List Int) =>
  some y41)
  (some y17))
  fun y29 =>
  some (.nxt (y29, w64 (x19 + 1))))
  (some (.brk y17))
noncomputable def F17_L0 (a0 : Int) (a1 : List (Int × Int)) (a2 : Int) : ((List Int) × Int) → Option (Ctl ((List Int) × Int) ((List Int)) (Unit)) := fun (y4, x5) =>
  cond ((decide (x5 < a0)))
  (Option.bind (whileM (F17_L1 a1 a2 x5) (y4, 0)) fun o25 => Ctl.on o25 (fun y23 =>
  some (.nxt (y23, w64 (x5 + 1)))) (fun _ => none))
  (some (.brk y4))
/-- the model of beaconry/beaconryref.near -/
noncomputable def F17 (a0 : Int) (a1 : List (Int × Int)) (a2 : Int) : Option ((List Int)) :=
  Option.bind (whileM (F17_L0 a0 a1 a2) ([], 0)) fun o13 => Ctl.on o13 (fun y12 =>
  some y12) (fun _ => none)

/-- the model of beaconry/beaconryref.Without -/
noncomputable def F18 (a0 : List (Int × Int × Int)) (a1 : Int) : Option ((List (Int × Int × Int))) :=
  Option.bind (slI a0 0 a1) fun yq2_3_1 =>
  Option.bind (slI a0 (w64 (a1 + 1)) (a0.length : Int)) fun yq2_8_1 =>
  Option.bind (appl 24 ([] : List (Int × Int × Int)) yq2_3_1) fun (yq2_4_1 : List (Int × Int × Int)) =>
  Option.bind (appl 24 yq2_4_1 yq2_8_1) fun (yq2_9_1 : List (Int × Int × Int)) =>
  some yq2_9_1

noncomputable def F7_L3 (x108 : Int × Int × Int) (r134 : List Int) : ((List (Int × Int × Int)) × Int × Int) → Option (Ctl ((List (Int × Int × Int)) × Int × Int) ((List (Int × Int × Int)) × Int) (Unit)) := fun (y140, x141, x142) =>
  cond ((decide (x142 < (r134.length : Int))))
  (Option.bind (α := (List (Int × Int × Int)) × Int) (Option.bind (idx r134 x142) fun x161 =>
  cond ((x161 != x108.1))
  (Option.bind (F16 x108.2.1 x161 y140 x141) fun (r164, r165) =>
  some (r164, r165))
  (some (y140, x141)))
  fun (y158, x159) =>
  some (.nxt (y158, x159, w64 (x142 + 1))))
  (some (.brk (y140, x141)))
noncomputable def F7_L2 (a0 : Int) (a1 : List (Int × Int)) (a2 : Int) (a3 : List Int) : ((List (Int × Int × Int)) × (List Int) × (List Int) × (List Int) × Int × Int) → Option (Ctl ((List (Int × Int × Int)) × (List Int) × (List Int) × (List Int) × Int × Int) ((List (Int × Int × Int)) × (List Int) × (List Int) × (List Int) × Int) (Unit)) := fun (y58, y61, y62, y63, x64, x65) =>
  cond ((decide (x65 < (a3.length : Int))))
  (Option.bind (α := (List (Int × Int × Int)) × (List Int) × (List Int) × (List Int) × Int) (Option.bind (idx a3 x65) fun x98 =>
  cond (((decide (x98 < 0)) || (decide (x98 ≥ (y58.length : Int)))))
  (Option.bind (appl 8 y61 ([4] : List Int)) fun (y104 : List Int) =>
  some (y58, y104, y62, y63, x64))
  (Option.bind (idx y58 x98) fun x108 =>
  Option.bind (F18 y58 x98) fun r111 =>
  Option.bind (idx y62 x108.2.1) fun x116 =>
  Option.bind (idx y62 x108.2.1) fun x118 =>
  Option.bind (cond ((x108.2.1 != a2)) (Option.bind (idx (y62.set x108.2.1.toNat (w64 (x116 + 1))) x108.2.1) fun x123 =>
  some (x123 == 1)) (some false)) fun b121 =>
  Option.bind (α := (List (Int × Int × Int)) × (List Int) × Int) (cond (b121)
  (Option.bind (idx y63 x108.2.1) fun x132 =>
  Option.bind (F17 a0 a1 x108.2.1) fun r134 =>
  Option.bind (whileM (F7_L3 x108 r134) (r111, x64, 0)) fun o152 => Ctl.on o152 (fun (y150, x151) =>
  some (y150, y63.set x108.2.1.toNat x108.1, x151)) (fun _ => none))
  (some (r111, y63, x64)))
  fun (y127, y128, x129) =>
  Option.bind (α := Bool) (cond ((x108.2.1 != a2))
  (Option.bind (idx (y62.set x108.2.1.toNat (w64 (x116 + 1))) x108.2.1) fun xq169_8_1 =>
  Option.bind (F17 a0 a1 x108.2.1) fun rq169_14_1 =>
  some (xq169_8_1 == (rq169_14_1.length : Int)))
  (some false))
  fun b170 =>
  Option.bind (α := (List (Int × Int × Int)) × Int) (cond (b170)
  (Option.bind (idx y128 x108.2.1) fun x179 =>
  Option.bind (F16 x108.2.1 x179 y127 x129) fun (r181, r182) =>
  some (r181, r182))
  (some (y127, x129)))
  fun (y175, x176) =>
  Option.bind (appl 8 y61 ([0] : List Int)) fun (y188 : List Int) =>
  some (y175, y188, y62.set x108.2.1.toNat (w64 (x116 + 1)), y128, x176)))
  fun (y91, y92, y94, y95, x96) =>
  some (.nxt (y91, y92, y94, y95, x96, w64 (x65 + 1))))
  (some (.brk (y58, y61, y62, y63, x64)))
noncomputable def F7_L1 (a2 : Int) (r27 : List Int) : ((List (Int × Int × Int)) × Int × Int) → Option (Ctl ((List (Int × Int × Int)) × Int × Int) ((List (Int × Int × Int)) × Int) (Unit)) := fun (y33, x34, x35) =>
  cond ((decide (x35 < (r27.length : Int))))
  (Option.bind (idx r27 x35) fun x49 =>
  Option.bind (F16 a2 x49 y33 x34) fun (r51, r52) =>
  some (.nxt (r51, r52, w64 (x35 + 1))))
  (some (.brk (y33, x34)))
noncomputable def F7_L0 (a0 : Int) : ((List Int) × Int) → Option (Ctl ((List Int) × Int) ((List Int)) (Unit)) := fun (y11, x12) =>
  cond ((decide (x12 < a0)))
  (Option.bind (idx y11 x12) fun x20 =>
  some (.nxt (y11.set x12.toNat (-1), w64 (x12 + 1))))
  (some (.brk y11))
/-- the model of beaconry/beaconryref.Echo -/
noncomputable def F7 (a0 : Int) (a1 : List (Int × Int)) (a2 : Int) (a3 : List Int) : Option (((List Int) × (List Int) × Bool × Int)) :=
  Option.bind (mkl a0 8 0) fun (y4 : List Int) =>
  Option.bind (whileM (F7_L0 a0) (y4, 0)) fun o16 => Ctl.on o16 (fun y15 =>
  Option.bind (mkl a0 8 0) fun (y23 : List Int) =>
  Option.bind (F17 a0 a1 a2) fun r27 =>
  Option.bind (whileM (F7_L1 a2 r27) ([], 0, 0)) fun o45 => Ctl.on o45 (fun (y43, x44) =>
  Option.bind (whileM (F7_L2 a0 a1 a2 a3) (y43, [], y23, y15, x44, 0)) fun o85 => Ctl.on o85 (fun (y78, y81, y82, y83, x84) =>
  Option.bind (idx y82 a2) fun xq192_2_1 =>
  Option.bind (F17 a0 a1 a2) fun rq192_7_1 =>
  some (y81, y83, (xq192_2_1 == (rq192_7_1.length : Int)), x84)) (fun _ => none)) (fun _ => none)) (fun _ => none)

/-- the model of beaconry/beaconrylaw.EchoPlays -/
noncomputable def F3 (a0 : Int) (a1 : List (Int × Int)) (a2 : Int) (a3 : List Int) : Option (Bool) :=
  Option.bind (F4 a0 a1 a2 a3) fun (r1, r2) =>
  Option.bind (F5 a0 a1) fun r11 =>
  Option.bind (α := Int) (cond ((((r11 == 0) || (r11 == 2)) && (decide ((a3.length : Int) > 60))))
  (some 1)
  (some r11))
  fun x15 =>
  Option.bind (α := Int) (cond (((x15 == 0) && ((decide (a2 < 0)) || (decide (a2 ≥ a0)))))
  (some 2)
  (some x15))
  fun x20 =>
  Option.bind (cond ((x20 == 0)) (Option.bind (F6 a1) fun r26 =>
  some r26) (some false)) fun b24 =>
  Option.bind (α := Int) (cond (b24)
  (some 3)
  (some x20))
  fun x28 =>
  Option.bind (α := (List Int) × (List Int) × Bool × Int) (cond ((x28 == 0))
  (Option.bind (F7 a0 a1 a2 a3) fun r42 =>
  some (r42.1, r42.2.1, r42.2.2.1, r42.2.2.2))
  (some ([], [], false, 0)))
  fun (y34, y37, b38, x39) =>
  Option.bind (cond ((r2 == x28)) (Option.bind (F8 r1.1 y34) fun r53 =>
  some r53) (some false)) fun b51 =>
  Option.bind (cond (b51) (Option.bind (F9 r1.2.1 y37) fun r58 =>
  some r58) (some false)) fun b56 =>
  some ((b56 && (r1.2.2.1 == b38)) && (r1.2.2.2 == x39))
end Go.Proofs.Ytpeijfboikfcjaa
