/-
  Pure models of Go functions, written by a program (gen.py).
-/
import Derived.Test.YthfkdepcnhhepaaBk35
import Derived.Test.YthfkdepcnhhepaaKM
namespace Go.Proofs.Ythfkdepcnhhepaa
open Go Go.Bk
set_option linter.unusedVariables false
@[reducible] def cTii (x : Int × Int) : List Value := [I x.1, I x.2]
@[reducible] def nT168 : NT (((Int × Int) → Option Bool) × ((Int × Int) → Option Bool) × (List Int) × List Int) := ⟨fun x c => [.map (some (mv (cv c 0))), .map (some (mv (cv c 1))), cv c 2, cv c 3], fun x c => [MF (fun k : Int × Int => .agg #[I k.1, I k.2]) (fun x : Bool => .bool x) (mv (cv c 0)) x.1, MF (fun k : Int × Int => .agg #[I k.1, I k.2]) (fun x : Bool => .bool x) (mv (cv c 1)) x.2.1, OwnS 3 1 (cv c 2) (x.2.2.1.map cI), OwnS 3 1 (cv c 3) (x.2.2.2.map cI)]⟩
/-- the model of (*beaconry/merge.all).do$1 -/
noncomputable def F101 (a0 : Int) (a1_0 : Nat) : Option (Bool) :=
  some ((decide (a0 < 0)) || (decide (a0 ≥ (a1_0 : Int))))

noncomputable def F69_L0 (a0 : ((Int × Int) → Option Bool) × ((Int × Int) → Option Bool)) (a1 : Int) : (Int × Int) → Bool → (List (Int × Int)) → Option (Ctl ((List (Int × Int))) Unit (Unit)) := fun k6 v7 y11 =>
  cond (((k6.1 == a1) && (!((a0.2 (k6.1, k6.2)).getD false))))
  (Option.bind (appl 16 y11 ([(k6.1, k6.2)] : List (Int × Int))) fun (y25 : List (Int × Int)) =>
  some (.nxt y25))
  (some (.nxt y11))
/-- the model of (*beaconry/merge.replica).has -/
noncomputable def F69 (a0 : ((Int × Int) → Option Bool) × ((Int × Int) → Option Bool)) (a1 : Int) : Option ((List (Int × Int))) :=
  Option.bind (rangeQ List.Perm a0.1 (F69_L0 a0 a1) []) fun o15 =>
  some o15

noncomputable def F102_L2 (a0 : ((Int × Int) → Option Bool) × ((Int × Int) → Option Bool) × (List Int) × List Int) (a1 : ((Int × Int) → Option Bool) × ((Int × Int) → Option Bool) × (List Int) × List Int) : ((List Int) × (List Int) × Int) → Option (Ctl ((List Int) × (List Int) × Int) ((List Int) × (List Int)) (Unit)) := fun (y39, y40, x41) =>
  cond ((decide (x41 < (a0.2.2.1.length : Int))))
  (Option.bind (α := (List Int) × (List Int)) (Option.bind (idx y39 x41) fun xq51_15_1 =>
  Option.bind (idx a1.2.2.1 x41) fun xq51_22_1 =>
  Option.bind (idx y40 x41) fun xq51_30_1 =>
  Option.bind (idx a1.2.2.2 x41) fun xq51_37_1 =>
  Option.bind (idx y39 x41) fun xq51_40_1 =>
  Option.bind (idx y40 x41) fun xq51_42_1 =>
  some (y39.set x41.toNat (mx xq51_15_1 xq51_22_1), y40.set x41.toNat (mx xq51_30_1 xq51_37_1)))
  fun (y52, y53) =>
  some (.nxt (y52, y53, w64 (x41 + 1))))
  (some (.brk (y39, y40)))
noncomputable def F102_L1 : (Int × Int) → Bool → ((Int × Int) → Option Bool) → Option (Ctl (((Int × Int) → Option Bool)) Unit (Unit)) := fun k28 v29 y31 =>
  some (.nxt (mupd y31 (k28.1, k28.2) true))
noncomputable def F102_L0 : (Int × Int) → Bool → ((Int × Int) → Option Bool) → Option (Ctl (((Int × Int) → Option Bool)) Unit (Unit)) := fun k15 v16 y18 =>
  some (.nxt (mupd y18 (k15.1, k15.2) true))
/-- the model of (*beaconry/merge.replica).join -/
noncomputable def F102 (a0 : ((Int × Int) → Option Bool) × ((Int × Int) → Option Bool) × (List Int) × List Int) (a1 : ((Int × Int) → Option Bool) × ((Int × Int) → Option Bool) × (List Int) × List Int) : Option ((((Int × Int) → Option Bool) × ((Int × Int) → Option Bool) × (List Int) × List Int)) :=
  Option.bind (rangeM a1.1 (F102_L0) a0.1) fun o20 => Ctl.onN o20 (fun y18 =>
  Option.bind (rangeM a1.2.1 (F102_L1) a0.2.1) fun o33 => Ctl.onN o33 (fun y31 =>
  Option.bind (whileM (F102_L2 a0 a1) (a0.2.2.1, a0.2.2.2, 0)) fun o47 => Ctl.on o47 (fun (y45, y46) =>
  some (y18, y31, y45, y46)) (fun _ => none)) (fun _ => none)) (fun _ => none)

noncomputable def F102s_L2 (a0 : ((Int × Int) → Option Bool) × ((Int × Int) → Option Bool) × (List Int) × List Int) : ((List Int) × (List Int) × Int) → Option (Ctl ((List Int) × (List Int) × Int) ((List Int) × (List Int)) (Unit)) := fun (y33, y34, x35) =>
  cond ((decide (x35 < (a0.2.2.1.length : Int))))
  (Option.bind (α := (List Int) × (List Int)) (Option.bind (idx y33 x35) fun xq45_15_1 =>
  Option.bind (idx y33 x35) fun xq45_22_1 =>
  Option.bind (idx y34 x35) fun xq45_30_1 =>
  Option.bind (idx y34 x35) fun xq45_37_1 =>
  Option.bind (idx y33 x35) fun xq45_40_1 =>
  Option.bind (idx y34 x35) fun xq45_42_1 =>
  some (y33.set x35.toNat (mx xq45_15_1 xq45_22_1), y34.set x35.toNat (mx xq45_30_1 xq45_37_1)))
  fun (y46, y47) =>
  some (.nxt (y46, y47, w64 (x35 + 1))))
  (some (.brk (y33, y34)))
noncomputable def F102s_L1 (a0 : ((Int × Int) → Option Bool) × ((Int × Int) → Option Bool) × (List Int) × List Int) : (Int × Int) → Bool → Unit → Option (Ctl (Unit) Unit (Unit)) := fun k23 v24 _ =>
  Option.bind (msame a0.2.1 (k23.1, k23.2) true) fun _ =>
  some (.nxt ())
noncomputable def F102s_L0 (a0 : ((Int × Int) → Option Bool) × ((Int × Int) → Option Bool) × (List Int) × List Int) : (Int × Int) → Bool → Unit → Option (Ctl (Unit) Unit (Unit)) := fun k11 v12 _ =>
  Option.bind (msame a0.1 (k11.1, k11.2) true) fun _ =>
  some (.nxt ())
/-- the model of (*beaconry/merge.replica).join -/
noncomputable def F102s (a0 : ((Int × Int) → Option Bool) × ((Int × Int) → Option Bool) × (List Int) × List Int) : Option ((((Int × Int) → Option Bool) × ((Int × Int) → Option Bool) × (List Int) × List Int)) :=
  Option.bind (rangeM a0.1 (F102s_L0 a0) ()) fun o14 => Ctl.onN o14 (fun _ =>
  Option.bind (rangeM a0.2.1 (F102s_L1 a0) ()) fun o26 => Ctl.onN o26 (fun _ =>
  Option.bind (whileM (F102s_L2 a0) (a0.2.2.1, a0.2.2.2, 0)) fun o41 => Ctl.on o41 (fun (y39, y40) =>
  some (a0.1, a0.2.1, y39, y40)) (fun _ => none)) (fun _ => none)) (fun _ => none)

noncomputable def F68_L0 (a1 : Int × Int × Int × Int) (y42 : List (Int × Int)) : ((List (((Int × Int) → Option Bool) × ((Int × Int) → Option Bool) × (List Int) × List Int)) × Int) → Option (Ctl ((List (((Int × Int) → Option Bool) × ((Int × Int) → Option Bool) × (List Int) × List Int)) × Int) ((List (((Int × Int) → Option Bool) × ((Int × Int) → Option Bool) × (List Int) × List Int))) (Unit)) := fun (y45, x47) =>
  cond ((decide (x47 < (y42.length : Int))))
  (Option.bind (idx y42 x47) fun x57 =>
  Option.bind (idx y45 a1.2.1) fun x60 =>
  Option.bind (some (y45.set a1.2.1.toNat (x60.1, mupd x60.2.1 (x57.1, x57.2) true, x60.2.2.1, x60.2.2.2))) fun (y69 : List (((Int × Int) → Option Bool) × ((Int × Int) → Option Bool) × (List Int) × List Int)) =>
  some (.nxt (y69, w64 (x47 + 1))))
  (some (.brk y45))
/-- the model of (*beaconry/merge.all).do -/
noncomputable def F68 (a0 : (List (((Int × Int) → Option Bool) × ((Int × Int) → Option Bool) × (List Int) × List Int)) × Int) (a1 : Int × Int × Int × Int) : Option (Int × ((List (((Int × Int) → Option Bool) × ((Int × Int) → Option Bool) × (List Int) × List Int)) × Int)) :=
  cond (((decide (a1.1 < 1)) || (decide (a1.1 > 4))))
  (some (6, (a0.1, a0.2)))
  (Option.bind (F101 a1.2.1 (a0.1.length)) fun r7 =>
  Option.bind (cond (r7) (some true) (Option.bind (cond ((a1.1 == 4)) (Option.bind (F101 a1.2.2.1 (a0.1.length)) fun r15 =>
  some r15) (some false)) fun b13 =>
  some b13)) fun b10 =>
  cond (b10)
  (some (2, (a0.1, a0.2)))
  (cond (((decide (a1.1 ≤ 2)) && ((decide (a1.2.2.2 < 0)) || (decide (a1.2.2.2 > 8)))))
  (some (4, (a0.1, a0.2)))
  (Option.bind (idx a0.1 a1.2.1) fun (x21 : ((Int × Int) → Option Bool) × ((Int × Int) → Option Bool) × (List Int) × List Int) =>
  cond ((a1.1 == 1))
  (Option.bind (some (a0.1.set a1.2.1.toNat (mupd x21.1 (a1.2.2.2, w64 (a0.2 + 1)) true, x21.2.1, x21.2.2.1, x21.2.2.2))) fun (y31 : List (((Int × Int) → Option Bool) × ((Int × Int) → Option Bool) × (List Int) × List Int)) =>
  some (0, (y31, w64 (a0.2 + 1))))
  (cond ((a1.1 == 2))
  (Option.bind (F69 (x21.1, x21.2.1) a1.2.2.2) fun r38 =>
  permK r38 fun (y42 : List (Int × Int)) =>
  cond (((y42.length : Int) == 0))
  (some (5, (a0.1, a0.2)))
  (Option.bind (whileM (F68_L0 a1 y42) (a0.1, 0)) fun o53 => Ctl.on o53 (fun y51 =>
  some (0, (y51, a0.2))) (fun _ => none)))
  (cond ((a1.1 == 3))
  (cond ((a1.2.2.2 == 1))
  (Option.bind (idx x21.2.2.1 a1.2.1) fun x75 =>
  Option.bind (idx x21.2.2.1 a1.2.1) fun x77 =>
  Option.bind (some (a0.1.set a1.2.1.toNat (x21.1, x21.2.1, x21.2.2.1.set a1.2.1.toNat (w64 (x75 + 1)), x21.2.2.2))) fun (y84 : List (((Int × Int) → Option Bool) × ((Int × Int) → Option Bool) × (List Int) × List Int)) =>
  some (0, (y84, a0.2)))
  (cond ((a1.2.2.2 == (-1)))
  (Option.bind (idx x21.2.2.2 a1.2.1) fun x89 =>
  Option.bind (idx x21.2.2.2 a1.2.1) fun x91 =>
  Option.bind (some (a0.1.set a1.2.1.toNat (x21.1, x21.2.1, x21.2.2.1, x21.2.2.2.set a1.2.1.toNat (w64 (x89 + 1))))) fun (y98 : List (((Int × Int) → Option Bool) × ((Int × Int) → Option Bool) × (List Int) × List Int)) =>
  some (0, (y98, a0.2)))
  (some (4, (a0.1, a0.2)))))
  (Option.bind (α := (List (((Int × Int) → Option Bool) × ((Int × Int) → Option Bool) × (List Int) × List Int))) (cond ((a1.1 == 4))
  (Option.bind (idx a0.1 a1.2.2.1) fun (x104 : ((Int × Int) → Option Bool) × ((Int × Int) → Option Bool) × (List Int) × List Int) =>
  cond (decide (a1.2.1 = a1.2.2.1))
  (Option.bind (F102s (x21.1, x21.2.1, x21.2.2.1, x21.2.2.2)) fun r111 =>
  Option.bind (some (a0.1.set a1.2.1.toNat (r111.1, r111.2.1, r111.2.2.1, r111.2.2.2))) fun (y122 : List (((Int × Int) → Option Bool) × ((Int × Int) → Option Bool) × (List Int) × List Int)) =>
  some y122)
  (Option.bind (F102 (x21.1, x21.2.1, x21.2.2.1, x21.2.2.2) (x104.1, x104.2.1, x104.2.2.1, x104.2.2.2)) fun r133 =>
  Option.bind (some (a0.1.set a1.2.1.toNat (r133.1, r133.2.1, r133.2.2.1, r133.2.2.2))) fun (y143 : List (((Int × Int) → Option Bool) × ((Int × Int) → Option Bool) × (List Int) × List Int)) =>
  some y143))
  (some a0.1))
  fun y100 =>
  some (0, (y100, a0.2))))))))

/-- the model of slices.Clip[[]int,int] -/
noncomputable def F70 (a0 : List Int) : Option ((List Int)) :=
  Option.bind (slI a0 0 (a0.length : Int)) fun y3 =>
  some y3

noncomputable def F36_L4 (a0 : Int) (x88 : ((Int × Int) → Option Bool) × ((Int × Int) → Option Bool) × (List Int) × List Int) : (Int × Int) → Option (Ctl (Int × Int) (Int) (Unit)) := fun (x129, x130) =>
  cond ((decide (x130 < a0)))
  (Option.bind (idx x88.2.2.1 x130) fun x138 =>
  Option.bind (idx x88.2.2.2 x130) fun x140 =>
  some (.nxt (w64 (x129 + (w64 (x138 - x140))), w64 (x130 + 1))))
  (some (.brk x129))
noncomputable def F36_L3 (x88 : ((Int × Int) → Option Bool) × ((Int × Int) → Option Bool) × (List Int) × List Int) : ((List Int) × Int) → Option (Ctl ((List Int) × Int) ((List Int)) (Unit)) := fun (y97, x98) =>
  cond ((decide (x98 < 9)))
  (Option.bind (α := (List Int)) (Option.bind (F69 (x88.1, x88.2.1) x98) fun r117 =>
  permK r117 fun (y121 : List (Int × Int)) =>
  cond ((decide ((y121.length : Int) > 0)))
  (Option.bind (appl 8 y97 ([x98] : List Int)) fun (y126 : List Int) =>
  some y126)
  (some y97))
  fun y110 =>
  some (.nxt (y110, w64 (x98 + 1))))
  (some (.brk y97))
noncomputable def F36_L2 (a0 : Int) (y50 : List (((Int × Int) → Option Bool) × ((Int × Int) → Option Bool) × (List Int) × List Int)) : ((List (List Int)) × (List Int) × Int) → Option (Ctl ((List (List Int)) × (List Int) × Int) ((List (List Int)) × (List Int)) (Unit)) := fun (y64, y67, x68) =>
  cond ((decide (x68 < (y50.length : Int))))
  (Option.bind (idx y50 x68) fun (x88 : ((Int × Int) → Option Bool) × ((Int × Int) → Option Bool) × (List Int) × List Int) =>
  Option.bind (whileM (F36_L3 x88) ([], 0)) fun o106 => Ctl.on o106 (fun y105 =>
  Option.bind (whileM (F36_L4 a0 x88) (0, 0)) fun o134 => Ctl.on o134 (fun x133 =>
  Option.bind (α := (List (List Int)) × (List Int)) (Option.bind (F70 y105) fun rq142_3_1 =>
  Option.bind (appl 24 y64 [rq142_3_1]) fun (yq142_5_1 : List (List Int)) =>
  Option.bind (appl 8 y67 ([x133] : List Int)) fun (yq142_10_1 : List Int) =>
  some (yq142_5_1, yq142_10_1))
  fun (y143, y146) =>
  some (.nxt (y143, y146, w64 (x68 + 1)))) (fun _ => none)) (fun _ => none))
  (some (.brk (y64, y67)))
noncomputable def F36_L1 (a1 : List (Int × Int × Int × Int)) : ((List Int) × (List (((Int × Int) → Option Bool) × ((Int × Int) → Option Bool) × (List Int) × List Int)) × Int × Int) → Option (Ctl ((List Int) × (List (((Int × Int) → Option Bool) × ((Int × Int) → Option Bool) × (List Int) × List Int)) × Int × Int) ((List Int) × (List (((Int × Int) → Option Bool) × ((Int × Int) → Option Bool) × (List Int) × List Int)) × Int) (Unit)) := fun (y35, y36, x38, x39) =>
  cond ((decide (x39 < (a1.length : Int))))
  (Option.bind (idx a1 x39) fun x57 =>
  Option.bind (F68 (y36, x38) (x57.1, x57.2.1, x57.2.2.1, x57.2.2.2)) fun (rq60_4_1, rq60_4_2) =>
  Option.bind (appl 8 y35 ([rq60_4_1] : List Int)) fun (yq60_6_1 : List Int) =>
  some (.nxt (yq60_6_1, rq60_4_2.1, rq60_4_2.2, w64 (x39 + 1))))
  (some (.brk (y35, y36, x38)))
noncomputable def F36_L0 (a0 : Int) : ((List (((Int × Int) → Option Bool) × ((Int × Int) → Option Bool) × (List Int) × List Int)) × Int) → Option (Ctl ((List (((Int × Int) → Option Bool) × ((Int × Int) → Option Bool) × (List Int) × List Int)) × Int) ((List (((Int × Int) → Option Bool) × ((Int × Int) → Option Bool) × (List Int) × List Int))) (Unit)) := fun (y12, x13) =>
  cond ((decide (x13 < a0)))
  (Option.bind (α := (List (((Int × Int) → Option Bool) × ((Int × Int) → Option Bool) × (List Int) × List Int))) (Option.bind (mkl a0 8 0) fun (yq27_8_1 : List Int) =>
  Option.bind (mkl a0 8 0) fun (yq27_10_1 : List Int) =>
  Option.bind (appl 64 y12 [((mzero : (Int × Int) → Option Bool), (mzero : (Int × Int) → Option Bool), yq27_8_1, yq27_10_1)]) fun (yq27_13_3 : List (((Int × Int) → Option Bool) × ((Int × Int) → Option Bool) × (List Int) × List Int)) =>
  some yq27_13_3)
  fun y28 =>
  some (.nxt (y28, w64 (x13 + 1))))
  (some (.brk y12))
/-- the model of beaconry/merge.Play -/
noncomputable def F36 (a0 : Int) (a1 : List (Int × Int × Int × Int)) : Option (((List Int) × (List (List Int)) × List Int) × Int) :=
  cond ((((decide (a0 < 1)) || (decide (a0 > 6))) || (decide ((a1.length : Int) > 60))))
  (some (([], [], []), 1))
  (Option.bind (whileM (F36_L0 a0) ([], 0)) fun o23 => Ctl.on o23 (fun y22 =>
  Option.bind (whileM (F36_L1 a1) ([], y22, 0, 0)) fun o53 => Ctl.on o53 (fun (y49, y50, x52) =>
  Option.bind (whileM (F36_L2 a0 y50) ([], [], 0)) fun o84 => Ctl.on o84 (fun (y80, y83) =>
  some ((y49, y80, y83), 0)) (fun _ => none)) (fun _ => none)) (fun _ => none))
end Go.Proofs.Ythfkdepcnhhepaa
