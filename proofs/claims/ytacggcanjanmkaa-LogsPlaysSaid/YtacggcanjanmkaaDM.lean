/-
  Pure models of Go functions, written by a program (gen.py).
-/
import Derived.Test.YtacggcanjanmkaaBk35
import Derived.Test.YtacggcanjanmkaaAM
import Derived.Test.YtacggcanjanmkaaBM
import Derived.Test.YtacggcanjanmkaaCM
namespace Go.Proofs.Ytacggcanjanmkaa
open Go Go.Bk
set_option linter.unusedVariables false
@[reducible] def cTiiii (x : Int × Int × Int × Int) : List Value := [I x.1, I x.2.1, I x.2.2.1, I x.2.2.2]
/-- the model of (*beaconry/logs.group).do -/
noncomputable def F11 (a0 : ((List (Int × Int × Int × BitVec 32)) × List (Int × Int)) × List ((List (Int × Int)) × Int × (List Int) × List Int)) (a1 : Int × Int × Int × Int) : Option (Int × (((List (Int × Int × Int × BitVec 32)) × List (Int × Int)) × List ((List (Int × Int)) × Int × (List Int) × List Int))) :=
  cond (((decide (a1.1 < 1)) || (decide (a1.1 > 6))))
  (some (6, ((a0.1.1, a0.1.2), a0.2)))
  (Option.bind (F18 a1.2.1 (a0.2.length)) fun r12 =>
  Option.bind (cond (r12) (some true) (Option.bind (cond (((a1.1 == 2) || (a1.1 == 3))) (Option.bind (F18 a1.2.2.1 (a0.2.length)) fun r20 =>
  some (r20 || (a1.2.1 == a1.2.2.1))) (some false)) fun b18 =>
  some b18)) fun b15 =>
  cond (b15)
  (some (2, ((a0.1.1, a0.1.2), a0.2)))
  (cond ((a1.1 == 1))
  (Option.bind (F19 ((a0.1.1, a0.1.2), a0.2) a1.2.1) fun (r25, r26) =>
  some (r25, ((r26.1.1, r26.1.2), r26.2)))
  (cond ((a1.1 == 2))
  (Option.bind (F20 ((a0.1.1, a0.1.2), a0.2) a1.2.1 a1.2.2.1) fun (r34, r35) =>
  some (r34, ((r35.1.1, r35.1.2), r35.2)))
  (cond ((a1.1 == 3))
  (Option.bind (F21 ((a0.1.1, a0.1.2), a0.2) a1.2.1 a1.2.2.1) fun (r43, r44) =>
  some (r43, ((r44.1.1, r44.1.2), r44.2)))
  (cond ((a1.1 == 5))
  (Option.bind (F22 ((a0.1.1, a0.1.2), a0.2) a1.2.1) fun (r51, r52) =>
  some (r51, ((r52.1.1, r52.1.2), r52.2)))
  (cond ((a1.1 == 6))
  (Option.bind (F23 a0.1.1 a1.2.1) fun r59 =>
  Option.bind (idx a0.2 a1.2.1) fun (x62 : (List (Int × Int)) × Int × (List Int) × List Int) =>
  Option.bind (some (a0.2.set a1.2.1.toNat (x62.1, 0, x62.2.2.1, x62.2.2.2))) fun (y68 : List ((List (Int × Int)) × Int × (List Int) × List Int)) =>
  some (0, ((r59, a0.1.2), y68)))
  (Option.bind (idx a0.2 a1.2.1) fun (x70 : (List (Int × Int)) × Int × (List Int) × List Int) =>
  Option.bind (F13 a0.1.1 a0.1.2 a1.2.1) fun r72 =>
  cond ((r72 != 2))
  (some (5, ((a0.1.1, a0.1.2), a0.2)))
  (cond ((decide ((x70.1.length : Int) ≥ 30)))
  (some (1, ((a0.1.1, a0.1.2), a0.2)))
  (Option.bind (α := (List ((List (Int × Int)) × Int × (List Int) × List Int))) (Option.bind (F12 a0.1.1 a0.1.2 a1.2.1) fun rq76_11_1 =>
  Option.bind (appl 16 x70.1 ([(rq76_11_1, a1.2.2.2)] : List (Int × Int))) fun (yq76_16_4 : List (Int × Int)) =>
  Option.bind (some (a0.2.set a1.2.1.toNat (yq76_16_4, x70.2.1, x70.2.2.1, x70.2.2.2))) fun (yq76_19_3 : List ((List (Int × Int)) × Int × (List Int) × List Int)) =>
  some yq76_19_3)
  fun y77 =>
  some (0, ((a0.1.1, a0.1.2), y77)))))))))))

noncomputable def F4_L1 (y48 : List (Int × Int)) (y49 : List ((List (Int × Int)) × Int × (List Int) × List Int)) (y51 : List (Int × Int × Int × BitVec 32)) : ((List Int) × (List Int) × (List (List (Int × Int))) × (List Int) × Int) → Option (Ctl ((List Int) × (List Int) × (List (List (Int × Int))) × (List Int) × Int) ((List Int) × (List Int) × (List (List (Int × Int))) × (List Int)) (Unit)) := fun (y62, y65, y69, y72, x73) =>
  cond ((decide (x73 < (y49.length : Int))))
  (Option.bind (idx y49 x73) fun (x105 : (List (Int × Int)) × Int × (List Int) × List Int) =>
  Option.bind (α := (List Int) × (List Int)) (Option.bind (F12 y51 y48 x73) fun rq111_7_1 =>
  Option.bind (appl 8 y62 ([rq111_7_1] : List Int)) fun (yq111_9_1 : List Int) =>
  Option.bind (F13 y51 y48 x73) fun rq111_17_1 =>
  Option.bind (appl 8 y65 ([rq111_17_1] : List Int)) fun (yq111_19_1 : List Int) =>
  some (yq111_9_1, yq111_19_1))
  fun (y112, y114) =>
  Option.bind (α := (List (List (Int × Int))) × (List Int)) (Option.bind (F14 x105.1) fun rq117_4_1 =>
  Option.bind (appl 24 y69 [rq117_4_1]) fun (yq117_6_1 : List (List (Int × Int))) =>
  Option.bind (appl 8 y72 ([x105.2.1] : List Int)) fun (yq117_12_1 : List Int) =>
  some (yq117_6_1, yq117_12_1))
  fun (y118, y121) =>
  some (.nxt (y112, y114, y118, y121, w64 (x73 + 1))))
  (some (.brk (y62, y65, y69, y72)))
noncomputable def F4_L0 (a1 : List (Int × Int × Int × Int)) : ((List Int) × (List (Int × Int)) × (List ((List (Int × Int)) × Int × (List Int) × List Int)) × (List (Int × Int × Int × BitVec 32)) × Int) → Option (Ctl ((List Int) × (List (Int × Int)) × (List ((List (Int × Int)) × Int × (List Int) × List Int)) × (List (Int × Int × Int × BitVec 32)) × Int) ((List Int) × (List (Int × Int)) × (List ((List (Int × Int)) × Int × (List Int) × List Int)) × (List (Int × Int × Int × BitVec 32))) (Unit)) := fun (y25, y28, y29, y31, x32) =>
  cond ((decide (x32 < (a1.length : Int))))
  (Option.bind (idx a1 x32) fun x56 =>
  Option.bind (F11 ((y31, y28), y29) (x56.1, x56.2.1, x56.2.2.1, x56.2.2.2)) fun (rq59_4_1, rq59_4_2) =>
  Option.bind (appl 8 y25 ([rq59_4_1] : List Int)) fun (yq59_6_1 : List Int) =>
  some (.nxt (yq59_6_1, rq59_4_2.1.2, rq59_4_2.2, rq59_4_2.1.1, w64 (x32 + 1))))
  (some (.brk (y25, y28, y29, y31)))
/-- the model of beaconry/logs.Play -/
noncomputable def F4 (a0 : Int) (a1 : List (Int × Int × Int × Int)) : Option (((List Int) × (List Int) × (List Int) × (List (List (Int × Int))) × List Int) × Int) :=
  cond ((((decide (a0 < 1)) || (decide (a0 > 6))) || (decide ((a1.length : Int) > 60))))
  (some (([], [], [], [], []), 1))
  (Option.bind (α := (List ((List (Int × Int)) × Int × (List Int) × List Int)) × (List (Int × Int × Int × BitVec 32)) × (List (Int × Int))) (Option.bind (F10 a0) fun rq10_1_1 =>
  Option.bind (mkl a0 80 (([], 0, [], []) : (List (Int × Int)) × Int × (List Int) × List Int)) fun (yq10_3_1 : List ((List (Int × Int)) × Int × (List Int) × List Int)) =>
  some (yq10_3_1, rq10_1_1.1, rq10_1_1.2))
  fun (y14, y17, y20) =>
  Option.bind (whileM (F4_L0 a1) ([], y20, y14, y17, 0)) fun o52 => Ctl.on o52 (fun (y45, y48, y49, y51) =>
  Option.bind (whileM (F4_L1 y48 y49 y51) ([], [], [], [], 0)) fun o101 => Ctl.on o101 (fun (y90, y93, y97, y100) =>
  some ((y45, y90, y93, y97, y100), 0)) (fun _ => none)) (fun _ => none))
end Go.Proofs.Ytacggcanjanmkaa
