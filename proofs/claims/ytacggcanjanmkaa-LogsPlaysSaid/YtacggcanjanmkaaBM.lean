/-
  Pure models of Go functions, written by a program (gen.py).
-/
import Derived.Test.YtacggcanjanmkaaBk35
import Derived.Test.YtacggcanjanmkaaAM
namespace Go.Proofs.Ytacggcanjanmkaa
open Go Go.Bk
set_option linter.unusedVariables false
@[reducible] def nT48 : NT ((List (Int × Int)) × Int × (List Int) × List Int) := ⟨fun x c => [cv c 0, I x.2.1, cv c 1, cv c 2], fun x c => [OwnS 52 2 (cv c 0) (x.1.map cTii), OwnS 3 1 (cv c 1) (x.2.2.1.map cI), OwnS 3 1 (cv c 2) (x.2.2.2.map cI)]⟩
/-- the model of math/bits.Mul32 -/
noncomputable def F40 (a0 : BitVec 32) (a1 : BitVec 32) : Option ((BitVec 32) × (BitVec 32)) :=
  some (BitVec.ofInt 32 (shr64 (u64 ((a0.toNat : Int) * (a1.toNat : Int))) (32 : Int).toNat), BitVec.ofInt 32 (u64 ((a0.toNat : Int) * (a1.toNat : Int))))

/-- the model of math/bits.Mul64 -/
noncomputable def F41 (a0 : Int) (a1 : Int) : Option (Int × Int) :=
  some (u64 ((u64 ((u64 ((shr64 a0 (32 : Int).toNat) * (shr64 a1 (32 : Int).toNat))) + (shr64 (u64 ((u64 ((shr64 a0 (32 : Int).toNat) * (and64 a1 4294967295))) + (shr64 (u64 ((and64 a0 4294967295) * (and64 a1 4294967295))) (32 : Int).toNat))) (32 : Int).toNat))) + (shr64 (u64 ((and64 (u64 ((u64 ((shr64 a0 (32 : Int).toNat) * (and64 a1 4294967295))) + (shr64 (u64 ((and64 a0 4294967295) * (and64 a1 4294967295))) (32 : Int).toNat))) 4294967295) + (u64 ((and64 a0 4294967295) * (shr64 a1 (32 : Int).toNat))))) (32 : Int).toNat)), u64 (a0 * a1))

/-- the model of math/bits.Mul -/
noncomputable def F39 (a0 : Int) (a1 : Int) : Option (Int × Int) :=
  cond (false)
  (Option.bind (F40 (BitVec.ofInt 32 a0) (BitVec.ofInt 32 a1)) fun (r2, r3) =>
  some ((r2.toNat : Int), (r3.toNat : Int)))
  (Option.bind (F41 a0 a1) fun (r5, r6) =>
  some (r5, r6))

noncomputable def F35_L0 : ((List Int) × Int) → Option (Ctl ((List Int) × Int) ((List Int)) (Unit)) := fun (y12, x13) =>
  cond ((decide (x13 < (y12.length : Int))))
  (Option.bind (α := (List Int) × Int) (Option.bind (slI y12 x13 (y12.length : Int)) fun yq21_3_1 =>
  Option.bind (slI y12 0 x13) fun yq21_6_1 =>
  some ((cpy y12 x13.toNat yq21_6_1), w64 (x13 + ((min yq21_6_1.length (y12.length - x13.toNat) : Nat) : Int))))
  fun (y22, x23) =>
  some (.nxt (y22, x23)))
  (some (.brk y12))
/-- the model of slices.Repeat[[]int,int] -/
noncomputable def F35 (a0 : List Int) (a1 : Int) : Option ((List Int)) :=
  cond ((decide (a1 < 0)))
  (none)
  (Option.bind (F39 (u64 (a0.length : Int)) (u64 a1)) fun (r3, r4) =>
  cond (((decide (r3 > 0)) || (decide (r4 > 9223372036854775807))))
  (none)
  (Option.bind (mkl (w64 r4) 8 0) fun (y8 : List Int) =>
  Option.bind (whileM (F35_L0) ((cpy y8 (0 : Int).toNat a0), ((min a0.length (y8.length - (0 : Int).toNat) : Nat) : Int))) fun o17 => Ctl.on o17 (fun y16 =>
  some y16) (fun _ => none)))

/-- the model of (*beaconry/logs.group).lead -/
noncomputable def F29 (a0 : List ((List (Int × Int)) × Int × (List Int) × List Int)) (a1 : Int) : Option ((List ((List (Int × Int)) × Int × (List Int) × List Int))) :=
  Option.bind (mkl (a0.length : Int) 8 0) fun (yq3_10_1 : List Int) =>
  Option.bind (idx a0 a1) fun (xq3_11_1 : (List (Int × Int)) × Int × (List Int) × List Int) =>
  Option.bind (some (a0.set a1.toNat (xq3_11_1.1, xq3_11_1.2.1, yq3_10_1, xq3_11_1.2.2.2))) fun (yq3_13_6 : List ((List (Int × Int)) × Int × (List Int) × List Int)) =>
  Option.bind (idx yq3_13_6 a1) fun (xq4_10_1 : (List (Int × Int)) × Int × (List Int) × List Int) =>
  Option.bind (F35 ([(xq4_10_1.1.length : Int)] : List Int) (yq3_13_6.length : Int)) fun rq4_20_1 =>
  Option.bind (idx yq3_13_6 a1) fun (xq4_21_1 : (List (Int × Int)) × Int × (List Int) × List Int) =>
  Option.bind (some (yq3_13_6.set a1.toNat (xq4_21_1.1, xq4_21_1.2.1, xq4_21_1.2.2.1, rq4_20_1))) fun (yq4_23_6 : List ((List (Int × Int)) × Int × (List Int) × List Int)) =>
  some yq4_23_6

/-- the model of (*beaconry/logs.group).stand -/
noncomputable def F19 (a0 : ((List (Int × Int × Int × BitVec 32)) × List (Int × Int)) × List ((List (Int × Int)) × Int × (List Int) × List Int)) (a1 : Int) : Option (Int × (((List (Int × Int × Int × BitVec 32)) × List (Int × Int)) × List ((List (Int × Int)) × Int × (List Int) × List Int))) :=
  Option.bind (F28 (a0.1.1, a0.1.2) a1) fun (r7, r8) =>
  Option.bind (cond ((r7 == 0)) (Option.bind (F13 r8.1 r8.2 a1) fun r16 =>
  some (r16 == 2)) (some false)) fun b14 =>
  Option.bind (α := (List ((List (Int × Int)) × Int × (List Int) × List Int))) (cond (b14)
  (Option.bind (F29 a0.2 a1) fun r22 =>
  some r22)
  (some a0.2))
  fun y18 =>
  some (r7, ((r8.1, r8.2), y18))

/-- the model of (*beaconry/logs.one).last -/
noncomputable def F37 (a0 : List (Int × Int)) : Option (Int × Int) :=
  cond (((a0.length : Int) == 0))
  (some (0, 0))
  (Option.bind (idx a0 (w64 ((a0.length : Int) - 1))) fun x3 =>
  some (x3.1, (a0.length : Int)))

/-- the model of (*beaconry/logs.one).good -/
noncomputable def F31 (a0 : List (Int × Int)) (a1 : List (Int × Int)) : Option (Bool) :=
  Option.bind (F37 a0) fun (r3, r4) =>
  Option.bind (F37 a1) fun (r6, r7) =>
  some ((decide (r3 > r6)) || ((r3 == r6) && (decide (r4 ≥ r7))))

/-- the model of (*beaconry/logs.group).vote -/
noncomputable def F20 (a0 : ((List (Int × Int × Int × BitVec 32)) × List (Int × Int)) × List ((List (Int × Int)) × Int × (List Int) × List Int)) (a1 : Int) (a2 : Int) : Option (Int × (((List (Int × Int × Int × BitVec 32)) × List (Int × Int)) × List ((List (Int × Int)) × Int × (List Int) × List Int))) :=
  Option.bind (F13 a0.1.1 a0.1.2 a2) fun r7 =>
  Option.bind (idx a0.2 a2) fun (xq9_11_1 : (List (Int × Int)) × Int × (List Int) × List Int) =>
  Option.bind (idx a0.2 a1) fun (xq9_17_1 : (List (Int × Int)) × Int × (List Int) × List Int) =>
  Option.bind (F31 xq9_11_1.1 xq9_17_1.1) fun rq9_18_1 =>
  Option.bind (F30 (a0.1.1, a0.1.2) a1 a2 rq9_18_1) fun (rq9_19_1, rq9_19_2) =>
  Option.bind (cond ((!(r7 == 2))) (Option.bind (F13 rq9_19_2.1 rq9_19_2.2 a2) fun r13 =>
  some (r13 == 2)) (some false)) fun b11 =>
  Option.bind (α := (List ((List (Int × Int)) × Int × (List Int) × List Int))) (cond (b11)
  (Option.bind (F29 a0.2 a2) fun r19 =>
  some r19)
  (some a0.2))
  fun y15 =>
  some (rq9_19_1, ((rq9_19_2.1, rq9_19_2.2), y15))

/-- the model of (*beaconry/logs.group).do$1 -/
noncomputable def F18 (a0 : Int) (a1_1 : Nat) : Option (Bool) :=
  some ((decide (a0 < 0)) || (decide (a0 ≥ (a1_1 : Int))))
end Go.Proofs.Ytacggcanjanmkaa
