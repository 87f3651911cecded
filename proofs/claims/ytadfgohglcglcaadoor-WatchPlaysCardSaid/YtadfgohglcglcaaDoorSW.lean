/-
  The walks: each Go function returns what its model says. Written by a program (gen.py).
-/
import Derived.Test.YtadfgohglcglcaaDoorProg
import Derived.KernelRfl
import Derived.Test.YtadfgohglcglcaaDoorSM
namespace Go.Proofs.YtadfgohglcglcaaDoor
open Go Go.Bk
set_option linter.unusedVariables false
set_option linter.unnecessarySimpa false
theorem kunderlying_9_some_string : Tryd.prog.underlying 9 = some .string := by kernel_rfl
theorem kcallB_56_true : callB Tryd.prog 56 = true := by kernel_rfl
theorem kcallB_50_true : callB Tryd.prog 50 = true := by kernel_rfl

set_option maxRecDepth 100000 in
theorem C56 {B : World} {L : List HP} {a0 : ByteArray} {a1 : ByteArray} {r0 : Bool} (hm : F56 a0 a1 = some r0) {w : World} (st : St B L w) : Calls Tryd.prog 56 #[.string a0, .string a1] w (fun e w' => (e = .returned (.bool r0) ∧ St B (L) w')) := by
  refine calls_of (N := 18) (L := L) (args := [.string a0, .string a1]) Tryd.func56 rfl rfl rfl ?_ st
  dsimp only [F56] at hm
  refine TC.k ?_
  refine TC.region ?_
  refine TO.s rfl rfl rfl (StepS.assign rfl) ?_
  refine TO.code ?_
  refine TC.k ?_
  refine TC.region ?_
  refine TO.s rfl rfl rfl (StepS.move rfl) ?_
  refine TO.s rfl rfl rfl (StepS.lenS kunderlying_9_some_string rfl rfl) ?_
  refine TO.s rfl rfl rfl (StepS.move rfl) ?_
  refine TO.s rfl rfl rfl (StepS.lenS kunderlying_9_some_string rfl rfl) ?_
  refine TO.s rfl rfl rfl (StepS.cmp rfl rfl rfl) ?_
  refine TO.s rfl rfl rfl (StepS.move rfl) ?_
  obtain ⟨b2, hj3, hm⟩ := bind_some hm
  refine TO.mid1 7 17 (.bool b2) ?_ ?_
  · refine bcase ((decide ((a0.size : Int) ≥ (a1.size : Int)))) (fun hb1 => ?_) (fun hb1 => ?_)
    · replace hj3 := cond_t hb1 hj3
      refine TO.sw rfl rfl rfl hb1 rfl rfl (StepS.move rfl) ?_
      refine TO.sw rfl rfl rfl hb1 rfl rfl (StepS.move rfl) ?_
      refine TO.sw rfl rfl rfl hb1 rfl rfl (StepS.lenS kunderlying_9_some_string rfl rfl) ?_
      obtain ⟨x4, hx5, hj3⟩ := bind_some hj3
      refine TO.sw rfl rfl rfl hb1 rfl rfl (StepS.slcS kunderlying_9_some_string rfl rfl rfl hx5) ?_
      refine TO.sw rfl rfl rfl hb1 rfl rfl (StepS.move rfl) ?_
      refine TO.sw rfl rfl rfl hb1 rfl rfl (StepS.cmpS kunderlying_9_some_string rfl rfl rfl) ?_
      cases hj3
      refine TO.s rfl rfl rfl (StepS.pickT rfl hb1 rfl) ?_
      exact TO.up1 7 0 rfl rfl rfl rfl
    · replace hj3 := cond_f hb1 hj3
      cases hj3
      refine TO.skip rfl rfl rfl (skipF hb1) rfl rfl ?_
      refine TO.skip rfl rfl rfl (skipF hb1) rfl rfl ?_
      refine TO.skip rfl rfl rfl (skipF hb1) rfl rfl ?_
      refine TO.skip rfl rfl rfl (skipF hb1) rfl rfl ?_
      refine TO.skip rfl rfl rfl (skipF hb1) rfl rfl ?_
      refine TO.skip rfl rfl rfl (skipF hb1) rfl rfl ?_
      refine TO.s rfl rfl rfl (StepS.pickF rfl hb1 rfl) ?_
      exact TO.up1 7 0 rfl rfl rfl rfl
  refine TO.s rfl rfl rfl (StepS.assign rfl) ?_
  refine TO.code ?_
  cases hm
  refine TC.ret fun a w e s => ?_
  refine FRet.mk1 (P := Tryd.prog) (fn := Tryd.f56) (t := 4) e rfl rfl ?_
  exact ⟨rfl, s.mono fun _ => Sat.dropN 0⟩

set_option maxRecDepth 100000 in
theorem C50 {B : World} {L : List HP} {a0 : ByteArray} {a1 : ByteArray} {r0 : ByteArray} {r1 : Bool} (hm : F50 a0 a1 = some (r0, r1)) {w : World} (st : St B L w) : Calls Tryd.prog 50 #[.string a0, .string a1] w (fun e w' => (e = .returned (.tuple #[.string r0, .bool r1]) ∧ St B (L) w')) := by
  refine calls_of (N := 15) (L := L) (args := [.string a0, .string a1]) Tryd.func50 rfl rfl rfl ?_ st
  dsimp only [F50] at hm
  refine TC.k ?_
  refine TC.region ?_
  refine TO.s rfl rfl rfl (StepS.assign rfl) ?_
  refine TO.s rfl rfl rfl (StepS.assign rfl) ?_
  refine TO.code ?_
  refine TC.k ?_
  refine TC.k ?_
  refine TC.region ?_
  refine TO.s rfl rfl rfl (StepS.move rfl) ?_
  refine TO.s rfl rfl rfl (StepS.move rfl) ?_
  obtain ⟨r1, hc2, hm⟩ := bind_some hm
  refine TO.q rfl rfl rfl (StepQ.call kcallB_56_true rfl rfl (fun _ st => C56  hc2 st)) ?_
  refine TO.s rfl rfl rfl (StepS.not rfl) ?_
  refine TO.code ?_
  refine TC.cond rfl (fun hc3 => ?_) (fun hc3 => ?_)
  · replace hm := cond_t hc3 hm
    refine TC.k ?_
    refine TC.region ?_
    refine TO.s rfl rfl rfl (StepS.move rfl) ?_
    refine TO.s rfl rfl rfl (StepS.assign rfl) ?_
    refine TO.s rfl rfl rfl (StepS.assign rfl) ?_
    refine TO.code ?_
    cases hm
    refine TC.ret fun a w e s => ?_
    refine FRet.mk2 (P := Tryd.prog) (fn := Tryd.f50) (t := 4) (u := 5) e rfl rfl rfl ?_
    exact ⟨rfl, s.mono fun _ => Sat.dropN 0⟩
  · replace hm := cond_f hc3 hm
    refine TC.skipk ?_
    refine TC.k ?_
    refine TC.region ?_
    refine TO.s rfl rfl rfl (StepS.move rfl) ?_
    refine TO.s rfl rfl rfl (StepS.move rfl) ?_
    refine TO.s rfl rfl rfl (StepS.lenS kunderlying_9_some_string rfl rfl) ?_
    obtain ⟨x4, hx5, hm⟩ := bind_some hm
    refine TO.s rfl rfl rfl (StepS.slcS kunderlying_9_some_string rfl rfl rfl hx5) ?_
    refine TO.s rfl rfl rfl (StepS.assign rfl) ?_
    refine TO.s rfl rfl rfl (StepS.assign rfl) ?_
    refine TO.code ?_
    cases hm
    refine TC.ret fun a w e s => ?_
    refine FRet.mk2 (P := Tryd.prog) (fn := Tryd.f50) (t := 4) (u := 5) e rfl rfl rfl ?_
    exact ⟨rfl, s.mono fun _ => Sat.dropN 0⟩

set_option maxRecDepth 100000 in
theorem C44 {B : World} {L : List HP} {a0 : ByteArray} {a1 : ByteArray} {r0 : ByteArray} {r1 : Bool} (hm : F44 a0 a1 = some (r0, r1)) {w : World} (st : St B L w) : Calls Tryd.prog 44 #[.string a0, .string a1] w (fun e w' => (e = .returned (.tuple #[.string r0, .bool r1]) ∧ St B (L) w')) := by
  refine calls_of (N := 11) (L := L) (args := [.string a0, .string a1]) Tryd.func44 rfl rfl rfl ?_ st
  dsimp only [F44] at hm
  refine TC.k ?_
  refine TC.region ?_
  refine TO.s rfl rfl rfl (StepS.assign rfl) ?_
  refine TO.s rfl rfl rfl (StepS.assign rfl) ?_
  refine TO.code ?_
  refine TC.k ?_
  refine TC.region ?_
  refine TO.s rfl rfl rfl (StepS.move rfl) ?_
  refine TO.s rfl rfl rfl (StepS.move rfl) ?_
  obtain ⟨⟨r1, r2⟩, hc3, hm⟩ := bind_some hm
  refine TO.q rfl rfl rfl (StepQ.call kcallB_50_true rfl rfl (fun _ st => C50  hc3 st)) ?_
  refine TO.s rfl rfl rfl (StepS.extract rfl rfl) ?_
  refine TO.s rfl rfl rfl (StepS.extract rfl rfl) ?_
  refine TO.s rfl rfl rfl (StepS.assign rfl) ?_
  refine TO.s rfl rfl rfl (StepS.assign rfl) ?_
  refine TO.code ?_
  cases hm
  refine TC.ret fun a w e s => ?_
  refine FRet.mk2 (P := Tryd.prog) (fn := Tryd.f44) (t := 4) (u := 5) e rfl rfl rfl ?_
  exact ⟨rfl, s.mono fun _ => Sat.dropN 0⟩

set_option maxRecDepth 100000 in
theorem C47 {B : World} {L : List HP} {a0 : Int} {r0 : Bool} (hm : F47 a0 = some r0) {w : World} (st : St B L w) : Calls Tryd.prog 47 #[.int .i32 a0] w (fun e w' => (e = .returned (.bool r0) ∧ St B (L) w')) := by
  refine calls_of (N := 9) (L := L) (args := [.int .i32 a0]) Tryd.func47 rfl rfl rfl ?_ st
  dsimp only [F47] at hm
  refine TC.k ?_
  refine TC.region ?_
  refine TO.s rfl rfl rfl (StepS.assign rfl) ?_
  refine TO.code ?_
  refine TC.k ?_
  refine TC.region ?_
  refine TO.s rfl rfl rfl (StepS.move rfl) ?_
  refine TO.s rfl rfl rfl (StepS.cmp rfl rfl rfl) ?_
  refine TO.s rfl rfl rfl (StepS.move rfl) ?_
  refine TO.mid1 3 8 (.bool ((decide (a0 < 97)) || (decide (a0 > 122)))) ?_ ?_
  · refine bcase ((decide (a0 < 97))) (fun hb1 => ?_) (fun hb1 => ?_)
    · refine TO.skip rfl rfl rfl (skipT hb1) rfl rfl ?_
      refine TO.skip rfl rfl rfl (skipT hb1) rfl rfl ?_
      refine TO.s rfl rfl rfl (StepS.pickT rfl hb1 rfl) ?_
      exact TO.up1 3 0 rfl rfl (by rw [hb1]; rfl) rfl
    · refine TO.sw rfl rfl rfl hb1 rfl rfl (StepS.move rfl) ?_
      refine TO.sw rfl rfl rfl hb1 rfl rfl (StepS.cmp rfl rfl rfl) ?_
      refine TO.s rfl rfl rfl (StepS.pickF rfl hb1 rfl) ?_
      exact TO.up1 3 0 rfl rfl (by rw [hb1]; rfl) rfl
  refine TO.s rfl rfl rfl (StepS.assign rfl) ?_
  refine TO.code ?_
  cases hm
  refine TC.ret fun a w e s => ?_
  refine FRet.mk1 (P := Tryd.prog) (fn := Tryd.f47) (t := 2) e rfl rfl ?_
  exact ⟨rfl, s.mono fun _ => Sat.dropN 0⟩
end Go.Proofs.YtadfgohglcglcaaDoor
