/-
  The program's slices.SortFunc at structs and its slices.Grow are the kit's.
-/
import Derived.Test.YtgofkfhkolkfmaaBk46
import Derived.Shelf.SlSortCmp.NoneTotal
import Derived.Test.YtgofkfhkolkfmaaProg
import Derived.KernelRfl
namespace Go.Proofs.Ytgofkfhkolkfmaa
open Go Go.Bk Go.Shelf
def skren : Ren :=
  {
  f := fun x => match x with
    | 6 => 11
    | 15 => 23
    | 14 => 22
    | 28 => 35
    | 29 => 36
    | 20 => 27
    | 21 => 28
    | 22 => 29
    | 23 => 30
    | 24 => 31
    | 25 => 32
    | 26 => 33
    | 27 => 34
    | 46 => 38
    | 47 => 39
    | 48 => 40
    | 49 => 41
    | 50 => 42
    | 57 => 43
    | n => n,
  t := fun x => match x with
    | 22 => 34
    | 24 => 44
    | 25 => 50
    | 3 => 3
    | 39 => 59
    | 0 => 0
    | 53 => 70
    | 55 => 72
    | 4 => 4
    | 46 => 63
    | 45 => 62
    | 50 => 67
    | 5 => 5
    | 9 => 9
    | 66 => 74
    | 70 => 78
    | 76 => 80
    | 77 => 81
    | n => n,
  g := fun x =>
    x }
def grren : Ren :=
  { f := fun x => match x with | 4 => 37 | n => n, t := fun x => match x with | 22 => 34 | 25 => 44 | n => n, g := fun x => x }
theorem bears_of {f : FuncId} {X : Func} (h2 : ((((Try.prog.funcs[f]?).map Func.name).getD "") == "runtime.NumGoroutine") = false) (h : Try.prog.funcs[f]? = some { X with name := (((Try.prog.funcs[f]?).map Func.name).getD "") }) : Go.Proofs.Bears Try.prog f X := ⟨_, h2, h⟩
theorem sklays : SlLaysF0.n6 Try.prog skren := by
  constructor <;> first | kernel_rfl | (intro w; kernel_rfl) | exact bears_of (by kernel_rfl) (by kernel_rfl)
theorem grlays : Lays8.n4 Try.prog grren := by
  constructor <;> first | kernel_rfl | (intro w; kernel_rfl) | exact bears_of (by kernel_rfl) (by kernel_rfl)
open Go.Proofs in
theorem sklay : SortKs Try.prog 2 11 :=
  ⟨fun enc hl h1 cf hO g cb blk off cap d w eg hc hH hb hs hT => AnyQ.slices_SortFunc_total sklays 2 (fun w => by kernel_rfl) (fun w => by kernel_rfl) enc hl h1 cf hO g cb blk off cap d w eg hc hH hb hs hT, fun p cap fv w => AnyF.slices_SortFunc_none sklays p cap fv w⟩
open Go.Proofs in
theorem grlay : GrowKs Try.prog 44 2 32 37 := by
  obtain ⟨_, i, z, hi, hz, hs, hb, hzs⟩ := elemB_spec (show elemB Try.prog 34 44 2 32 = true by kernel_rfl)
  refine ⟨fun n w h0 h1 h2 => ?_, fun w => ?_⟩
  · have := Any8.slices_Grow_grow grlays i z hi hz (by rw [hs]; decide) none 0 0 n [] w (Nat.le_refl _) (by omega) (by rw [hb]; simpa using h1) (by omega) (by simp) (fun _ => rfl) (fun a e => by cases e)
    refine this.mono ?_
    rintro e' w' ⟨rfl, rfl⟩
    rw [Nat.zero_add]
    refine ⟨_, _, ?_, ?_, rfl, rfl⟩
    · exact grownCap_le_maxLen w n 0 _ (by unfold maxLen; omega)
    · have hg := grownCap_ge w n 0 (grren.t 25)
      simp only [Array.size_append, size_zeroCells, hzs, List.size_toArray, List.length_nil, Nat.zero_add, Nat.sub_zero]
      rw [← Nat.add_mul]; congr 1; omega
  · exact Any8.slices_Grow_room grlays none 0 0 0 w (by omega) (by omega) (by omega) (by omega)
end Go.Proofs.Ytgofkfhkolkfmaa
