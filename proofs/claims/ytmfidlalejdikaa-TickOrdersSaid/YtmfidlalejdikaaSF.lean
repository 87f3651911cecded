/-
  The program's slices.SortFunc at int is the kit's.
-/
import Derived.Test.YtmfidlalejdikaaBk37
import Derived.Shelf.SlSortCmp.NoneTotal
import Derived.Test.YtmfidlalejdikaaProg
import Derived.KernelRfl
namespace Go.Proofs.Ytmfidlalejdikaa
open Go Go.Bk Go.Shelf
def sfren : Ren :=
  {
  f := fun x => match x with
    | 6 => 47
    | 15 => 57
    | 14 => 56
    | 28 => 69
    | 29 => 70
    | 20 => 61
    | 21 => 62
    | 22 => 63
    | 23 => 64
    | 24 => 65
    | 25 => 66
    | 26 => 67
    | 27 => 68
    | 46 => 80
    | 47 => 81
    | 48 => 82
    | 49 => 83
    | 50 => 84
    | 57 => 88
    | n => n,
  t := fun x => match x with
    | 22 => 34
    | 24 => 3
    | 25 => 74
    | 3 => 3
    | 39 => 82
    | 0 => 0
    | 53 => 60
    | 55 => 95
    | 4 => 4
    | 46 => 87
    | 45 => 86
    | 50 => 91
    | 5 => 5
    | 9 => 9
    | 66 => 102
    | 70 => 106
    | 76 => 110
    | 77 => 111
    | n => n,
  g := fun x =>
    x }
theorem bears_of {f : FuncId} {X : Func} (h2 : ((((Try.prog.funcs[f]?).map Func.name).getD "") == "runtime.NumGoroutine") = false) (h : Try.prog.funcs[f]? = some { X with name := (((Try.prog.funcs[f]?).map Func.name).getD "") }) : Go.Proofs.Bears Try.prog f X := ⟨_, h2, h⟩
theorem sflays : SlLaysF.n6 Try.prog sfren := by
  constructor <;> first | kernel_rfl | (intro w; kernel_rfl) | exact bears_of (by kernel_rfl) (by kernel_rfl)
open Go.Proofs in
theorem sflay : SortFs Try.prog 47 :=
  ⟨fun enc h1 cf hO g cb blk off cap d w eg hc hH hb hs hT => Any.slices_SortFunc_total sflays enc h1 cf hO g cb blk off cap d w eg hc hH hb hs hT, fun p cap fv w => AnyF.slices_SortFunc_none { sflays with } p cap fv w⟩
end Go.Proofs.Ytmfidlalejdikaa
