/-
  The program's slices.Sort at int is the kit's.
-/
import Derived.Test.YtadfgohglcglcaaDoorBk38
import Derived.Test.YtadfgohglcglcaaDoorProg
import Derived.KernelRfl
namespace Go.Proofs.YtadfgohglcglcaaDoor
open Go Go.Bk Go.Shelf
def stren : Ren :=
  {
  f := fun x => match x with
    | 190 => 48
    | 125 => 54
    | 258 => 53
    | 128 => 70
    | 129 => 71
    | 302 => 61
    | 303 => 62
    | 304 => 63
    | 305 => 64
    | 306 => 65
    | 307 => 66
    | 308 => 67
    | 309 => 68
    | 310 => 69
    | 333 => 74
    | 329 => 75
    | 330 => 76
    | 334 => 77
    | 335 => 78
    | 336 => 79
    | 344 => 84
    | n => n,
  t := fun x => match x with
    | 31 => 39
    | 9 => 9
    | 3 => 3
    | 46 => 129
    | 0 => 0
    | 51 => 144
    | 53 => 146
    | 4 => 4
    | 183 => 137
    | 182 => 136
    | 131 => 141
    | 5 => 5
    | 218 => 147
    | 222 => 151
    | 228 => 158
    | 229 => 159
    | n => n,
  g := fun x =>
    x }
theorem stlays : Lays.n190 Tryd.prog stren := by
  constructor <;> first | kernel_rfl | (intro w; kernel_rfl)
theorem stlay : SortSs Tryd.prog 48 := SortSs.of stlays
end Go.Proofs.YtadfgohglcglcaaDoor
