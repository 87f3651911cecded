/-
  The program's slices.Sort at int is the kit's.
-/
import Derived.Test.YtmfidlalejdikaaBk28
import Derived.Test.YtmfidlalejdikaaProg
import Derived.KernelRfl
namespace Go.Proofs.Ytmfidlalejdikaa
open Go Go.Bk Go.Shelf
def sren : Ren :=
  {
  f := fun x => match x with
    | 189 => 53
    | 125 => 57
    | 257 => 60
    | 128 => 69
    | 129 => 70
    | 294 => 71
    | 295 => 72
    | 296 => 73
    | 297 => 74
    | 298 => 75
    | 299 => 76
    | 216 => 77
    | 300 => 78
    | 301 => 79
    | 328 => 85
    | 329 => 81
    | 330 => 82
    | 331 => 86
    | 332 => 87
    | 215 => 58
    | 343 => 89
    | n => n,
  t := fun x => match x with
    | 28 => 34
    | 3 => 3
    | 46 => 82
    | 0 => 0
    | 51 => 60
    | 53 => 95
    | 4 => 4
    | 183 => 87
    | 182 => 86
    | 131 => 91
    | 5 => 5
    | 9 => 9
    | 218 => 102
    | 222 => 106
    | 228 => 110
    | 229 => 111
    | n => n,
  g := fun x =>
    x }
theorem slays : Lays.n189 Try.prog sren := by
  constructor <;> first | kernel_rfl | (intro w; kernel_rfl)
theorem slay : Sorts Try.prog 53 := Sorts.of slays
end Go.Proofs.Ytmfidlalejdikaa
