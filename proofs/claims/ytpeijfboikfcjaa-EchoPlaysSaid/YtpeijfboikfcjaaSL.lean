/-
  The program's slices.Sort at int is the kit's.
-/
import Derived.Test.YtpeijfboikfcjaaBk28
import Derived.Test.YtpeijfboikfcjaaProg
import Derived.KernelRfl
namespace Go.Proofs.Ytpeijfboikfcjaa
open Go Go.Bk Go.Shelf
def sren : Ren :=
  {
  f := fun x => match x with
    | 189 => 12
    | 125 => 22
    | 257 => 21
    | 128 => 35
    | 129 => 36
    | 294 => 26
    | 295 => 27
    | 296 => 28
    | 297 => 29
    | 298 => 30
    | 299 => 31
    | 216 => 32
    | 300 => 33
    | 301 => 34
    | 328 => 37
    | 329 => 38
    | 330 => 39
    | 331 => 40
    | 332 => 41
    | 215 => 42
    | 343 => 43
    | n => n,
  t := fun x => match x with
    | 28 => 23
    | 3 => 3
    | 46 => 52
    | 0 => 0
    | 51 => 58
    | 53 => 61
    | 4 => 4
    | 183 => 66
    | 182 => 65
    | 131 => 71
    | 5 => 5
    | 9 => 9
    | 218 => 75
    | 222 => 79
    | 228 => 82
    | 229 => 83
    | n => n,
  g := fun x =>
    x }
theorem slays : Lays.n189 Try.prog sren := by
  constructor <;> first | kernel_rfl | (intro w; kernel_rfl)
theorem slay : Sorts Try.prog 12 := Sorts.of slays
end Go.Proofs.Ytpeijfboikfcjaa
