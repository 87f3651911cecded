/-
  Draws: nothing is kept of their number. Nothing of any program stands here.
-/
import Derived.WalkKit
namespace Go.Bk
open Go
set_option linter.unusedVariables false
/-- What is kept of the number of draws. -/
@[reducible] def DrawnOk (B w : World) : Prop := True
theorem DrawnOk.rfl (W : World) : DrawnOk W W := trivial
theorem DrawnOk.drew {B w : World} (h : DrawnOk B w) : DrawnOk B w.drew := trivial
theorem DrawnOk.ahead {B w : World} (h : DrawnOk B w) (n : Nat) : DrawnOk B { w with drawn := w.drawn + n } := trivial
end Go.Bk
