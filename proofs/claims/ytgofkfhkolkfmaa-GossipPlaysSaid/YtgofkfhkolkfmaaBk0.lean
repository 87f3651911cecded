/-
  Draws: they grow. Nothing of any program stands here.
-/
import Derived.WalkKit
namespace Go.Bk
open Go
/-- What is kept of the number of draws. -/
@[reducible] def DrawnOk (B w : World) : Prop := B.drawn ≤ w.drawn
theorem DrawnOk.rfl (W : World) : DrawnOk W W := Nat.le_refl _
theorem DrawnOk.drew {B w : World} (h : DrawnOk B w) : DrawnOk B w.drew := Nat.le_succ_of_le h
theorem DrawnOk.ahead {B w : World} (h : DrawnOk B w) (n : Nat) : DrawnOk B { w with drawn := w.drawn + n } := Nat.le_trans h (Nat.le_add_right _ _)
end Go.Bk
