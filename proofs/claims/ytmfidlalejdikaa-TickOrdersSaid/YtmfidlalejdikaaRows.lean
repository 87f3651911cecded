/-
  No cell of these rows narrows 'for every input' (looked for: loops, veiled, ifaces, maps, wideKeys, modest, calm, conditions, laid).
  DERIVED. THE GIVEN ROWS OF THIS SEAT. 12 by the template 'for every input the law returns true; each argument reads behind the call as it read before'; 0 by the template 'total and deterministic' (their statements: YtmfidlalejdikaaTotals.lean).
  GIVEN WITH THE SEED: the statements are not yours to turn. If you find one false, say at which input.
  Laid BY PROGRAM, IN A SANDBOX (cutbox-rows.mjs): the forced cells as the released guide's own fill.sh prints them over the translation bb482f493f72e64c… (all of the seat's roots in one cut). By AI agents, Wed Nov 11 2026. No macro, syntax, notation, axiom, sorry.
-/
import Derived.Test.YtmfidlalejdikaaChecked
import GoSem.Claim
import GoSem.ClaimJoined
import GoSem.ClaimMapViews
import Derived.JoinedTies
import Derived.KernelRfl
namespace Go.Proofs.Ytmfidlalejdikaa
/- THE CELL 'sum', in the pinned program and in every row, IS THE sha256 OF THE DUMP (.gsa) THAT YtmfidlalejdikaaProg.lean LOADS. Nothing in Lean hashes anything: it is a label: what it is worth is what the hold of that sum in a sandbox is worth. -/
noncomputable def Try.pinned : Pinned := { name := "ytmfidlalejdikaa", sum := "bb482f493f72e64cce4beb3de42cbda20a7dea747f2dcb5c92145b97c06fec7a", checked := Try.checked }
namespace Rows
def none {H : Type} : Left H := { results := [], args := [] }

/-- 'beaconrylaw.RunChecks': WHATEVER THE INPUT: true; the input reads as it did. -/
def runChecksSpec : ChangeSpec := { name := "runChecks", fn := fun _ => fun
  | [d1, d2] => { results := [.lit (.bool true)], args := [d1, d2] }
  | _ => none }
def runChecksRow : OpenClaim := { program := "ytmfidlalejdikaa", sum := "bb482f493f72e64cce4beb3de42cbda20a7dea747f2dcb5c92145b97c06fec7a", func := "beaconry/beaconrylaw.RunChecks", spec := "runChecks", apart := false }
def RunChecksSaid : Prop := runChecksRow.holds Try.pinned (OpenSpec.ofChange runChecksSpec)

/-- ITS FALSE NEIGHBOUR: 'it returns false'. Refute it at one input. -/
def runChecksWrong : ChangeSpec := { name := "runChecks", fn := fun _ => fun
  | [d1, d2] => { results := [.lit (.bool false)], args := [d1, d2] }
  | _ => none }
def RunChecksWrongFalsely : Prop := runChecksRow.holds Try.pinned (OpenSpec.ofChange runChecksWrong)

/-- 'beaconrylaw.RunAheads': WHATEVER THE INPUT: true; the input reads as it did. -/
def runAheadsSpec : ChangeSpec := { name := "runAheads", fn := fun _ => fun
  | [d1, d2, d3, d4] => { results := [.lit (.bool true)], args := [d1, d2, d3, d4] }
  | _ => none }
def runAheadsRow : OpenClaim := { program := "ytmfidlalejdikaa", sum := "bb482f493f72e64cce4beb3de42cbda20a7dea747f2dcb5c92145b97c06fec7a", func := "beaconry/beaconrylaw.RunAheads", spec := "runAheads", apart := false }
def RunAheadsSaid : Prop := runAheadsRow.holds Try.pinned (OpenSpec.ofChange runAheadsSpec)

/-- ITS FALSE NEIGHBOUR: 'it returns false'. Refute it at one input. -/
def runAheadsWrong : ChangeSpec := { name := "runAheads", fn := fun _ => fun
  | [d1, d2, d3, d4] => { results := [.lit (.bool false)], args := [d1, d2, d3, d4] }
  | _ => none }
def RunAheadsWrongFalsely : Prop := runAheadsRow.holds Try.pinned (OpenSpec.ofChange runAheadsWrong)

/-- 'beaconrylaw.RunAparts': WHATEVER THE INPUT: true; the input reads as it did. -/
def runApartsSpec : ChangeSpec := { name := "runAparts", fn := fun _ => fun
  | [d1, d2] => { results := [.lit (.bool true)], args := [d1, d2] }
  | _ => none }
def runApartsRow : OpenClaim := { program := "ytmfidlalejdikaa", sum := "bb482f493f72e64cce4beb3de42cbda20a7dea747f2dcb5c92145b97c06fec7a", func := "beaconry/beaconrylaw.RunAparts", spec := "runAparts", apart := false }
def RunApartsSaid : Prop := runApartsRow.holds Try.pinned (OpenSpec.ofChange runApartsSpec)

/-- ITS FALSE NEIGHBOUR: 'it returns false'. Refute it at one input. -/
def runApartsWrong : ChangeSpec := { name := "runAparts", fn := fun _ => fun
  | [d1, d2] => { results := [.lit (.bool false)], args := [d1, d2] }
  | _ => none }
def RunApartsWrongFalsely : Prop := runApartsRow.holds Try.pinned (OpenSpec.ofChange runApartsWrong)

/-- 'beaconrylaw.RunAgains': WHATEVER THE INPUT: true; the input reads as it did. -/
def runAgainsSpec : ChangeSpec := { name := "runAgains", fn := fun _ => fun
  | [d1, d2, d3] => { results := [.lit (.bool true)], args := [d1, d2, d3] }
  | _ => none }
def runAgainsRow : OpenClaim := { program := "ytmfidlalejdikaa", sum := "bb482f493f72e64cce4beb3de42cbda20a7dea747f2dcb5c92145b97c06fec7a", func := "beaconry/beaconrylaw.RunAgains", spec := "runAgains", apart := false }
def RunAgainsSaid : Prop := runAgainsRow.holds Try.pinned (OpenSpec.ofChange runAgainsSpec)

/-- ITS FALSE NEIGHBOUR: 'it returns false'. Refute it at one input. -/
def runAgainsWrong : ChangeSpec := { name := "runAgains", fn := fun _ => fun
  | [d1, d2, d3] => { results := [.lit (.bool false)], args := [d1, d2, d3] }
  | _ => none }
def RunAgainsWrongFalsely : Prop := runAgainsRow.holds Try.pinned (OpenSpec.ofChange runAgainsWrong)

/-- 'beaconrylaw.TickTells': WHATEVER THE INPUT: true; the input reads as it did. -/
def tickTellsSpec : ChangeSpec := { name := "tickTells", fn := fun _ => fun
  | [d1, d2] => { results := [.lit (.bool true)], args := [d1, d2] }
  | _ => none }
def tickTellsRow : OpenClaim := { program := "ytmfidlalejdikaa", sum := "bb482f493f72e64cce4beb3de42cbda20a7dea747f2dcb5c92145b97c06fec7a", func := "beaconry/beaconrylaw.TickTells", spec := "tickTells", apart := false }
def TickTellsSaid : Prop := tickTellsRow.holds Try.pinned (OpenSpec.ofChange tickTellsSpec)

/-- ITS FALSE NEIGHBOUR: 'it returns false'. Refute it at one input. -/
def tickTellsWrong : ChangeSpec := { name := "tickTells", fn := fun _ => fun
  | [d1, d2] => { results := [.lit (.bool false)], args := [d1, d2] }
  | _ => none }
def TickTellsWrongFalsely : Prop := tickTellsRow.holds Try.pinned (OpenSpec.ofChange tickTellsWrong)

/-- 'beaconrylaw.TickLongests': WHATEVER THE INPUT: true; the input reads as it did. -/
def tickLongestsSpec : ChangeSpec := { name := "tickLongests", fn := fun _ => fun
  | [d1, d2] => { results := [.lit (.bool true)], args := [d1, d2] }
  | _ => none }
def tickLongestsRow : OpenClaim := { program := "ytmfidlalejdikaa", sum := "bb482f493f72e64cce4beb3de42cbda20a7dea747f2dcb5c92145b97c06fec7a", func := "beaconry/beaconrylaw.TickLongests", spec := "tickLongests", apart := false }
def TickLongestsSaid : Prop := tickLongestsRow.holds Try.pinned (OpenSpec.ofChange tickLongestsSpec)

/-- ITS FALSE NEIGHBOUR: 'it returns false'. Refute it at one input. -/
def tickLongestsWrong : ChangeSpec := { name := "tickLongests", fn := fun _ => fun
  | [d1, d2] => { results := [.lit (.bool false)], args := [d1, d2] }
  | _ => none }
def TickLongestsWrongFalsely : Prop := tickLongestsRow.holds Try.pinned (OpenSpec.ofChange tickLongestsWrong)

/-- 'beaconrylaw.VectorTells': WHATEVER THE INPUT: true; the input reads as it did. -/
def vectorTellsSpec : ChangeSpec := { name := "vectorTells", fn := fun _ => fun
  | [d1, d2] => { results := [.lit (.bool true)], args := [d1, d2] }
  | _ => none }
def vectorTellsRow : OpenClaim := { program := "ytmfidlalejdikaa", sum := "bb482f493f72e64cce4beb3de42cbda20a7dea747f2dcb5c92145b97c06fec7a", func := "beaconry/beaconrylaw.VectorTells", spec := "vectorTells", apart := false }
def VectorTellsSaid : Prop := vectorTellsRow.holds Try.pinned (OpenSpec.ofChange vectorTellsSpec)

/-- ITS FALSE NEIGHBOUR: 'it returns false'. Refute it at one input. -/
def vectorTellsWrong : ChangeSpec := { name := "vectorTells", fn := fun _ => fun
  | [d1, d2] => { results := [.lit (.bool false)], args := [d1, d2] }
  | _ => none }
def VectorTellsWrongFalsely : Prop := vectorTellsRow.holds Try.pinned (OpenSpec.ofChange vectorTellsWrong)

/-- 'beaconrylaw.CutManies': WHATEVER THE INPUT: true; the input reads as it did. -/
def cutManiesSpec : ChangeSpec := { name := "cutManies", fn := fun _ => fun
  | [d1, d2] => { results := [.lit (.bool true)], args := [d1, d2] }
  | _ => none }
def cutManiesRow : OpenClaim := { program := "ytmfidlalejdikaa", sum := "bb482f493f72e64cce4beb3de42cbda20a7dea747f2dcb5c92145b97c06fec7a", func := "beaconry/beaconrylaw.CutManies", spec := "cutManies", recurses := true, apart := false }
def CutManiesSaid : Prop := cutManiesRow.holds Try.pinned (OpenSpec.ofChange cutManiesSpec)

/-- ITS FALSE NEIGHBOUR: 'it returns false'. Refute it at one input. -/
def cutManiesWrong : ChangeSpec := { name := "cutManies", fn := fun _ => fun
  | [d1, d2] => { results := [.lit (.bool false)], args := [d1, d2] }
  | _ => none }
def CutManiesWrongFalsely : Prop := cutManiesRow.holds Try.pinned (OpenSpec.ofChange cutManiesWrong)

/-- 'beaconrylaw.CutLeasts': WHATEVER THE INPUT: true; the input reads as it did. -/
def cutLeastsSpec : ChangeSpec := { name := "cutLeasts", fn := fun _ => fun
  | [d1, d2, d3] => { results := [.lit (.bool true)], args := [d1, d2, d3] }
  | _ => none }
def cutLeastsRow : OpenClaim := { program := "ytmfidlalejdikaa", sum := "bb482f493f72e64cce4beb3de42cbda20a7dea747f2dcb5c92145b97c06fec7a", func := "beaconry/beaconrylaw.CutLeasts", spec := "cutLeasts", apart := false }
def CutLeastsSaid : Prop := cutLeastsRow.holds Try.pinned (OpenSpec.ofChange cutLeastsSpec)

/-- ITS FALSE NEIGHBOUR: 'it returns false'. Refute it at one input. -/
def cutLeastsWrong : ChangeSpec := { name := "cutLeasts", fn := fun _ => fun
  | [d1, d2, d3] => { results := [.lit (.bool false)], args := [d1, d2, d3] }
  | _ => none }
def CutLeastsWrongFalsely : Prop := cutLeastsRow.holds Try.pinned (OpenSpec.ofChange cutLeastsWrong)

/-- 'beaconrylaw.CutIs': WHATEVER THE INPUT: true; the input reads as it did. -/
def cutIsSpec : ChangeSpec := { name := "cutIs", fn := fun _ => fun
  | [d1, d2, d3] => { results := [.lit (.bool true)], args := [d1, d2, d3] }
  | _ => none }
def cutIsRow : OpenClaim := { program := "ytmfidlalejdikaa", sum := "bb482f493f72e64cce4beb3de42cbda20a7dea747f2dcb5c92145b97c06fec7a", func := "beaconry/beaconrylaw.CutIs", spec := "cutIs", apart := false }
def CutIsSaid : Prop := cutIsRow.holds Try.pinned (OpenSpec.ofChange cutIsSpec)

/-- ITS FALSE NEIGHBOUR: 'it returns false'. Refute it at one input. -/
def cutIsWrong : ChangeSpec := { name := "cutIs", fn := fun _ => fun
  | [d1, d2, d3] => { results := [.lit (.bool false)], args := [d1, d2, d3] }
  | _ => none }
def CutIsWrongFalsely : Prop := cutIsRow.holds Try.pinned (OpenSpec.ofChange cutIsWrong)

/-- 'beaconrylaw.TickOrders': WHATEVER THE INPUT: true; the input reads as it did. -/
def tickOrdersSpec : ChangeSpec := { name := "tickOrders", fn := fun _ => fun
  | [d1, d2] => { results := [.lit (.bool true)], args := [d1, d2] }
  | _ => none }
def tickOrdersRow : OpenClaim := { program := "ytmfidlalejdikaa", sum := "bb482f493f72e64cce4beb3de42cbda20a7dea747f2dcb5c92145b97c06fec7a", func := "beaconry/beaconrylaw.TickOrders", spec := "tickOrders", unfollowed := true, recurses := true, apart := false }
def TickOrdersSaid : Prop := tickOrdersRow.holds Try.pinned (OpenSpec.ofChange tickOrdersSpec)

/-- ITS FALSE NEIGHBOUR: 'it returns false'. Refute it at one input. -/
def tickOrdersWrong : ChangeSpec := { name := "tickOrders", fn := fun _ => fun
  | [d1, d2] => { results := [.lit (.bool false)], args := [d1, d2] }
  | _ => none }
def TickOrdersWrongFalsely : Prop := tickOrdersRow.holds Try.pinned (OpenSpec.ofChange tickOrdersWrong)

/-- 'beaconrylaw.CutWays': WHATEVER THE INPUT: true; the input reads as it did. -/
def cutWaysSpec : ChangeSpec := { name := "cutWays", fn := fun _ => fun
  | [d1, d2, d3] => { results := [.lit (.bool true)], args := [d1, d2, d3] }
  | _ => none }
def cutWaysRow : OpenClaim := { program := "ytmfidlalejdikaa", sum := "bb482f493f72e64cce4beb3de42cbda20a7dea747f2dcb5c92145b97c06fec7a", func := "beaconry/beaconrylaw.CutWays", spec := "cutWays", unfollowed := true, recurses := true, apart := false }
def CutWaysSaid : Prop := cutWaysRow.holds Try.pinned (OpenSpec.ofChange cutWaysSpec)

/-- ITS FALSE NEIGHBOUR: 'it returns false'. Refute it at one input. -/
def cutWaysWrong : ChangeSpec := { name := "cutWays", fn := fun _ => fun
  | [d1, d2, d3] => { results := [.lit (.bool false)], args := [d1, d2, d3] }
  | _ => none }
def CutWaysWrongFalsely : Prop := cutWaysRow.holds Try.pinned (OpenSpec.ofChange cutWaysWrong)

/- THE SECOND FORM. 'bulk': how many values and letters a reading holds, each counted each time it is reached (what is shared counts as often as it is met; a slice's spare places count too). A statement '..UptoSaid' is the law's where the arguments, and the package variables that the reading takes, are together of bulk at most 1048576: NARROWER than '..Said'. Prove '..Said' where nothing that the law and all that it calls make is longer than what came in: it says more and counts as full. Else prove '..UptoSaid'. A law counts once. -/
mutual
def uptoBulk {H : Type} : DataW H → Nat
  | .lit (.string bytes) => bytes.length + 1
  | .lit _ => 1
  | .nil => 1
  | .ptr d => uptoBulk d + 1
  | .slice elems spare => uptoBulkAll elems + uptoBulkAll spare + 1
  | .agg parts => uptoBulkAll parts + 1
  | .iface _ d => uptoBulk d + 1
  | .map entries => uptoBulkEntries entries + 1
  | .held _ => 1
def uptoBulkAll {H : Type} : List (DataW H) → Nat
  | [] => 0
  | d :: r => uptoBulk d + uptoBulkAll r
def uptoBulkEntries {H : Type} : List (Lit × DataW H) → Nat
  | [] => 0
  | x :: r => uptoBulkEntry x + uptoBulkEntries r
def uptoBulkEntry {H : Type} : Lit × DataW H → Nat
  | (.string bytes, d) => bytes.length + uptoBulk d + 1
  | (_, d) => uptoBulk d + 1
 end
def uptoSmall : (H : Type) → List (DataW H) → Bool := fun _ ds => decide (uptoBulkAll ds ≤ 1048576)
def OpenSpec.upto (s : _root_.Go.ChangeSpec) : _root_.Go.OpenSpec := { _root_.Go.OpenSpec.ofChange s with cond := some uptoSmall }

/-- 'beaconrylaw.RunChecks', WHERE WHAT IT READS IS OF BULK AT MOST 1048576: true; the input reads as it did. -/
def runChecksUptoRow : OpenClaim := { program := "ytmfidlalejdikaa", sum := "bb482f493f72e64cce4beb3de42cbda20a7dea747f2dcb5c92145b97c06fec7a", func := "beaconry/beaconrylaw.RunChecks", spec := "runChecks", apart := false, narrowed := true }
def RunChecksUptoSaid : Prop := runChecksUptoRow.holds Try.pinned (OpenSpec.upto runChecksSpec)

/-- 'beaconrylaw.RunAheads', WHERE WHAT IT READS IS OF BULK AT MOST 1048576: true; the input reads as it did. -/
def runAheadsUptoRow : OpenClaim := { program := "ytmfidlalejdikaa", sum := "bb482f493f72e64cce4beb3de42cbda20a7dea747f2dcb5c92145b97c06fec7a", func := "beaconry/beaconrylaw.RunAheads", spec := "runAheads", apart := false, narrowed := true }
def RunAheadsUptoSaid : Prop := runAheadsUptoRow.holds Try.pinned (OpenSpec.upto runAheadsSpec)

/-- 'beaconrylaw.RunAparts', WHERE WHAT IT READS IS OF BULK AT MOST 1048576: true; the input reads as it did. -/
def runApartsUptoRow : OpenClaim := { program := "ytmfidlalejdikaa", sum := "bb482f493f72e64cce4beb3de42cbda20a7dea747f2dcb5c92145b97c06fec7a", func := "beaconry/beaconrylaw.RunAparts", spec := "runAparts", apart := false, narrowed := true }
def RunApartsUptoSaid : Prop := runApartsUptoRow.holds Try.pinned (OpenSpec.upto runApartsSpec)

/-- 'beaconrylaw.RunAgains', WHERE WHAT IT READS IS OF BULK AT MOST 1048576: true; the input reads as it did. -/
def runAgainsUptoRow : OpenClaim := { program := "ytmfidlalejdikaa", sum := "bb482f493f72e64cce4beb3de42cbda20a7dea747f2dcb5c92145b97c06fec7a", func := "beaconry/beaconrylaw.RunAgains", spec := "runAgains", apart := false, narrowed := true }
def RunAgainsUptoSaid : Prop := runAgainsUptoRow.holds Try.pinned (OpenSpec.upto runAgainsSpec)

/-- 'beaconrylaw.TickTells', WHERE WHAT IT READS IS OF BULK AT MOST 1048576: true; the input reads as it did. -/
def tickTellsUptoRow : OpenClaim := { program := "ytmfidlalejdikaa", sum := "bb482f493f72e64cce4beb3de42cbda20a7dea747f2dcb5c92145b97c06fec7a", func := "beaconry/beaconrylaw.TickTells", spec := "tickTells", apart := false, narrowed := true }
def TickTellsUptoSaid : Prop := tickTellsUptoRow.holds Try.pinned (OpenSpec.upto tickTellsSpec)

/-- 'beaconrylaw.TickLongests', WHERE WHAT IT READS IS OF BULK AT MOST 1048576: true; the input reads as it did. -/
def tickLongestsUptoRow : OpenClaim := { program := "ytmfidlalejdikaa", sum := "bb482f493f72e64cce4beb3de42cbda20a7dea747f2dcb5c92145b97c06fec7a", func := "beaconry/beaconrylaw.TickLongests", spec := "tickLongests", apart := false, narrowed := true }
def TickLongestsUptoSaid : Prop := tickLongestsUptoRow.holds Try.pinned (OpenSpec.upto tickLongestsSpec)

/-- 'beaconrylaw.VectorTells', WHERE WHAT IT READS IS OF BULK AT MOST 1048576: true; the input reads as it did. -/
def vectorTellsUptoRow : OpenClaim := { program := "ytmfidlalejdikaa", sum := "bb482f493f72e64cce4beb3de42cbda20a7dea747f2dcb5c92145b97c06fec7a", func := "beaconry/beaconrylaw.VectorTells", spec := "vectorTells", apart := false, narrowed := true }
def VectorTellsUptoSaid : Prop := vectorTellsUptoRow.holds Try.pinned (OpenSpec.upto vectorTellsSpec)

/-- 'beaconrylaw.CutManies', WHERE WHAT IT READS IS OF BULK AT MOST 1048576: true; the input reads as it did. -/
def cutManiesUptoRow : OpenClaim := { program := "ytmfidlalejdikaa", sum := "bb482f493f72e64cce4beb3de42cbda20a7dea747f2dcb5c92145b97c06fec7a", func := "beaconry/beaconrylaw.CutManies", spec := "cutManies", recurses := true, apart := false, narrowed := true }
def CutManiesUptoSaid : Prop := cutManiesUptoRow.holds Try.pinned (OpenSpec.upto cutManiesSpec)

/-- 'beaconrylaw.CutLeasts', WHERE WHAT IT READS IS OF BULK AT MOST 1048576: true; the input reads as it did. -/
def cutLeastsUptoRow : OpenClaim := { program := "ytmfidlalejdikaa", sum := "bb482f493f72e64cce4beb3de42cbda20a7dea747f2dcb5c92145b97c06fec7a", func := "beaconry/beaconrylaw.CutLeasts", spec := "cutLeasts", apart := false, narrowed := true }
def CutLeastsUptoSaid : Prop := cutLeastsUptoRow.holds Try.pinned (OpenSpec.upto cutLeastsSpec)

/-- 'beaconrylaw.CutIs', WHERE WHAT IT READS IS OF BULK AT MOST 1048576: true; the input reads as it did. -/
def cutIsUptoRow : OpenClaim := { program := "ytmfidlalejdikaa", sum := "bb482f493f72e64cce4beb3de42cbda20a7dea747f2dcb5c92145b97c06fec7a", func := "beaconry/beaconrylaw.CutIs", spec := "cutIs", apart := false, narrowed := true }
def CutIsUptoSaid : Prop := cutIsUptoRow.holds Try.pinned (OpenSpec.upto cutIsSpec)

/-- 'beaconrylaw.TickOrders', WHERE WHAT IT READS IS OF BULK AT MOST 1048576: true; the input reads as it did. -/
def tickOrdersUptoRow : OpenClaim := { program := "ytmfidlalejdikaa", sum := "bb482f493f72e64cce4beb3de42cbda20a7dea747f2dcb5c92145b97c06fec7a", func := "beaconry/beaconrylaw.TickOrders", spec := "tickOrders", unfollowed := true, recurses := true, apart := false, narrowed := true }
def TickOrdersUptoSaid : Prop := tickOrdersUptoRow.holds Try.pinned (OpenSpec.upto tickOrdersSpec)

/-- 'beaconrylaw.CutWays', WHERE WHAT IT READS IS OF BULK AT MOST 1048576: true; the input reads as it did. -/
def cutWaysUptoRow : OpenClaim := { program := "ytmfidlalejdikaa", sum := "bb482f493f72e64cce4beb3de42cbda20a7dea747f2dcb5c92145b97c06fec7a", func := "beaconry/beaconrylaw.CutWays", spec := "cutWays", unfollowed := true, recurses := true, apart := false, narrowed := true }
def CutWaysUptoSaid : Prop := cutWaysUptoRow.holds Try.pinned (OpenSpec.upto cutWaysSpec)

end Rows
end Go.Proofs.Ytmfidlalejdikaa
