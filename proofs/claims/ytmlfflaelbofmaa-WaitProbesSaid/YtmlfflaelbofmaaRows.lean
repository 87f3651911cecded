/-
  No cell of these rows narrows 'for every input' (looked for: loops, veiled, ifaces, maps, wideKeys, modest, calm, conditions, laid).
  DERIVED. THE GIVEN ROWS OF THIS SEAT. 12 by the template 'for every input the law returns true; each argument reads behind the call as it read before'; 0 by the template 'total and deterministic' (their statements: YtmlfflaelbofmaaTotals.lean).
  GIVEN WITH THE SEED: the statements are not yours to turn. If you find one false, say at which input.
  Laid BY PROGRAM, IN A SANDBOX (cutbox-rows.mjs): the forced cells as the released guide's own fill.sh prints them over the translation 833b6fe28713b1dc… (all of the seat's roots in one cut). By AI agents, Wed Nov 11 2026. No macro, syntax, notation, axiom, sorry.
-/
import Derived.Test.YtmlfflaelbofmaaChecked
import GoSem.Claim
import GoSem.ClaimJoined
import GoSem.ClaimMapViews
import Derived.JoinedTies
import Derived.KernelRfl
namespace Go.Proofs.Ytmlfflaelbofmaa
/- THE CELL 'sum', in the pinned program and in every row, IS THE sha256 OF THE DUMP (.gsa) THAT YtmlfflaelbofmaaProg.lean LOADS. Nothing in Lean hashes anything: it is a label: what it is worth is what the hold of that sum in a sandbox is worth. -/
noncomputable def Try.pinned : Pinned := { name := "ytmlfflaelbofmaa", sum := "833b6fe28713b1dc41ffa733c92e325a3ffe30f4d1759c82816026c0898c9bf2", checked := Try.checked }
namespace Rows
def none {H : Type} : Left H := { results := [], args := [] }

/-- 'beaconrylaw.LineChecks': WHATEVER THE INPUT: true; the input reads as it did. -/
def lineChecksSpec : ChangeSpec := { name := "lineChecks", fn := fun _ => fun
  | [d] => { results := [.lit (.bool true)], args := [d] }
  | _ => none }
def lineChecksRow : OpenClaim := { program := "ytmlfflaelbofmaa", sum := "833b6fe28713b1dc41ffa733c92e325a3ffe30f4d1759c82816026c0898c9bf2", func := "beaconry/beaconrylaw.LineChecks", spec := "lineChecks", plainKeys := false, apart := false }
def LineChecksSaid : Prop := lineChecksRow.holds Try.pinned (OpenSpec.ofChange lineChecksSpec)

/-- ITS FALSE NEIGHBOUR: 'it returns false'. Refute it at one input. -/
def lineChecksWrong : ChangeSpec := { name := "lineChecks", fn := fun _ => fun
  | [d] => { results := [.lit (.bool false)], args := [d] }
  | _ => none }
def LineChecksWrongFalsely : Prop := lineChecksRow.holds Try.pinned (OpenSpec.ofChange lineChecksWrong)

/-- 'beaconrylaw.LineEaches': WHATEVER THE INPUT: true; the input reads as it did. -/
def lineEachesSpec : ChangeSpec := { name := "lineEaches", fn := fun _ => fun
  | [d] => { results := [.lit (.bool true)], args := [d] }
  | _ => none }
def lineEachesRow : OpenClaim := { program := "ytmlfflaelbofmaa", sum := "833b6fe28713b1dc41ffa733c92e325a3ffe30f4d1759c82816026c0898c9bf2", func := "beaconry/beaconrylaw.LineEaches", spec := "lineEaches", unfollowed := true, recurses := true, plainKeys := false, apart := false }
def LineEachesSaid : Prop := lineEachesRow.holds Try.pinned (OpenSpec.ofChange lineEachesSpec)

/-- ITS FALSE NEIGHBOUR: 'it returns false'. Refute it at one input. -/
def lineEachesWrong : ChangeSpec := { name := "lineEaches", fn := fun _ => fun
  | [d] => { results := [.lit (.bool false)], args := [d] }
  | _ => none }
def LineEachesWrongFalsely : Prop := lineEachesRow.holds Try.pinned (OpenSpec.ofChange lineEachesWrong)

/-- 'beaconrylaw.LineTells': WHATEVER THE INPUT: true; the input reads as it did. -/
def lineTellsSpec : ChangeSpec := { name := "lineTells", fn := fun _ => fun
  | [d] => { results := [.lit (.bool true)], args := [d] }
  | _ => none }
def lineTellsRow : OpenClaim := { program := "ytmlfflaelbofmaa", sum := "833b6fe28713b1dc41ffa733c92e325a3ffe30f4d1759c82816026c0898c9bf2", func := "beaconry/beaconrylaw.LineTells", spec := "lineTells", unfollowed := true, recurses := true, plainKeys := false, apart := false }
def LineTellsSaid : Prop := lineTellsRow.holds Try.pinned (OpenSpec.ofChange lineTellsSpec)

/-- ITS FALSE NEIGHBOUR: 'it returns false'. Refute it at one input. -/
def lineTellsWrong : ChangeSpec := { name := "lineTells", fn := fun _ => fun
  | [d] => { results := [.lit (.bool false)], args := [d] }
  | _ => none }
def LineTellsWrongFalsely : Prop := lineTellsRow.holds Try.pinned (OpenSpec.ofChange lineTellsWrong)

/-- 'beaconrylaw.LineOrders': WHATEVER THE INPUT: true; the input reads as it did. -/
def lineOrdersSpec : ChangeSpec := { name := "lineOrders", fn := fun _ => fun
  | [d] => { results := [.lit (.bool true)], args := [d] }
  | _ => none }
def lineOrdersRow : OpenClaim := { program := "ytmlfflaelbofmaa", sum := "833b6fe28713b1dc41ffa733c92e325a3ffe30f4d1759c82816026c0898c9bf2", func := "beaconry/beaconrylaw.LineOrders", spec := "lineOrders", unfollowed := true, recurses := true, plainKeys := false, apart := false }
def LineOrdersSaid : Prop := lineOrdersRow.holds Try.pinned (OpenSpec.ofChange lineOrdersSpec)

/-- ITS FALSE NEIGHBOUR: 'it returns false'. Refute it at one input. -/
def lineOrdersWrong : ChangeSpec := { name := "lineOrders", fn := fun _ => fun
  | [d] => { results := [.lit (.bool false)], args := [d] }
  | _ => none }
def LineOrdersWrongFalsely : Prop := lineOrdersRow.holds Try.pinned (OpenSpec.ofChange lineOrdersWrong)

/-- 'beaconrylaw.WaitAlls': WHATEVER THE INPUT: true; the input reads as it did. -/
def waitAllsSpec : ChangeSpec := { name := "waitAlls", fn := fun _ => fun
  | [d] => { results := [.lit (.bool true)], args := [d] }
  | _ => none }
def waitAllsRow : OpenClaim := { program := "ytmlfflaelbofmaa", sum := "833b6fe28713b1dc41ffa733c92e325a3ffe30f4d1759c82816026c0898c9bf2", func := "beaconry/beaconrylaw.WaitAlls", spec := "waitAlls", unfollowed := true, recurses := true, plainKeys := false, apart := false }
def WaitAllsSaid : Prop := waitAllsRow.holds Try.pinned (OpenSpec.ofChange waitAllsSpec)

/-- ITS FALSE NEIGHBOUR: 'it returns false'. Refute it at one input. -/
def waitAllsWrong : ChangeSpec := { name := "waitAlls", fn := fun _ => fun
  | [d] => { results := [.lit (.bool false)], args := [d] }
  | _ => none }
def WaitAllsWrongFalsely : Prop := waitAllsRow.holds Try.pinned (OpenSpec.ofChange waitAllsWrong)

/-- 'beaconrylaw.WaitAnys': WHATEVER THE INPUT: true; the input reads as it did. -/
def waitAnysSpec : ChangeSpec := { name := "waitAnys", fn := fun _ => fun
  | [d] => { results := [.lit (.bool true)], args := [d] }
  | _ => none }
def waitAnysRow : OpenClaim := { program := "ytmlfflaelbofmaa", sum := "833b6fe28713b1dc41ffa733c92e325a3ffe30f4d1759c82816026c0898c9bf2", func := "beaconry/beaconrylaw.WaitAnys", spec := "waitAnys", unfollowed := true, recurses := true, plainKeys := false, apart := false }
def WaitAnysSaid : Prop := waitAnysRow.holds Try.pinned (OpenSpec.ofChange waitAnysSpec)

/-- ITS FALSE NEIGHBOUR: 'it returns false'. Refute it at one input. -/
def waitAnysWrong : ChangeSpec := { name := "waitAnys", fn := fun _ => fun
  | [d] => { results := [.lit (.bool false)], args := [d] }
  | _ => none }
def WaitAnysWrongFalsely : Prop := waitAnysRow.holds Try.pinned (OpenSpec.ofChange waitAnysWrong)

/-- 'beaconrylaw.WaitProbes': WHATEVER THE INPUT: true; the input reads as it did. -/
def waitProbesSpec : ChangeSpec := { name := "waitProbes", fn := fun _ => fun
  | [d1, d2] => { results := [.lit (.bool true)], args := [d1, d2] }
  | _ => none }
def waitProbesRow : OpenClaim := { program := "ytmlfflaelbofmaa", sum := "833b6fe28713b1dc41ffa733c92e325a3ffe30f4d1759c82816026c0898c9bf2", func := "beaconry/beaconrylaw.WaitProbes", spec := "waitProbes", plainKeys := false, apart := false }
def WaitProbesSaid : Prop := waitProbesRow.holds Try.pinned (OpenSpec.ofChange waitProbesSpec)

/-- ITS FALSE NEIGHBOUR: 'it returns false'. Refute it at one input. -/
def waitProbesWrong : ChangeSpec := { name := "waitProbes", fn := fun _ => fun
  | [d1, d2] => { results := [.lit (.bool false)], args := [d1, d2] }
  | _ => none }
def WaitProbesWrongFalsely : Prop := waitProbesRow.holds Try.pinned (OpenSpec.ofChange waitProbesWrong)

/-- 'beaconrylaw.QuorumWins': WHATEVER THE INPUT: true; the input reads as it did. -/
def quorumWinsSpec : ChangeSpec := { name := "quorumWins", fn := fun _ => fun
  | [d1, d2, d3] => { results := [.lit (.bool true)], args := [d1, d2, d3] }
  | _ => none }
def quorumWinsRow : OpenClaim := { program := "ytmlfflaelbofmaa", sum := "833b6fe28713b1dc41ffa733c92e325a3ffe30f4d1759c82816026c0898c9bf2", func := "beaconry/beaconrylaw.QuorumWins", spec := "quorumWins", unfollowed := true, recurses := true, plainKeys := false, apart := false }
def QuorumWinsSaid : Prop := quorumWinsRow.holds Try.pinned (OpenSpec.ofChange quorumWinsSpec)

/-- ITS FALSE NEIGHBOUR: 'it returns false'. Refute it at one input. -/
def quorumWinsWrong : ChangeSpec := { name := "quorumWins", fn := fun _ => fun
  | [d1, d2, d3] => { results := [.lit (.bool false)], args := [d1, d2, d3] }
  | _ => none }
def QuorumWinsWrongFalsely : Prop := quorumWinsRow.holds Try.pinned (OpenSpec.ofChange quorumWinsWrong)

/-- 'beaconrylaw.QuorumMeets': WHATEVER THE INPUT: true; the input reads as it did. -/
def quorumMeetsSpec : ChangeSpec := { name := "quorumMeets", fn := fun _ => fun
  | [d1, d2] => { results := [.lit (.bool true)], args := [d1, d2] }
  | _ => none }
def quorumMeetsRow : OpenClaim := { program := "ytmlfflaelbofmaa", sum := "833b6fe28713b1dc41ffa733c92e325a3ffe30f4d1759c82816026c0898c9bf2", func := "beaconry/beaconrylaw.QuorumMeets", spec := "quorumMeets", unfollowed := true, recurses := true, plainKeys := false, apart := false }
def QuorumMeetsSaid : Prop := quorumMeetsRow.holds Try.pinned (OpenSpec.ofChange quorumMeetsSpec)

/-- ITS FALSE NEIGHBOUR: 'it returns false'. Refute it at one input. -/
def quorumMeetsWrong : ChangeSpec := { name := "quorumMeets", fn := fun _ => fun
  | [d1, d2] => { results := [.lit (.bool false)], args := [d1, d2] }
  | _ => none }
def QuorumMeetsWrongFalsely : Prop := quorumMeetsRow.holds Try.pinned (OpenSpec.ofChange quorumMeetsWrong)

/-- 'beaconrylaw.QuorumFulls': WHATEVER THE INPUT: true; the input reads as it did. -/
def quorumFullsSpec : ChangeSpec := { name := "quorumFulls", fn := fun _ => fun
  | [d1, d2] => { results := [.lit (.bool true)], args := [d1, d2] }
  | _ => none }
def quorumFullsRow : OpenClaim := { program := "ytmlfflaelbofmaa", sum := "833b6fe28713b1dc41ffa733c92e325a3ffe30f4d1759c82816026c0898c9bf2", func := "beaconry/beaconrylaw.QuorumFulls", spec := "quorumFulls", unfollowed := true, recurses := true, plainKeys := false, apart := false }
def QuorumFullsSaid : Prop := quorumFullsRow.holds Try.pinned (OpenSpec.ofChange quorumFullsSpec)

/-- ITS FALSE NEIGHBOUR: 'it returns false'. Refute it at one input. -/
def quorumFullsWrong : ChangeSpec := { name := "quorumFulls", fn := fun _ => fun
  | [d1, d2] => { results := [.lit (.bool false)], args := [d1, d2] }
  | _ => none }
def QuorumFullsWrongFalsely : Prop := quorumFullsRow.holds Try.pinned (OpenSpec.ofChange quorumFullsWrong)

/-- 'beaconrylaw.QuorumVotes': WHATEVER THE INPUT: true; the input reads as it did. -/
def quorumVotesSpec : ChangeSpec := { name := "quorumVotes", fn := fun _ => fun
  | [d1, d2] => { results := [.lit (.bool true)], args := [d1, d2] }
  | _ => none }
def quorumVotesRow : OpenClaim := { program := "ytmlfflaelbofmaa", sum := "833b6fe28713b1dc41ffa733c92e325a3ffe30f4d1759c82816026c0898c9bf2", func := "beaconry/beaconrylaw.QuorumVotes", spec := "quorumVotes", unfollowed := true, recurses := true, plainKeys := false, apart := false }
def QuorumVotesSaid : Prop := quorumVotesRow.holds Try.pinned (OpenSpec.ofChange quorumVotesSpec)

/-- ITS FALSE NEIGHBOUR: 'it returns false'. Refute it at one input. -/
def quorumVotesWrong : ChangeSpec := { name := "quorumVotes", fn := fun _ => fun
  | [d1, d2] => { results := [.lit (.bool false)], args := [d1, d2] }
  | _ => none }
def QuorumVotesWrongFalsely : Prop := quorumVotesRow.holds Try.pinned (OpenSpec.ofChange quorumVotesWrong)

/-- 'beaconrylaw.QuorumBetters': WHATEVER THE INPUT: true; the input reads as it did. -/
def quorumBettersSpec : ChangeSpec := { name := "quorumBetters", fn := fun _ => fun
  | [d1, d2] => { results := [.lit (.bool true)], args := [d1, d2] }
  | _ => none }
def quorumBettersRow : OpenClaim := { program := "ytmlfflaelbofmaa", sum := "833b6fe28713b1dc41ffa733c92e325a3ffe30f4d1759c82816026c0898c9bf2", func := "beaconry/beaconrylaw.QuorumBetters", spec := "quorumBetters", unfollowed := true, recurses := true, plainKeys := false, apart := false }
def QuorumBettersSaid : Prop := quorumBettersRow.holds Try.pinned (OpenSpec.ofChange quorumBettersSpec)

/-- ITS FALSE NEIGHBOUR: 'it returns false'. Refute it at one input. -/
def quorumBettersWrong : ChangeSpec := { name := "quorumBetters", fn := fun _ => fun
  | [d1, d2] => { results := [.lit (.bool false)], args := [d1, d2] }
  | _ => none }
def QuorumBettersWrongFalsely : Prop := quorumBettersRow.holds Try.pinned (OpenSpec.ofChange quorumBettersWrong)

/- THE SECOND FORM. 'bulk': how many values and letters a reading holds, each counted each time it is reached (what is shared counts as often as it is met; a slice's spare places count too). A statement '..UptoSaid' is the law's where the arguments, and the package variables that the reading takes, are together of bulk at most 1048576: NARROWER than '..Said'. Prove '..Said' where nothing that the law and all that it calls make is longer than what came in: it says more and counts as full. Else prove '..UptoSaid'. A law counts once. -/
mutual
def uptoBulk {H : Type} : DataW H → Nat
  | .lit (.string bytes) => bytes.length + 1
  | .lit _ => 1
  | .nil => 1
  | .ptr d => uptoBulk d + 1
  | .slice elems spare => uptoBulkAll elems + uptoBulkAll spare + 1
  | .agg parts => uptoBulkAll parts + 1
  | .iface _ d => uptoBulk d + 1
  | .map entries => uptoBulkEntries entries + 1
  | .held _ => 1
def uptoBulkAll {H : Type} : List (DataW H) → Nat
  | [] => 0
  | d :: r => uptoBulk d + uptoBulkAll r
def uptoBulkEntries {H : Type} : List (Lit × DataW H) → Nat
  | [] => 0
  | x :: r => uptoBulkEntry x + uptoBulkEntries r
def uptoBulkEntry {H : Type} : Lit × DataW H → Nat
  | (.string bytes, d) => bytes.length + uptoBulk d + 1
  | (_, d) => uptoBulk d + 1
 end
def uptoSmall : (H : Type) → List (DataW H) → Bool := fun _ ds => decide (uptoBulkAll ds ≤ 1048576)
def OpenSpec.upto (s : _root_.Go.ChangeSpec) : _root_.Go.OpenSpec := { _root_.Go.OpenSpec.ofChange s with cond := some uptoSmall }

/-- 'beaconrylaw.LineChecks', WHERE WHAT IT READS IS OF BULK AT MOST 1048576: true; the input reads as it did. -/
def lineChecksUptoRow : OpenClaim := { program := "ytmlfflaelbofmaa", sum := "833b6fe28713b1dc41ffa733c92e325a3ffe30f4d1759c82816026c0898c9bf2", func := "beaconry/beaconrylaw.LineChecks", spec := "lineChecks", plainKeys := false, apart := false, narrowed := true }
def LineChecksUptoSaid : Prop := lineChecksUptoRow.holds Try.pinned (OpenSpec.upto lineChecksSpec)

/-- 'beaconrylaw.LineEaches', WHERE WHAT IT READS IS OF BULK AT MOST 1048576: true; the input reads as it did. -/
def lineEachesUptoRow : OpenClaim := { program := "ytmlfflaelbofmaa", sum := "833b6fe28713b1dc41ffa733c92e325a3ffe30f4d1759c82816026c0898c9bf2", func := "beaconry/beaconrylaw.LineEaches", spec := "lineEaches", unfollowed := true, recurses := true, plainKeys := false, apart := false, narrowed := true }
def LineEachesUptoSaid : Prop := lineEachesUptoRow.holds Try.pinned (OpenSpec.upto lineEachesSpec)

/-- 'beaconrylaw.LineTells', WHERE WHAT IT READS IS OF BULK AT MOST 1048576: true; the input reads as it did. -/
def lineTellsUptoRow : OpenClaim := { program := "ytmlfflaelbofmaa", sum := "833b6fe28713b1dc41ffa733c92e325a3ffe30f4d1759c82816026c0898c9bf2", func := "beaconry/beaconrylaw.LineTells", spec := "lineTells", unfollowed := true, recurses := true, plainKeys := false, apart := false, narrowed := true }
def LineTellsUptoSaid : Prop := lineTellsUptoRow.holds Try.pinned (OpenSpec.upto lineTellsSpec)

/-- 'beaconrylaw.LineOrders', WHERE WHAT IT READS IS OF BULK AT MOST 1048576: true; the input reads as it did. -/
def lineOrdersUptoRow : OpenClaim := { program := "ytmlfflaelbofmaa", sum := "833b6fe28713b1dc41ffa733c92e325a3ffe30f4d1759c82816026c0898c9bf2", func := "beaconry/beaconrylaw.LineOrders", spec := "lineOrders", unfollowed := true, recurses := true, plainKeys := false, apart := false, narrowed := true }
def LineOrdersUptoSaid : Prop := lineOrdersUptoRow.holds Try.pinned (OpenSpec.upto lineOrdersSpec)

/-- 'beaconrylaw.WaitAlls', WHERE WHAT IT READS IS OF BULK AT MOST 1048576: true; the input reads as it did. -/
def waitAllsUptoRow : OpenClaim := { program := "ytmlfflaelbofmaa", sum := "833b6fe28713b1dc41ffa733c92e325a3ffe30f4d1759c82816026c0898c9bf2", func := "beaconry/beaconrylaw.WaitAlls", spec := "waitAlls", unfollowed := true, recurses := true, plainKeys := false, apart := false, narrowed := true }
def WaitAllsUptoSaid : Prop := waitAllsUptoRow.holds Try.pinned (OpenSpec.upto waitAllsSpec)

/-- 'beaconrylaw.WaitAnys', WHERE WHAT IT READS IS OF BULK AT MOST 1048576: true; the input reads as it did. -/
def waitAnysUptoRow : OpenClaim := { program := "ytmlfflaelbofmaa", sum := "833b6fe28713b1dc41ffa733c92e325a3ffe30f4d1759c82816026c0898c9bf2", func := "beaconry/beaconrylaw.WaitAnys", spec := "waitAnys", unfollowed := true, recurses := true, plainKeys := false, apart := false, narrowed := true }
def WaitAnysUptoSaid : Prop := waitAnysUptoRow.holds Try.pinned (OpenSpec.upto waitAnysSpec)

/-- 'beaconrylaw.WaitProbes', WHERE WHAT IT READS IS OF BULK AT MOST 1048576: true; the input reads as it did. -/
def waitProbesUptoRow : OpenClaim := { program := "ytmlfflaelbofmaa", sum := "833b6fe28713b1dc41ffa733c92e325a3ffe30f4d1759c82816026c0898c9bf2", func := "beaconry/beaconrylaw.WaitProbes", spec := "waitProbes", plainKeys := false, apart := false, narrowed := true }
def WaitProbesUptoSaid : Prop := waitProbesUptoRow.holds Try.pinned (OpenSpec.upto waitProbesSpec)

/-- 'beaconrylaw.QuorumWins', WHERE WHAT IT READS IS OF BULK AT MOST 1048576: true; the input reads as it did. -/
def quorumWinsUptoRow : OpenClaim := { program := "ytmlfflaelbofmaa", sum := "833b6fe28713b1dc41ffa733c92e325a3ffe30f4d1759c82816026c0898c9bf2", func := "beaconry/beaconrylaw.QuorumWins", spec := "quorumWins", unfollowed := true, recurses := true, plainKeys := false, apart := false, narrowed := true }
def QuorumWinsUptoSaid : Prop := quorumWinsUptoRow.holds Try.pinned (OpenSpec.upto quorumWinsSpec)

/-- 'beaconrylaw.QuorumMeets', WHERE WHAT IT READS IS OF BULK AT MOST 1048576: true; the input reads as it did. -/
def quorumMeetsUptoRow : OpenClaim := { program := "ytmlfflaelbofmaa", sum := "833b6fe28713b1dc41ffa733c92e325a3ffe30f4d1759c82816026c0898c9bf2", func := "beaconry/beaconrylaw.QuorumMeets", spec := "quorumMeets", unfollowed := true, recurses := true, plainKeys := false, apart := false, narrowed := true }
def QuorumMeetsUptoSaid : Prop := quorumMeetsUptoRow.holds Try.pinned (OpenSpec.upto quorumMeetsSpec)

/-- 'beaconrylaw.QuorumFulls', WHERE WHAT IT READS IS OF BULK AT MOST 1048576: true; the input reads as it did. -/
def quorumFullsUptoRow : OpenClaim := { program := "ytmlfflaelbofmaa", sum := "833b6fe28713b1dc41ffa733c92e325a3ffe30f4d1759c82816026c0898c9bf2", func := "beaconry/beaconrylaw.QuorumFulls", spec := "quorumFulls", unfollowed := true, recurses := true, plainKeys := false, apart := false, narrowed := true }
def QuorumFullsUptoSaid : Prop := quorumFullsUptoRow.holds Try.pinned (OpenSpec.upto quorumFullsSpec)

/-- 'beaconrylaw.QuorumVotes', WHERE WHAT IT READS IS OF BULK AT MOST 1048576: true; the input reads as it did. -/
def quorumVotesUptoRow : OpenClaim := { program := "ytmlfflaelbofmaa", sum := "833b6fe28713b1dc41ffa733c92e325a3ffe30f4d1759c82816026c0898c9bf2", func := "beaconry/beaconrylaw.QuorumVotes", spec := "quorumVotes", unfollowed := true, recurses := true, plainKeys := false, apart := false, narrowed := true }
def QuorumVotesUptoSaid : Prop := quorumVotesUptoRow.holds Try.pinned (OpenSpec.upto quorumVotesSpec)

/-- 'beaconrylaw.QuorumBetters', WHERE WHAT IT READS IS OF BULK AT MOST 1048576: true; the input reads as it did. -/
def quorumBettersUptoRow : OpenClaim := { program := "ytmlfflaelbofmaa", sum := "833b6fe28713b1dc41ffa733c92e325a3ffe30f4d1759c82816026c0898c9bf2", func := "beaconry/beaconrylaw.QuorumBetters", spec := "quorumBetters", unfollowed := true, recurses := true, plainKeys := false, apart := false, narrowed := true }
def QuorumBettersUptoSaid : Prop := quorumBettersUptoRow.holds Try.pinned (OpenSpec.upto quorumBettersSpec)

end Rows
end Go.Proofs.Ytmlfflaelbofmaa
