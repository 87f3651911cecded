/-
  No cell of these rows narrows 'for every input' (looked for: loops, veiled, ifaces, maps, wideKeys, modest, calm, conditions, laid).
  DERIVED. THE GIVEN ROWS OF THIS SEAT. 12 by the template 'for every input the law returns true; each argument reads behind the call as it read before'; 0 by the template 'total and deterministic' (their statements: YtdjmlbjkendobaaTotals.lean).
  GIVEN WITH THE SEED: the statements are not yours to turn. If you find one false, say at which input.
  Laid BY PROGRAM, IN A SANDBOX (cutbox-rows.mjs): the forced cells as the released guide's own fill.sh prints them over the translation 6f3545690eb517de… (all of the seat's roots in one cut). By AI agents, Wed Nov 11 2026. No macro, syntax, notation, axiom, sorry.
-/
import Derived.Test.YtdjmlbjkendobaaChecked
import GoSem.Claim
import GoSem.ClaimJoined
import GoSem.ClaimMapViews
import Derived.JoinedTies
import Derived.KernelRfl
namespace Go.Proofs.Ytdjmlbjkendobaa
/- THE CELL 'sum', in the pinned program and in every row, IS THE sha256 OF THE DUMP (.gsa) THAT YtdjmlbjkendobaaProg.lean LOADS. Nothing in Lean hashes anything: it is a label: what it is worth is what the hold of that sum in a sandbox is worth. -/
noncomputable def Try.pinned : Pinned := { name := "ytdjmlbjkendobaa", sum := "6f3545690eb517de65a4baa276b890f44f808471f2223badb7c47cc96eb51b23", checked := Try.checked }
namespace Rows
def none {H : Type} : Left H := { results := [], args := [] }

/-- 'beaconrylaw.VectorLess': WHATEVER THE INPUT: true; the input reads as it did. -/
def vectorLessSpec : ChangeSpec := { name := "vectorLess", fn := fun _ => fun
  | [d1, d2] => { results := [.lit (.bool true)], args := [d1, d2] }
  | _ => none }
def vectorLessRow : OpenClaim := { program := "ytdjmlbjkendobaa", sum := "6f3545690eb517de65a4baa276b890f44f808471f2223badb7c47cc96eb51b23", func := "beaconry/beaconrylaw.VectorLess", spec := "vectorLess", apart := false }
def VectorLessSaid : Prop := vectorLessRow.holds Try.pinned (OpenSpec.ofChange vectorLessSpec)

/-- ITS FALSE NEIGHBOUR: 'it returns false'. Refute it at one input. -/
def vectorLessWrong : ChangeSpec := { name := "vectorLess", fn := fun _ => fun
  | [d1, d2] => { results := [.lit (.bool false)], args := [d1, d2] }
  | _ => none }
def VectorLessWrongFalsely : Prop := vectorLessRow.holds Try.pinned (OpenSpec.ofChange vectorLessWrong)

/-- 'beaconrylaw.VectorJoins': WHATEVER THE INPUT: true; the input reads as it did. -/
def vectorJoinsSpec : ChangeSpec := { name := "vectorJoins", fn := fun _ => fun
  | [d1, d2] => { results := [.lit (.bool true)], args := [d1, d2] }
  | _ => none }
def vectorJoinsRow : OpenClaim := { program := "ytdjmlbjkendobaa", sum := "6f3545690eb517de65a4baa276b890f44f808471f2223badb7c47cc96eb51b23", func := "beaconry/beaconrylaw.VectorJoins", spec := "vectorJoins", apart := false }
def VectorJoinsSaid : Prop := vectorJoinsRow.holds Try.pinned (OpenSpec.ofChange vectorJoinsSpec)

/-- ITS FALSE NEIGHBOUR: 'it returns false'. Refute it at one input. -/
def vectorJoinsWrong : ChangeSpec := { name := "vectorJoins", fn := fun _ => fun
  | [d1, d2] => { results := [.lit (.bool false)], args := [d1, d2] }
  | _ => none }
def VectorJoinsWrongFalsely : Prop := vectorJoinsRow.holds Try.pinned (OpenSpec.ofChange vectorJoinsWrong)

/-- 'beaconrylaw.ForkLows': WHATEVER THE INPUT: true; the input reads as it did. -/
def forkLowsSpec : ChangeSpec := { name := "forkLows", fn := fun _ => fun
  | [d1, d2] => { results := [.lit (.bool true)], args := [d1, d2] }
  | _ => none }
def forkLowsRow : OpenClaim := { program := "ytdjmlbjkendobaa", sum := "6f3545690eb517de65a4baa276b890f44f808471f2223badb7c47cc96eb51b23", func := "beaconry/beaconrylaw.ForkLows", spec := "forkLows", apart := false }
def ForkLowsSaid : Prop := forkLowsRow.holds Try.pinned (OpenSpec.ofChange forkLowsSpec)

/-- ITS FALSE NEIGHBOUR: 'it returns false'. Refute it at one input. -/
def forkLowsWrong : ChangeSpec := { name := "forkLows", fn := fun _ => fun
  | [d1, d2] => { results := [.lit (.bool false)], args := [d1, d2] }
  | _ => none }
def ForkLowsWrongFalsely : Prop := forkLowsRow.holds Try.pinned (OpenSpec.ofChange forkLowsWrong)

/-- 'beaconrylaw.ForkTurns': WHATEVER THE INPUT: true; the input reads as it did. -/
def forkTurnsSpec : ChangeSpec := { name := "forkTurns", fn := fun _ => fun
  | [d1, d2, d3] => { results := [.lit (.bool true)], args := [d1, d2, d3] }
  | _ => none }
def forkTurnsRow : OpenClaim := { program := "ytdjmlbjkendobaa", sum := "6f3545690eb517de65a4baa276b890f44f808471f2223badb7c47cc96eb51b23", func := "beaconry/beaconrylaw.ForkTurns", spec := "forkTurns", apart := false }
def ForkTurnsSaid : Prop := forkTurnsRow.holds Try.pinned (OpenSpec.ofChange forkTurnsSpec)

/-- ITS FALSE NEIGHBOUR: 'it returns false'. Refute it at one input. -/
def forkTurnsWrong : ChangeSpec := { name := "forkTurns", fn := fun _ => fun
  | [d1, d2, d3] => { results := [.lit (.bool false)], args := [d1, d2, d3] }
  | _ => none }
def ForkTurnsWrongFalsely : Prop := forkTurnsRow.holds Try.pinned (OpenSpec.ofChange forkTurnsWrong)

/-- 'beaconrylaw.ForkRounds': WHATEVER THE INPUT: true; the input reads as it did. -/
def forkRoundsSpec : ChangeSpec := { name := "forkRounds", fn := fun _ => fun
  | [d1, d2] => { results := [.lit (.bool true)], args := [d1, d2] }
  | _ => none }
def forkRoundsRow : OpenClaim := { program := "ytdjmlbjkendobaa", sum := "6f3545690eb517de65a4baa276b890f44f808471f2223badb7c47cc96eb51b23", func := "beaconry/beaconrylaw.ForkRounds", spec := "forkRounds", unfollowed := true, recurses := true, apart := false }
def ForkRoundsSaid : Prop := forkRoundsRow.holds Try.pinned (OpenSpec.ofChange forkRoundsSpec)

/-- ITS FALSE NEIGHBOUR: 'it returns false'. Refute it at one input. -/
def forkRoundsWrong : ChangeSpec := { name := "forkRounds", fn := fun _ => fun
  | [d1, d2] => { results := [.lit (.bool false)], args := [d1, d2] }
  | _ => none }
def ForkRoundsWrongFalsely : Prop := forkRoundsRow.holds Try.pinned (OpenSpec.ofChange forkRoundsWrong)

/-- 'beaconrylaw.ForkRuns': WHATEVER THE INPUT: true; the input reads as it did. -/
def forkRunsSpec : ChangeSpec := { name := "forkRuns", fn := fun _ => fun
  | [d1, d2, d3] => { results := [.lit (.bool true)], args := [d1, d2, d3] }
  | _ => none }
def forkRunsRow : OpenClaim := { program := "ytdjmlbjkendobaa", sum := "6f3545690eb517de65a4baa276b890f44f808471f2223badb7c47cc96eb51b23", func := "beaconry/beaconrylaw.ForkRuns", spec := "forkRuns", unfollowed := true, recurses := true, apart := false }
def ForkRunsSaid : Prop := forkRunsRow.holds Try.pinned (OpenSpec.ofChange forkRunsSpec)

/-- ITS FALSE NEIGHBOUR: 'it returns false'. Refute it at one input. -/
def forkRunsWrong : ChangeSpec := { name := "forkRuns", fn := fun _ => fun
  | [d1, d2, d3] => { results := [.lit (.bool false)], args := [d1, d2, d3] }
  | _ => none }
def ForkRunsWrongFalsely : Prop := forkRunsRow.holds Try.pinned (OpenSpec.ofChange forkRunsWrong)

/-- 'beaconrylaw.RingHalf': WHATEVER THE INPUT: true; the input reads as it did. -/
def ringHalfSpec : ChangeSpec := { name := "ringHalf", fn := fun _ => fun
  | [d] => { results := [.lit (.bool true)], args := [d] }
  | _ => none }
def ringHalfRow : OpenClaim := { program := "ytdjmlbjkendobaa", sum := "6f3545690eb517de65a4baa276b890f44f808471f2223badb7c47cc96eb51b23", func := "beaconry/beaconrylaw.RingHalf", spec := "ringHalf", apart := false }
def RingHalfSaid : Prop := ringHalfRow.holds Try.pinned (OpenSpec.ofChange ringHalfSpec)

/-- ITS FALSE NEIGHBOUR: 'it returns false'. Refute it at one input. -/
def ringHalfWrong : ChangeSpec := { name := "ringHalf", fn := fun _ => fun
  | [d] => { results := [.lit (.bool false)], args := [d] }
  | _ => none }
def RingHalfWrongFalsely : Prop := ringHalfRow.holds Try.pinned (OpenSpec.ofChange ringHalfWrong)

/-- 'beaconrylaw.RingHalves': WHATEVER THE INPUT: true; the input reads as it did. -/
def ringHalvesSpec : ChangeSpec := { name := "ringHalves", fn := fun _ => fun
  | [d] => { results := [.lit (.bool true)], args := [d] }
  | _ => none }
def ringHalvesRow : OpenClaim := { program := "ytdjmlbjkendobaa", sum := "6f3545690eb517de65a4baa276b890f44f808471f2223badb7c47cc96eb51b23", func := "beaconry/beaconrylaw.RingHalves", spec := "ringHalves", apart := false }
def RingHalvesSaid : Prop := ringHalvesRow.holds Try.pinned (OpenSpec.ofChange ringHalvesSpec)

/-- ITS FALSE NEIGHBOUR: 'it returns false'. Refute it at one input. -/
def ringHalvesWrong : ChangeSpec := { name := "ringHalves", fn := fun _ => fun
  | [d] => { results := [.lit (.bool false)], args := [d] }
  | _ => none }
def RingHalvesWrongFalsely : Prop := ringHalvesRow.holds Try.pinned (OpenSpec.ofChange ringHalvesWrong)

/-- 'beaconrylaw.RingLeads': WHATEVER THE INPUT: true; the input reads as it did. -/
def ringLeadsSpec : ChangeSpec := { name := "ringLeads", fn := fun _ => fun
  | [d1, d2] => { results := [.lit (.bool true)], args := [d1, d2] }
  | _ => none }
def ringLeadsRow : OpenClaim := { program := "ytdjmlbjkendobaa", sum := "6f3545690eb517de65a4baa276b890f44f808471f2223badb7c47cc96eb51b23", func := "beaconry/beaconrylaw.RingLeads", spec := "ringLeads", apart := false }
def RingLeadsSaid : Prop := ringLeadsRow.holds Try.pinned (OpenSpec.ofChange ringLeadsSpec)

/-- ITS FALSE NEIGHBOUR: 'it returns false'. Refute it at one input. -/
def ringLeadsWrong : ChangeSpec := { name := "ringLeads", fn := fun _ => fun
  | [d1, d2] => { results := [.lit (.bool false)], args := [d1, d2] }
  | _ => none }
def RingLeadsWrongFalsely : Prop := ringLeadsRow.holds Try.pinned (OpenSpec.ofChange ringLeadsWrong)

/-- 'beaconrylaw.GeneralPlays': WHATEVER THE INPUT: true; the input reads as it did. -/
def generalPlaysSpec : ChangeSpec := { name := "generalPlays", fn := fun _ => fun
  | [d1, d2, d3, d4, d5] => { results := [.lit (.bool true)], args := [d1, d2, d3, d4, d5] }
  | _ => none }
def generalPlaysRow : OpenClaim := { program := "ytdjmlbjkendobaa", sum := "6f3545690eb517de65a4baa276b890f44f808471f2223badb7c47cc96eb51b23", func := "beaconry/beaconrylaw.GeneralPlays", spec := "generalPlays", recurses := true, apart := false }
def GeneralPlaysSaid : Prop := generalPlaysRow.holds Try.pinned (OpenSpec.ofChange generalPlaysSpec)

/-- ITS FALSE NEIGHBOUR: 'it returns false'. Refute it at one input. -/
def generalPlaysWrong : ChangeSpec := { name := "generalPlays", fn := fun _ => fun
  | [d1, d2, d3, d4, d5] => { results := [.lit (.bool false)], args := [d1, d2, d3, d4, d5] }
  | _ => none }
def GeneralPlaysWrongFalsely : Prop := generalPlaysRow.holds Try.pinned (OpenSpec.ofChange generalPlaysWrong)

/-- 'beaconrylaw.FloodPlays': WHATEVER THE INPUT: true; the input reads as it did. -/
def floodPlaysSpec : ChangeSpec := { name := "floodPlays", fn := fun _ => fun
  | [d1, d2, d3] => { results := [.lit (.bool true)], args := [d1, d2, d3] }
  | _ => none }
def floodPlaysRow : OpenClaim := { program := "ytdjmlbjkendobaa", sum := "6f3545690eb517de65a4baa276b890f44f808471f2223badb7c47cc96eb51b23", func := "beaconry/beaconrylaw.FloodPlays", spec := "floodPlays", unfollowed := true, recurses := true, apart := false }
def FloodPlaysSaid : Prop := floodPlaysRow.holds Try.pinned (OpenSpec.ofChange floodPlaysSpec)

/-- ITS FALSE NEIGHBOUR: 'it returns false'. Refute it at one input. -/
def floodPlaysWrong : ChangeSpec := { name := "floodPlays", fn := fun _ => fun
  | [d1, d2, d3] => { results := [.lit (.bool false)], args := [d1, d2, d3] }
  | _ => none }
def FloodPlaysWrongFalsely : Prop := floodPlaysRow.holds Try.pinned (OpenSpec.ofChange floodPlaysWrong)

/-- 'beaconrylaw.EchoPlays': WHATEVER THE INPUT: true; the input reads as it did. -/
def echoPlaysSpec : ChangeSpec := { name := "echoPlays", fn := fun _ => fun
  | [d1, d2, d3, d4] => { results := [.lit (.bool true)], args := [d1, d2, d3, d4] }
  | _ => none }
def echoPlaysRow : OpenClaim := { program := "ytdjmlbjkendobaa", sum := "6f3545690eb517de65a4baa276b890f44f808471f2223badb7c47cc96eb51b23", func := "beaconry/beaconrylaw.EchoPlays", spec := "echoPlays", unfollowed := true, recurses := true, apart := false }
def EchoPlaysSaid : Prop := echoPlaysRow.holds Try.pinned (OpenSpec.ofChange echoPlaysSpec)

/-- ITS FALSE NEIGHBOUR: 'it returns false'. Refute it at one input. -/
def echoPlaysWrong : ChangeSpec := { name := "echoPlays", fn := fun _ => fun
  | [d1, d2, d3, d4] => { results := [.lit (.bool false)], args := [d1, d2, d3, d4] }
  | _ => none }
def EchoPlaysWrongFalsely : Prop := echoPlaysRow.holds Try.pinned (OpenSpec.ofChange echoPlaysWrong)

/- THE SECOND FORM. 'bulk': how many values and letters a reading holds, each counted each time it is reached (what is shared counts as often as it is met; a slice's spare places count too). A statement '..UptoSaid' is the law's where the arguments, and the package variables that the reading takes, are together of bulk at most 1048576: NARROWER than '..Said'. Prove '..Said' where nothing that the law and all that it calls make is longer than what came in: it says more and counts as full. Else prove '..UptoSaid'. A law counts once. -/
mutual
def uptoBulk {H : Type} : DataW H → Nat
  | .lit (.string bytes) => bytes.length + 1
  | .lit _ => 1
  | .nil => 1
  | .ptr d => uptoBulk d + 1
  | .slice elems spare => uptoBulkAll elems + uptoBulkAll spare + 1
  | .agg parts => uptoBulkAll parts + 1
  | .iface _ d => uptoBulk d + 1
  | .map entries => uptoBulkEntries entries + 1
  | .held _ => 1
def uptoBulkAll {H : Type} : List (DataW H) → Nat
  | [] => 0
  | d :: r => uptoBulk d + uptoBulkAll r
def uptoBulkEntries {H : Type} : List (Lit × DataW H) → Nat
  | [] => 0
  | x :: r => uptoBulkEntry x + uptoBulkEntries r
def uptoBulkEntry {H : Type} : Lit × DataW H → Nat
  | (.string bytes, d) => bytes.length + uptoBulk d + 1
  | (_, d) => uptoBulk d + 1
 end
def uptoSmall : (H : Type) → List (DataW H) → Bool := fun _ ds => decide (uptoBulkAll ds ≤ 1048576)
def OpenSpec.upto (s : _root_.Go.ChangeSpec) : _root_.Go.OpenSpec := { _root_.Go.OpenSpec.ofChange s with cond := some uptoSmall }

/-- 'beaconrylaw.VectorLess', WHERE WHAT IT READS IS OF BULK AT MOST 1048576: true; the input reads as it did. -/
def vectorLessUptoRow : OpenClaim := { program := "ytdjmlbjkendobaa", sum := "6f3545690eb517de65a4baa276b890f44f808471f2223badb7c47cc96eb51b23", func := "beaconry/beaconrylaw.VectorLess", spec := "vectorLess", apart := false, narrowed := true }
def VectorLessUptoSaid : Prop := vectorLessUptoRow.holds Try.pinned (OpenSpec.upto vectorLessSpec)

/-- 'beaconrylaw.VectorJoins', WHERE WHAT IT READS IS OF BULK AT MOST 1048576: true; the input reads as it did. -/
def vectorJoinsUptoRow : OpenClaim := { program := "ytdjmlbjkendobaa", sum := "6f3545690eb517de65a4baa276b890f44f808471f2223badb7c47cc96eb51b23", func := "beaconry/beaconrylaw.VectorJoins", spec := "vectorJoins", apart := false, narrowed := true }
def VectorJoinsUptoSaid : Prop := vectorJoinsUptoRow.holds Try.pinned (OpenSpec.upto vectorJoinsSpec)

/-- 'beaconrylaw.ForkLows', WHERE WHAT IT READS IS OF BULK AT MOST 1048576: true; the input reads as it did. -/
def forkLowsUptoRow : OpenClaim := { program := "ytdjmlbjkendobaa", sum := "6f3545690eb517de65a4baa276b890f44f808471f2223badb7c47cc96eb51b23", func := "beaconry/beaconrylaw.ForkLows", spec := "forkLows", apart := false, narrowed := true }
def ForkLowsUptoSaid : Prop := forkLowsUptoRow.holds Try.pinned (OpenSpec.upto forkLowsSpec)

/-- 'beaconrylaw.ForkTurns', WHERE WHAT IT READS IS OF BULK AT MOST 1048576: true; the input reads as it did. -/
def forkTurnsUptoRow : OpenClaim := { program := "ytdjmlbjkendobaa", sum := "6f3545690eb517de65a4baa276b890f44f808471f2223badb7c47cc96eb51b23", func := "beaconry/beaconrylaw.ForkTurns", spec := "forkTurns", apart := false, narrowed := true }
def ForkTurnsUptoSaid : Prop := forkTurnsUptoRow.holds Try.pinned (OpenSpec.upto forkTurnsSpec)

/-- 'beaconrylaw.ForkRounds', WHERE WHAT IT READS IS OF BULK AT MOST 1048576: true; the input reads as it did. -/
def forkRoundsUptoRow : OpenClaim := { program := "ytdjmlbjkendobaa", sum := "6f3545690eb517de65a4baa276b890f44f808471f2223badb7c47cc96eb51b23", func := "beaconry/beaconrylaw.ForkRounds", spec := "forkRounds", unfollowed := true, recurses := true, apart := false, narrowed := true }
def ForkRoundsUptoSaid : Prop := forkRoundsUptoRow.holds Try.pinned (OpenSpec.upto forkRoundsSpec)

/-- 'beaconrylaw.ForkRuns', WHERE WHAT IT READS IS OF BULK AT MOST 1048576: true; the input reads as it did. -/
def forkRunsUptoRow : OpenClaim := { program := "ytdjmlbjkendobaa", sum := "6f3545690eb517de65a4baa276b890f44f808471f2223badb7c47cc96eb51b23", func := "beaconry/beaconrylaw.ForkRuns", spec := "forkRuns", unfollowed := true, recurses := true, apart := false, narrowed := true }
def ForkRunsUptoSaid : Prop := forkRunsUptoRow.holds Try.pinned (OpenSpec.upto forkRunsSpec)

/-- 'beaconrylaw.RingHalf', WHERE WHAT IT READS IS OF BULK AT MOST 1048576: true; the input reads as it did. -/
def ringHalfUptoRow : OpenClaim := { program := "ytdjmlbjkendobaa", sum := "6f3545690eb517de65a4baa276b890f44f808471f2223badb7c47cc96eb51b23", func := "beaconry/beaconrylaw.RingHalf", spec := "ringHalf", apart := false, narrowed := true }
def RingHalfUptoSaid : Prop := ringHalfUptoRow.holds Try.pinned (OpenSpec.upto ringHalfSpec)

/-- 'beaconrylaw.RingHalves', WHERE WHAT IT READS IS OF BULK AT MOST 1048576: true; the input reads as it did. -/
def ringHalvesUptoRow : OpenClaim := { program := "ytdjmlbjkendobaa", sum := "6f3545690eb517de65a4baa276b890f44f808471f2223badb7c47cc96eb51b23", func := "beaconry/beaconrylaw.RingHalves", spec := "ringHalves", apart := false, narrowed := true }
def RingHalvesUptoSaid : Prop := ringHalvesUptoRow.holds Try.pinned (OpenSpec.upto ringHalvesSpec)

/-- 'beaconrylaw.RingLeads', WHERE WHAT IT READS IS OF BULK AT MOST 1048576: true; the input reads as it did. -/
def ringLeadsUptoRow : OpenClaim := { program := "ytdjmlbjkendobaa", sum := "6f3545690eb517de65a4baa276b890f44f808471f2223badb7c47cc96eb51b23", func := "beaconry/beaconrylaw.RingLeads", spec := "ringLeads", apart := false, narrowed := true }
def RingLeadsUptoSaid : Prop := ringLeadsUptoRow.holds Try.pinned (OpenSpec.upto ringLeadsSpec)

/-- 'beaconrylaw.GeneralPlays', WHERE WHAT IT READS IS OF BULK AT MOST 1048576: true; the input reads as it did. -/
def generalPlaysUptoRow : OpenClaim := { program := "ytdjmlbjkendobaa", sum := "6f3545690eb517de65a4baa276b890f44f808471f2223badb7c47cc96eb51b23", func := "beaconry/beaconrylaw.GeneralPlays", spec := "generalPlays", recurses := true, apart := false, narrowed := true }
def GeneralPlaysUptoSaid : Prop := generalPlaysUptoRow.holds Try.pinned (OpenSpec.upto generalPlaysSpec)

/-- 'beaconrylaw.FloodPlays', WHERE WHAT IT READS IS OF BULK AT MOST 1048576: true; the input reads as it did. -/
def floodPlaysUptoRow : OpenClaim := { program := "ytdjmlbjkendobaa", sum := "6f3545690eb517de65a4baa276b890f44f808471f2223badb7c47cc96eb51b23", func := "beaconry/beaconrylaw.FloodPlays", spec := "floodPlays", unfollowed := true, recurses := true, apart := false, narrowed := true }
def FloodPlaysUptoSaid : Prop := floodPlaysUptoRow.holds Try.pinned (OpenSpec.upto floodPlaysSpec)

/-- 'beaconrylaw.EchoPlays', WHERE WHAT IT READS IS OF BULK AT MOST 1048576: true; the input reads as it did. -/
def echoPlaysUptoRow : OpenClaim := { program := "ytdjmlbjkendobaa", sum := "6f3545690eb517de65a4baa276b890f44f808471f2223badb7c47cc96eb51b23", func := "beaconry/beaconrylaw.EchoPlays", spec := "echoPlays", unfollowed := true, recurses := true, apart := false, narrowed := true }
def EchoPlaysUptoSaid : Prop := echoPlaysUptoRow.holds Try.pinned (OpenSpec.upto echoPlaysSpec)

end Rows
end Go.Proofs.Ytdjmlbjkendobaa
