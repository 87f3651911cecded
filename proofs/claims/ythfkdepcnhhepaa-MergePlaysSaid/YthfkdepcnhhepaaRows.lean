/-
  No cell of these rows narrows 'for every input' (looked for: loops, veiled, ifaces, maps, wideKeys, modest, calm, conditions, laid).
  DERIVED. THE GIVEN ROWS OF THIS SEAT. 12 by the template 'for every input the law returns true; each argument reads behind the call as it read before'; 0 by the template 'total and deterministic' (their statements: YthfkdepcnhhepaaTotals.lean).
  GIVEN WITH THE SEED: the statements are not yours to turn. If you find one false, say at which input.
  Laid BY PROGRAM, IN A SANDBOX (cutbox-rows.mjs): the forced cells as the released guide's own fill.sh prints them over the translation a5a6de9ae788d821… (all of the seat's roots in one cut). By AI agents, Wed Nov 11 2026. No macro, syntax, notation, axiom, sorry.
-/
import Derived.Test.YthfkdepcnhhepaaChecked
import GoSem.Claim
import GoSem.ClaimJoined
import GoSem.ClaimMapViews
import Derived.JoinedTies
import Derived.KernelRfl
namespace Go.Proofs.Ythfkdepcnhhepaa
/- THE CELL 'sum', in the pinned program and in every row, IS THE sha256 OF THE DUMP (.gsa) THAT YthfkdepcnhhepaaProg.lean LOADS. Nothing in Lean hashes anything: it is a label: what it is worth is what the hold of that sum in a sandbox is worth. -/
noncomputable def Try.pinned : Pinned := { name := "ythfkdepcnhhepaa", sum := "a5a6de9ae788d8217512766671334c4a3a8a1ebcf7a4878c5095791e9cb66f5e", checked := Try.checked }
namespace Rows
def none {H : Type} : Left H := { results := [], args := [] }

/-- 'beaconrylaw.LeasePlays': WHATEVER THE INPUT: true; the input reads as it did. -/
def leasePlaysSpec : ChangeSpec := { name := "leasePlays", fn := fun _ => fun
  | [d1, d2, d3] => { results := [.lit (.bool true)], args := [d1, d2, d3] }
  | _ => none }
def leasePlaysRow : OpenClaim := { program := "ythfkdepcnhhepaa", sum := "a5a6de9ae788d8217512766671334c4a3a8a1ebcf7a4878c5095791e9cb66f5e", func := "beaconry/beaconrylaw.LeasePlays", spec := "leasePlays", unfollowed := true, recurses := true, plainKeys := false, apart := false }
def LeasePlaysSaid : Prop := leasePlaysRow.holds Try.pinned (OpenSpec.ofChange leasePlaysSpec)

/-- ITS FALSE NEIGHBOUR: 'it returns false'. Refute it at one input. -/
def leasePlaysWrong : ChangeSpec := { name := "leasePlays", fn := fun _ => fun
  | [d1, d2, d3] => { results := [.lit (.bool false)], args := [d1, d2, d3] }
  | _ => none }
def LeasePlaysWrongFalsely : Prop := leasePlaysRow.holds Try.pinned (OpenSpec.ofChange leasePlaysWrong)

/-- 'beaconrylaw.QuietPlays': WHATEVER THE INPUT: true; the input reads as it did. -/
def quietPlaysSpec : ChangeSpec := { name := "quietPlays", fn := fun _ => fun
  | [d1, d2] => { results := [.lit (.bool true)], args := [d1, d2] }
  | _ => none }
def quietPlaysRow : OpenClaim := { program := "ythfkdepcnhhepaa", sum := "a5a6de9ae788d8217512766671334c4a3a8a1ebcf7a4878c5095791e9cb66f5e", func := "beaconry/beaconrylaw.QuietPlays", spec := "quietPlays", unfollowed := true, recurses := true, plainKeys := false, apart := false }
def QuietPlaysSaid : Prop := quietPlaysRow.holds Try.pinned (OpenSpec.ofChange quietPlaysSpec)

/-- ITS FALSE NEIGHBOUR: 'it returns false'. Refute it at one input. -/
def quietPlaysWrong : ChangeSpec := { name := "quietPlays", fn := fun _ => fun
  | [d1, d2] => { results := [.lit (.bool false)], args := [d1, d2] }
  | _ => none }
def QuietPlaysWrongFalsely : Prop := quietPlaysRow.holds Try.pinned (OpenSpec.ofChange quietPlaysWrong)

/-- 'beaconrylaw.PaxosPlays': WHATEVER THE INPUT: true; the input reads as it did. -/
def paxosPlaysSpec : ChangeSpec := { name := "paxosPlays", fn := fun _ => fun
  | [d1, d2] => { results := [.lit (.bool true)], args := [d1, d2] }
  | _ => none }
def paxosPlaysRow : OpenClaim := { program := "ythfkdepcnhhepaa", sum := "a5a6de9ae788d8217512766671334c4a3a8a1ebcf7a4878c5095791e9cb66f5e", func := "beaconry/beaconrylaw.PaxosPlays", spec := "paxosPlays", plainKeys := false, apart := false }
def PaxosPlaysSaid : Prop := paxosPlaysRow.holds Try.pinned (OpenSpec.ofChange paxosPlaysSpec)

/-- ITS FALSE NEIGHBOUR: 'it returns false'. Refute it at one input. -/
def paxosPlaysWrong : ChangeSpec := { name := "paxosPlays", fn := fun _ => fun
  | [d1, d2] => { results := [.lit (.bool false)], args := [d1, d2] }
  | _ => none }
def PaxosPlaysWrongFalsely : Prop := paxosPlaysRow.holds Try.pinned (OpenSpec.ofChange paxosPlaysWrong)

/-- 'beaconrylaw.SnapPlays': WHATEVER THE INPUT: true; the input reads as it did. -/
def snapPlaysSpec : ChangeSpec := { name := "snapPlays", fn := fun _ => fun
  | [d1, d2] => { results := [.lit (.bool true)], args := [d1, d2] }
  | _ => none }
def snapPlaysRow : OpenClaim := { program := "ythfkdepcnhhepaa", sum := "a5a6de9ae788d8217512766671334c4a3a8a1ebcf7a4878c5095791e9cb66f5e", func := "beaconry/beaconrylaw.SnapPlays", spec := "snapPlays", unfollowed := true, recurses := true, plainKeys := false, apart := false }
def SnapPlaysSaid : Prop := snapPlaysRow.holds Try.pinned (OpenSpec.ofChange snapPlaysSpec)

/-- ITS FALSE NEIGHBOUR: 'it returns false'. Refute it at one input. -/
def snapPlaysWrong : ChangeSpec := { name := "snapPlays", fn := fun _ => fun
  | [d1, d2] => { results := [.lit (.bool false)], args := [d1, d2] }
  | _ => none }
def SnapPlaysWrongFalsely : Prop := snapPlaysRow.holds Try.pinned (OpenSpec.ofChange snapPlaysWrong)

/-- 'beaconrylaw.SuspectPlays': WHATEVER THE INPUT: true; the input reads as it did. -/
def suspectPlaysSpec : ChangeSpec := { name := "suspectPlays", fn := fun _ => fun
  | [d1, d2] => { results := [.lit (.bool true)], args := [d1, d2] }
  | _ => none }
def suspectPlaysRow : OpenClaim := { program := "ythfkdepcnhhepaa", sum := "a5a6de9ae788d8217512766671334c4a3a8a1ebcf7a4878c5095791e9cb66f5e", func := "beaconry/beaconrylaw.SuspectPlays", spec := "suspectPlays", plainKeys := false, apart := false }
def SuspectPlaysSaid : Prop := suspectPlaysRow.holds Try.pinned (OpenSpec.ofChange suspectPlaysSpec)

/-- ITS FALSE NEIGHBOUR: 'it returns false'. Refute it at one input. -/
def suspectPlaysWrong : ChangeSpec := { name := "suspectPlays", fn := fun _ => fun
  | [d1, d2] => { results := [.lit (.bool false)], args := [d1, d2] }
  | _ => none }
def SuspectPlaysWrongFalsely : Prop := suspectPlaysRow.holds Try.pinned (OpenSpec.ofChange suspectPlaysWrong)

/-- 'beaconrylaw.CausalPlays': WHATEVER THE INPUT: true; the input reads as it did. -/
def causalPlaysSpec : ChangeSpec := { name := "causalPlays", fn := fun _ => fun
  | [d1, d2] => { results := [.lit (.bool true)], args := [d1, d2] }
  | _ => none }
def causalPlaysRow : OpenClaim := { program := "ythfkdepcnhhepaa", sum := "a5a6de9ae788d8217512766671334c4a3a8a1ebcf7a4878c5095791e9cb66f5e", func := "beaconry/beaconrylaw.CausalPlays", spec := "causalPlays", unfollowed := true, recurses := true, plainKeys := false, apart := false }
def CausalPlaysSaid : Prop := causalPlaysRow.holds Try.pinned (OpenSpec.ofChange causalPlaysSpec)

/-- ITS FALSE NEIGHBOUR: 'it returns false'. Refute it at one input. -/
def causalPlaysWrong : ChangeSpec := { name := "causalPlays", fn := fun _ => fun
  | [d1, d2] => { results := [.lit (.bool false)], args := [d1, d2] }
  | _ => none }
def CausalPlaysWrongFalsely : Prop := causalPlaysRow.holds Try.pinned (OpenSpec.ofChange causalPlaysWrong)

/-- 'beaconrylaw.CopiesPlays': WHATEVER THE INPUT: true; the input reads as it did. -/
def copiesPlaysSpec : ChangeSpec := { name := "copiesPlays", fn := fun _ => fun
  | [d1, d2] => { results := [.lit (.bool true)], args := [d1, d2] }
  | _ => none }
def copiesPlaysRow : OpenClaim := { program := "ythfkdepcnhhepaa", sum := "a5a6de9ae788d8217512766671334c4a3a8a1ebcf7a4878c5095791e9cb66f5e", func := "beaconry/beaconrylaw.CopiesPlays", spec := "copiesPlays", plainKeys := false, apart := false }
def CopiesPlaysSaid : Prop := copiesPlaysRow.holds Try.pinned (OpenSpec.ofChange copiesPlaysSpec)

/-- ITS FALSE NEIGHBOUR: 'it returns false'. Refute it at one input. -/
def copiesPlaysWrong : ChangeSpec := { name := "copiesPlays", fn := fun _ => fun
  | [d1, d2] => { results := [.lit (.bool false)], args := [d1, d2] }
  | _ => none }
def CopiesPlaysWrongFalsely : Prop := copiesPlaysRow.holds Try.pinned (OpenSpec.ofChange copiesPlaysWrong)

/-- 'beaconrylaw.MergePlays': WHATEVER THE INPUT: true; the input reads as it did. -/
def mergePlaysSpec : ChangeSpec := { name := "mergePlays", fn := fun _ => fun
  | [d1, d2] => { results := [.lit (.bool true)], args := [d1, d2] }
  | _ => none }
def mergePlaysRow : OpenClaim := { program := "ythfkdepcnhhepaa", sum := "a5a6de9ae788d8217512766671334c4a3a8a1ebcf7a4878c5095791e9cb66f5e", func := "beaconry/beaconrylaw.MergePlays", spec := "mergePlays", unfollowed := true, recurses := true, plainKeys := false, apart := false }
def MergePlaysSaid : Prop := mergePlaysRow.holds Try.pinned (OpenSpec.ofChange mergePlaysSpec)

/-- ITS FALSE NEIGHBOUR: 'it returns false'. Refute it at one input. -/
def mergePlaysWrong : ChangeSpec := { name := "mergePlays", fn := fun _ => fun
  | [d1, d2] => { results := [.lit (.bool false)], args := [d1, d2] }
  | _ => none }
def MergePlaysWrongFalsely : Prop := mergePlaysRow.holds Try.pinned (OpenSpec.ofChange mergePlaysWrong)

/-- 'beaconrylaw.TurnPlays': WHATEVER THE INPUT: true; the input reads as it did. -/
def turnPlaysSpec : ChangeSpec := { name := "turnPlays", fn := fun _ => fun
  | [d1, d2] => { results := [.lit (.bool true)], args := [d1, d2] }
  | _ => none }
def turnPlaysRow : OpenClaim := { program := "ythfkdepcnhhepaa", sum := "a5a6de9ae788d8217512766671334c4a3a8a1ebcf7a4878c5095791e9cb66f5e", func := "beaconry/beaconrylaw.TurnPlays", spec := "turnPlays", unfollowed := true, recurses := true, plainKeys := false, apart := false }
def TurnPlaysSaid : Prop := turnPlaysRow.holds Try.pinned (OpenSpec.ofChange turnPlaysSpec)

/-- ITS FALSE NEIGHBOUR: 'it returns false'. Refute it at one input. -/
def turnPlaysWrong : ChangeSpec := { name := "turnPlays", fn := fun _ => fun
  | [d1, d2] => { results := [.lit (.bool false)], args := [d1, d2] }
  | _ => none }
def TurnPlaysWrongFalsely : Prop := turnPlaysRow.holds Try.pinned (OpenSpec.ofChange turnPlaysWrong)

/-- 'beaconrylaw.ElectPlays': WHATEVER THE INPUT: true; the input reads as it did. -/
def electPlaysSpec : ChangeSpec := { name := "electPlays", fn := fun _ => fun
  | [d1, d2] => { results := [.lit (.bool true)], args := [d1, d2] }
  | _ => none }
def electPlaysRow : OpenClaim := { program := "ythfkdepcnhhepaa", sum := "a5a6de9ae788d8217512766671334c4a3a8a1ebcf7a4878c5095791e9cb66f5e", func := "beaconry/beaconrylaw.ElectPlays", spec := "electPlays", unfollowed := true, recurses := true, plainKeys := false, apart := false }
def ElectPlaysSaid : Prop := electPlaysRow.holds Try.pinned (OpenSpec.ofChange electPlaysSpec)

/-- ITS FALSE NEIGHBOUR: 'it returns false'. Refute it at one input. -/
def electPlaysWrong : ChangeSpec := { name := "electPlays", fn := fun _ => fun
  | [d1, d2] => { results := [.lit (.bool false)], args := [d1, d2] }
  | _ => none }
def ElectPlaysWrongFalsely : Prop := electPlaysRow.holds Try.pinned (OpenSpec.ofChange electPlaysWrong)

/-- 'beaconrylaw.CommitPlays': WHATEVER THE INPUT: true; the input reads as it did. -/
def commitPlaysSpec : ChangeSpec := { name := "commitPlays", fn := fun _ => fun
  | [d1, d2] => { results := [.lit (.bool true)], args := [d1, d2] }
  | _ => none }
def commitPlaysRow : OpenClaim := { program := "ythfkdepcnhhepaa", sum := "a5a6de9ae788d8217512766671334c4a3a8a1ebcf7a4878c5095791e9cb66f5e", func := "beaconry/beaconrylaw.CommitPlays", spec := "commitPlays", unfollowed := true, recurses := true, plainKeys := false, apart := false }
def CommitPlaysSaid : Prop := commitPlaysRow.holds Try.pinned (OpenSpec.ofChange commitPlaysSpec)

/-- ITS FALSE NEIGHBOUR: 'it returns false'. Refute it at one input. -/
def commitPlaysWrong : ChangeSpec := { name := "commitPlays", fn := fun _ => fun
  | [d1, d2] => { results := [.lit (.bool false)], args := [d1, d2] }
  | _ => none }
def CommitPlaysWrongFalsely : Prop := commitPlaysRow.holds Try.pinned (OpenSpec.ofChange commitPlaysWrong)

/-- 'beaconrylaw.TokenPlays': WHATEVER THE INPUT: true; the input reads as it did. -/
def tokenPlaysSpec : ChangeSpec := { name := "tokenPlays", fn := fun _ => fun
  | [d1, d2] => { results := [.lit (.bool true)], args := [d1, d2] }
  | _ => none }
def tokenPlaysRow : OpenClaim := { program := "ythfkdepcnhhepaa", sum := "a5a6de9ae788d8217512766671334c4a3a8a1ebcf7a4878c5095791e9cb66f5e", func := "beaconry/beaconrylaw.TokenPlays", spec := "tokenPlays", unfollowed := true, recurses := true, plainKeys := false, apart := false }
def TokenPlaysSaid : Prop := tokenPlaysRow.holds Try.pinned (OpenSpec.ofChange tokenPlaysSpec)

/-- ITS FALSE NEIGHBOUR: 'it returns false'. Refute it at one input. -/
def tokenPlaysWrong : ChangeSpec := { name := "tokenPlays", fn := fun _ => fun
  | [d1, d2] => { results := [.lit (.bool false)], args := [d1, d2] }
  | _ => none }
def TokenPlaysWrongFalsely : Prop := tokenPlaysRow.holds Try.pinned (OpenSpec.ofChange tokenPlaysWrong)

/- THE SECOND FORM. 'bulk': how many values and letters a reading holds, each counted each time it is reached (what is shared counts as often as it is met; a slice's spare places count too). A statement '..UptoSaid' is the law's where the arguments, and the package variables that the reading takes, are together of bulk at most 1048576: NARROWER than '..Said'. Prove '..Said' where nothing that the law and all that it calls make is longer than what came in: it says more and counts as full. Else prove '..UptoSaid'. A law counts once. -/
mutual
def uptoBulk {H : Type} : DataW H → Nat
  | .lit (.string bytes) => bytes.length + 1
  | .lit _ => 1
  | .nil => 1
  | .ptr d => uptoBulk d + 1
  | .slice elems spare => uptoBulkAll elems + uptoBulkAll spare + 1
  | .agg parts => uptoBulkAll parts + 1
  | .iface _ d => uptoBulk d + 1
  | .map entries => uptoBulkEntries entries + 1
  | .held _ => 1
def uptoBulkAll {H : Type} : List (DataW H) → Nat
  | [] => 0
  | d :: r => uptoBulk d + uptoBulkAll r
def uptoBulkEntries {H : Type} : List (Lit × DataW H) → Nat
  | [] => 0
  | x :: r => uptoBulkEntry x + uptoBulkEntries r
def uptoBulkEntry {H : Type} : Lit × DataW H → Nat
  | (.string bytes, d) => bytes.length + uptoBulk d + 1
  | (_, d) => uptoBulk d + 1
 end
def uptoSmall : (H : Type) → List (DataW H) → Bool := fun _ ds => decide (uptoBulkAll ds ≤ 1048576)
def OpenSpec.upto (s : _root_.Go.ChangeSpec) : _root_.Go.OpenSpec := { _root_.Go.OpenSpec.ofChange s with cond := some uptoSmall }

/-- 'beaconrylaw.LeasePlays', WHERE WHAT IT READS IS OF BULK AT MOST 1048576: true; the input reads as it did. -/
def leasePlaysUptoRow : OpenClaim := { program := "ythfkdepcnhhepaa", sum := "a5a6de9ae788d8217512766671334c4a3a8a1ebcf7a4878c5095791e9cb66f5e", func := "beaconry/beaconrylaw.LeasePlays", spec := "leasePlays", unfollowed := true, recurses := true, plainKeys := false, apart := false, narrowed := true }
def LeasePlaysUptoSaid : Prop := leasePlaysUptoRow.holds Try.pinned (OpenSpec.upto leasePlaysSpec)

/-- 'beaconrylaw.QuietPlays', WHERE WHAT IT READS IS OF BULK AT MOST 1048576: true; the input reads as it did. -/
def quietPlaysUptoRow : OpenClaim := { program := "ythfkdepcnhhepaa", sum := "a5a6de9ae788d8217512766671334c4a3a8a1ebcf7a4878c5095791e9cb66f5e", func := "beaconry/beaconrylaw.QuietPlays", spec := "quietPlays", unfollowed := true, recurses := true, plainKeys := false, apart := false, narrowed := true }
def QuietPlaysUptoSaid : Prop := quietPlaysUptoRow.holds Try.pinned (OpenSpec.upto quietPlaysSpec)

/-- 'beaconrylaw.PaxosPlays', WHERE WHAT IT READS IS OF BULK AT MOST 1048576: true; the input reads as it did. -/
def paxosPlaysUptoRow : OpenClaim := { program := "ythfkdepcnhhepaa", sum := "a5a6de9ae788d8217512766671334c4a3a8a1ebcf7a4878c5095791e9cb66f5e", func := "beaconry/beaconrylaw.PaxosPlays", spec := "paxosPlays", plainKeys := false, apart := false, narrowed := true }
def PaxosPlaysUptoSaid : Prop := paxosPlaysUptoRow.holds Try.pinned (OpenSpec.upto paxosPlaysSpec)

/-- 'beaconrylaw.SnapPlays', WHERE WHAT IT READS IS OF BULK AT MOST 1048576: true; the input reads as it did. -/
def snapPlaysUptoRow : OpenClaim := { program := "ythfkdepcnhhepaa", sum := "a5a6de9ae788d8217512766671334c4a3a8a1ebcf7a4878c5095791e9cb66f5e", func := "beaconry/beaconrylaw.SnapPlays", spec := "snapPlays", unfollowed := true, recurses := true, plainKeys := false, apart := false, narrowed := true }
def SnapPlaysUptoSaid : Prop := snapPlaysUptoRow.holds Try.pinned (OpenSpec.upto snapPlaysSpec)

/-- 'beaconrylaw.SuspectPlays', WHERE WHAT IT READS IS OF BULK AT MOST 1048576: true; the input reads as it did. -/
def suspectPlaysUptoRow : OpenClaim := { program := "ythfkdepcnhhepaa", sum := "a5a6de9ae788d8217512766671334c4a3a8a1ebcf7a4878c5095791e9cb66f5e", func := "beaconry/beaconrylaw.SuspectPlays", spec := "suspectPlays", plainKeys := false, apart := false, narrowed := true }
def SuspectPlaysUptoSaid : Prop := suspectPlaysUptoRow.holds Try.pinned (OpenSpec.upto suspectPlaysSpec)

/-- 'beaconrylaw.CausalPlays', WHERE WHAT IT READS IS OF BULK AT MOST 1048576: true; the input reads as it did. -/
def causalPlaysUptoRow : OpenClaim := { program := "ythfkdepcnhhepaa", sum := "a5a6de9ae788d8217512766671334c4a3a8a1ebcf7a4878c5095791e9cb66f5e", func := "beaconry/beaconrylaw.CausalPlays", spec := "causalPlays", unfollowed := true, recurses := true, plainKeys := false, apart := false, narrowed := true }
def CausalPlaysUptoSaid : Prop := causalPlaysUptoRow.holds Try.pinned (OpenSpec.upto causalPlaysSpec)

/-- 'beaconrylaw.CopiesPlays', WHERE WHAT IT READS IS OF BULK AT MOST 1048576: true; the input reads as it did. -/
def copiesPlaysUptoRow : OpenClaim := { program := "ythfkdepcnhhepaa", sum := "a5a6de9ae788d8217512766671334c4a3a8a1ebcf7a4878c5095791e9cb66f5e", func := "beaconry/beaconrylaw.CopiesPlays", spec := "copiesPlays", plainKeys := false, apart := false, narrowed := true }
def CopiesPlaysUptoSaid : Prop := copiesPlaysUptoRow.holds Try.pinned (OpenSpec.upto copiesPlaysSpec)

/-- 'beaconrylaw.MergePlays', WHERE WHAT IT READS IS OF BULK AT MOST 1048576: true; the input reads as it did. -/
def mergePlaysUptoRow : OpenClaim := { program := "ythfkdepcnhhepaa", sum := "a5a6de9ae788d8217512766671334c4a3a8a1ebcf7a4878c5095791e9cb66f5e", func := "beaconry/beaconrylaw.MergePlays", spec := "mergePlays", unfollowed := true, recurses := true, plainKeys := false, apart := false, narrowed := true }
def MergePlaysUptoSaid : Prop := mergePlaysUptoRow.holds Try.pinned (OpenSpec.upto mergePlaysSpec)

/-- 'beaconrylaw.TurnPlays', WHERE WHAT IT READS IS OF BULK AT MOST 1048576: true; the input reads as it did. -/
def turnPlaysUptoRow : OpenClaim := { program := "ythfkdepcnhhepaa", sum := "a5a6de9ae788d8217512766671334c4a3a8a1ebcf7a4878c5095791e9cb66f5e", func := "beaconry/beaconrylaw.TurnPlays", spec := "turnPlays", unfollowed := true, recurses := true, plainKeys := false, apart := false, narrowed := true }
def TurnPlaysUptoSaid : Prop := turnPlaysUptoRow.holds Try.pinned (OpenSpec.upto turnPlaysSpec)

/-- 'beaconrylaw.ElectPlays', WHERE WHAT IT READS IS OF BULK AT MOST 1048576: true; the input reads as it did. -/
def electPlaysUptoRow : OpenClaim := { program := "ythfkdepcnhhepaa", sum := "a5a6de9ae788d8217512766671334c4a3a8a1ebcf7a4878c5095791e9cb66f5e", func := "beaconry/beaconrylaw.ElectPlays", spec := "electPlays", unfollowed := true, recurses := true, plainKeys := false, apart := false, narrowed := true }
def ElectPlaysUptoSaid : Prop := electPlaysUptoRow.holds Try.pinned (OpenSpec.upto electPlaysSpec)

/-- 'beaconrylaw.CommitPlays', WHERE WHAT IT READS IS OF BULK AT MOST 1048576: true; the input reads as it did. -/
def commitPlaysUptoRow : OpenClaim := { program := "ythfkdepcnhhepaa", sum := "a5a6de9ae788d8217512766671334c4a3a8a1ebcf7a4878c5095791e9cb66f5e", func := "beaconry/beaconrylaw.CommitPlays", spec := "commitPlays", unfollowed := true, recurses := true, plainKeys := false, apart := false, narrowed := true }
def CommitPlaysUptoSaid : Prop := commitPlaysUptoRow.holds Try.pinned (OpenSpec.upto commitPlaysSpec)

/-- 'beaconrylaw.TokenPlays', WHERE WHAT IT READS IS OF BULK AT MOST 1048576: true; the input reads as it did. -/
def tokenPlaysUptoRow : OpenClaim := { program := "ythfkdepcnhhepaa", sum := "a5a6de9ae788d8217512766671334c4a3a8a1ebcf7a4878c5095791e9cb66f5e", func := "beaconry/beaconrylaw.TokenPlays", spec := "tokenPlays", unfollowed := true, recurses := true, plainKeys := false, apart := false, narrowed := true }
def TokenPlaysUptoSaid : Prop := tokenPlaysUptoRow.holds Try.pinned (OpenSpec.upto tokenPlaysSpec)

end Rows
end Go.Proofs.Ythfkdepcnhhepaa
