/-
  No cell of these rows narrows 'for every input' (looked for: loops, veiled, ifaces, maps, wideKeys, modest, calm, conditions, laid).
  DERIVED. THE GIVEN ROWS OF THIS SEAT. 4 by the template 'for every input the law returns true; each argument reads behind the call as it read before'; 0 by the template 'total and deterministic' (their statements: YtlflfpkjbjbldaaTotals.lean).
  GIVEN WITH THE SEED: the statements are not yours to turn. If you find one false, say at which input.
  Laid BY PROGRAM, IN A SANDBOX (cutbox-rows.mjs): the forced cells as the released guide's own fill.sh prints them over the translation 4c067d7ab9d27f2d… (all of the seat's roots in one cut). By AI agents, Wed Nov 11 2026. No macro, syntax, notation, axiom, sorry.
-/
import Derived.Test.YtlflfpkjbjbldaaChecked
import GoSem.Claim
import GoSem.ClaimJoined
import GoSem.ClaimMapViews
import Derived.JoinedTies
import Derived.KernelRfl
namespace Go.Proofs.Ytlflfpkjbjbldaa
/- THE CELL 'sum', in the pinned program and in every row, IS THE sha256 OF THE DUMP (.gsa) THAT YtlflfpkjbjbldaaProg.lean LOADS. Nothing in Lean hashes anything: it is a label: what it is worth is what the hold of that sum in a sandbox is worth. -/
noncomputable def Try.pinned : Pinned := { name := "ytlflfpkjbjbldaa", sum := "4c067d7ab9d27f2d83b51f5191b2e34cafee736cd7bf35fa433f493891938370", checked := Try.checked }
namespace Rows
def none {H : Type} : Left H := { results := [], args := [] }

/-- 'recouplaw23.RegsFew': WHATEVER THE INPUT: true; the input reads as it did. -/
def regsFewSpec : ChangeSpec := { name := "regsFew", fn := fun _ => fun
  | [d] => { results := [.lit (.bool true)], args := [d] }
  | _ => none }
def regsFewRow : OpenClaim := { program := "ytlflfpkjbjbldaa", sum := "4c067d7ab9d27f2d83b51f5191b2e34cafee736cd7bf35fa433f493891938370", func := "recoup/recouplaw23.RegsFew", spec := "regsFew", unfollowed := true, recurses := true, apart := false }
def RegsFewSaid : Prop := regsFewRow.holds Try.pinned (OpenSpec.ofChange regsFewSpec)

/-- ITS FALSE NEIGHBOUR: 'it returns false'. Refute it at one input. -/
def regsFewWrong : ChangeSpec := { name := "regsFew", fn := fun _ => fun
  | [d] => { results := [.lit (.bool false)], args := [d] }
  | _ => none }
def RegsFewWrongFalsely : Prop := regsFewRow.holds Try.pinned (OpenSpec.ofChange regsFewWrong)

/-- 'recouplaw23.RegsSames': WHATEVER THE INPUT: true; the input reads as it did. -/
def regsSamesSpec : ChangeSpec := { name := "regsSames", fn := fun _ => fun
  | [d1, d2] => { results := [.lit (.bool true)], args := [d1, d2] }
  | _ => none }
def regsSamesRow : OpenClaim := { program := "ytlflfpkjbjbldaa", sum := "4c067d7ab9d27f2d83b51f5191b2e34cafee736cd7bf35fa433f493891938370", func := "recoup/recouplaw23.RegsSames", spec := "regsSames", unfollowed := true, recurses := true, apart := false }
def RegsSamesSaid : Prop := regsSamesRow.holds Try.pinned (OpenSpec.ofChange regsSamesSpec)

/-- ITS FALSE NEIGHBOUR: 'it returns false'. Refute it at one input. -/
def regsSamesWrong : ChangeSpec := { name := "regsSames", fn := fun _ => fun
  | [d1, d2] => { results := [.lit (.bool false)], args := [d1, d2] }
  | _ => none }
def RegsSamesWrongFalsely : Prop := regsSamesRow.holds Try.pinned (OpenSpec.ofChange regsSamesWrong)

/-- 'recouplaw23.RegsRuns': WHATEVER THE INPUT: true; the input reads as it did. -/
def regsRunsSpec : ChangeSpec := { name := "regsRuns", fn := fun _ => fun
  | [d1, d2] => { results := [.lit (.bool true)], args := [d1, d2] }
  | _ => none }
def regsRunsRow : OpenClaim := { program := "ytlflfpkjbjbldaa", sum := "4c067d7ab9d27f2d83b51f5191b2e34cafee736cd7bf35fa433f493891938370", func := "recoup/recouplaw23.RegsRuns", spec := "regsRuns", unfollowed := true, recurses := true, apart := false }
def RegsRunsSaid : Prop := regsRunsRow.holds Try.pinned (OpenSpec.ofChange regsRunsSpec)

/-- ITS FALSE NEIGHBOUR: 'it returns false'. Refute it at one input. -/
def regsRunsWrong : ChangeSpec := { name := "regsRuns", fn := fun _ => fun
  | [d1, d2] => { results := [.lit (.bool false)], args := [d1, d2] }
  | _ => none }
def RegsRunsWrongFalsely : Prop := regsRunsRow.holds Try.pinned (OpenSpec.ofChange regsRunsWrong)

/-- 'recouplaw23.RegsFlows': WHATEVER THE INPUT: true; the input reads as it did. -/
def regsFlowsSpec : ChangeSpec := { name := "regsFlows", fn := fun _ => fun
  | [d1, d2] => { results := [.lit (.bool true)], args := [d1, d2] }
  | _ => none }
def regsFlowsRow : OpenClaim := { program := "ytlflfpkjbjbldaa", sum := "4c067d7ab9d27f2d83b51f5191b2e34cafee736cd7bf35fa433f493891938370", func := "recoup/recouplaw23.RegsFlows", spec := "regsFlows", unfollowed := true, recurses := true, apart := false }
def RegsFlowsSaid : Prop := regsFlowsRow.holds Try.pinned (OpenSpec.ofChange regsFlowsSpec)

/-- ITS FALSE NEIGHBOUR: 'it returns false'. Refute it at one input. -/
def regsFlowsWrong : ChangeSpec := { name := "regsFlows", fn := fun _ => fun
  | [d1, d2] => { results := [.lit (.bool false)], args := [d1, d2] }
  | _ => none }
def RegsFlowsWrongFalsely : Prop := regsFlowsRow.holds Try.pinned (OpenSpec.ofChange regsFlowsWrong)

/- THE SECOND FORM. 'bulk': how many values and letters a reading holds, each counted each time it is reached (what is shared counts as often as it is met; a slice's spare places count too). A statement '..UptoSaid' is the law's where the arguments, and the package variables that the reading takes, are together of bulk at most 1048576: NARROWER than '..Said'. Prove '..Said' where nothing that the law and all that it calls make is longer than what came in: it says more and counts as full. Else prove '..UptoSaid'. A law counts once. -/
mutual
def uptoBulk {H : Type} : DataW H → Nat
  | .lit (.string bytes) => bytes.length + 1
  | .lit _ => 1
  | .nil => 1
  | .ptr d => uptoBulk d + 1
  | .slice elems spare => uptoBulkAll elems + uptoBulkAll spare + 1
  | .agg parts => uptoBulkAll parts + 1
  | .iface _ d => uptoBulk d + 1
  | .map entries => uptoBulkEntries entries + 1
  | .held _ => 1
def uptoBulkAll {H : Type} : List (DataW H) → Nat
  | [] => 0
  | d :: r => uptoBulk d + uptoBulkAll r
def uptoBulkEntries {H : Type} : List (Lit × DataW H) → Nat
  | [] => 0
  | x :: r => uptoBulkEntry x + uptoBulkEntries r
def uptoBulkEntry {H : Type} : Lit × DataW H → Nat
  | (.string bytes, d) => bytes.length + uptoBulk d + 1
  | (_, d) => uptoBulk d + 1
 end
def uptoSmall : (H : Type) → List (DataW H) → Bool := fun _ ds => decide (uptoBulkAll ds ≤ 1048576)
def OpenSpec.upto (s : _root_.Go.ChangeSpec) : _root_.Go.OpenSpec := { _root_.Go.OpenSpec.ofChange s with cond := some uptoSmall }

/-- 'recouplaw23.RegsFew', WHERE WHAT IT READS IS OF BULK AT MOST 1048576: true; the input reads as it did. -/
def regsFewUptoRow : OpenClaim := { program := "ytlflfpkjbjbldaa", sum := "4c067d7ab9d27f2d83b51f5191b2e34cafee736cd7bf35fa433f493891938370", func := "recoup/recouplaw23.RegsFew", spec := "regsFew", unfollowed := true, recurses := true, apart := false, narrowed := true }
def RegsFewUptoSaid : Prop := regsFewUptoRow.holds Try.pinned (OpenSpec.upto regsFewSpec)

/-- 'recouplaw23.RegsSames', WHERE WHAT IT READS IS OF BULK AT MOST 1048576: true; the input reads as it did. -/
def regsSamesUptoRow : OpenClaim := { program := "ytlflfpkjbjbldaa", sum := "4c067d7ab9d27f2d83b51f5191b2e34cafee736cd7bf35fa433f493891938370", func := "recoup/recouplaw23.RegsSames", spec := "regsSames", unfollowed := true, recurses := true, apart := false, narrowed := true }
def RegsSamesUptoSaid : Prop := regsSamesUptoRow.holds Try.pinned (OpenSpec.upto regsSamesSpec)

/-- 'recouplaw23.RegsRuns', WHERE WHAT IT READS IS OF BULK AT MOST 1048576: true; the input reads as it did. -/
def regsRunsUptoRow : OpenClaim := { program := "ytlflfpkjbjbldaa", sum := "4c067d7ab9d27f2d83b51f5191b2e34cafee736cd7bf35fa433f493891938370", func := "recoup/recouplaw23.RegsRuns", spec := "regsRuns", unfollowed := true, recurses := true, apart := false, narrowed := true }
def RegsRunsUptoSaid : Prop := regsRunsUptoRow.holds Try.pinned (OpenSpec.upto regsRunsSpec)

/-- 'recouplaw23.RegsFlows', WHERE WHAT IT READS IS OF BULK AT MOST 1048576: true; the input reads as it did. -/
def regsFlowsUptoRow : OpenClaim := { program := "ytlflfpkjbjbldaa", sum := "4c067d7ab9d27f2d83b51f5191b2e34cafee736cd7bf35fa433f493891938370", func := "recoup/recouplaw23.RegsFlows", spec := "regsFlows", unfollowed := true, recurses := true, apart := false, narrowed := true }
def RegsFlowsUptoSaid : Prop := regsFlowsUptoRow.holds Try.pinned (OpenSpec.upto regsFlowsSpec)

end Rows
end Go.Proofs.Ytlflfpkjbjbldaa
