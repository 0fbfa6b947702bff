/-
  No cell of these rows narrows 'for every input' (looked for: loops, veiled, ifaces, maps, wideKeys, modest, calm, conditions, laid).
  DERIVED. THE GIVEN ROWS OF THIS SEAT. 8 by the template 'for every input the law returns true; each argument reads behind the call as it read before'; 0 by the template 'total and deterministic' (their statements: YtfnhnniecclleaaTotals.lean).
  GIVEN WITH THE SEED: the statements are not yours to turn. If you find one false, say at which input.
  Laid BY PROGRAM, IN A SANDBOX (cutbox-rows.mjs): the forced cells as the released guide's own fill.sh prints them over the translation 80917c2a52105e5a… (all of the seat's roots in one cut). By AI agents, Wed Nov 11 2026. No macro, syntax, notation, axiom, sorry.
-/
import Derived.Test.YtfnhnniecclleaaChecked
import GoSem.Claim
import GoSem.ClaimJoined
import GoSem.ClaimMapViews
import Derived.JoinedTies
import Derived.KernelRfl
namespace Go.Proofs.Ytfnhnniecclleaa
/- THE CELL 'sum', in the pinned program and in every row, IS THE sha256 OF THE DUMP (.gsa) THAT YtfnhnniecclleaaProg.lean LOADS. Nothing in Lean hashes anything: it is a label: what it is worth is what the hold of that sum in a sandbox is worth. -/
noncomputable def Try.pinned : Pinned := { name := "ytfnhnniecclleaa", sum := "80917c2a52105e5ad3a3e86c9981e34721b3de3e1b1520d3822d5b101caa5e54", checked := Try.checked }
namespace Rows
def none {H : Type} : Left H := { results := [], args := [] }

/-- 'recouplaw21.FlowMays': WHATEVER THE INPUT: true; the input reads as it did. -/
def flowMaysSpec : ChangeSpec := { name := "flowMays", fn := fun _ => fun
  | [d1, d2] => { results := [.lit (.bool true)], args := [d1, d2] }
  | _ => none }
def flowMaysRow : OpenClaim := { program := "ytfnhnniecclleaa", sum := "80917c2a52105e5ad3a3e86c9981e34721b3de3e1b1520d3822d5b101caa5e54", func := "recoup/recouplaw21.FlowMays", spec := "flowMays", unfollowed := true, recurses := true, apart := false }
def FlowMaysSaid : Prop := flowMaysRow.holds Try.pinned (OpenSpec.ofChange flowMaysSpec)

/-- ITS FALSE NEIGHBOUR: 'it returns false'. Refute it at one input. -/
def flowMaysWrong : ChangeSpec := { name := "flowMays", fn := fun _ => fun
  | [d1, d2] => { results := [.lit (.bool false)], args := [d1, d2] }
  | _ => none }
def FlowMaysWrongFalsely : Prop := flowMaysRow.holds Try.pinned (OpenSpec.ofChange flowMaysWrong)

/-- 'recouplaw21.FlowTrims': WHATEVER THE INPUT: true; the input reads as it did. -/
def flowTrimsSpec : ChangeSpec := { name := "flowTrims", fn := fun _ => fun
  | [d] => { results := [.lit (.bool true)], args := [d] }
  | _ => none }
def flowTrimsRow : OpenClaim := { program := "ytfnhnniecclleaa", sum := "80917c2a52105e5ad3a3e86c9981e34721b3de3e1b1520d3822d5b101caa5e54", func := "recoup/recouplaw21.FlowTrims", spec := "flowTrims", unfollowed := true, recurses := true, apart := false }
def FlowTrimsSaid : Prop := flowTrimsRow.holds Try.pinned (OpenSpec.ofChange flowTrimsSpec)

/-- ITS FALSE NEIGHBOUR: 'it returns false'. Refute it at one input. -/
def flowTrimsWrong : ChangeSpec := { name := "flowTrims", fn := fun _ => fun
  | [d] => { results := [.lit (.bool false)], args := [d] }
  | _ => none }
def FlowTrimsWrongFalsely : Prop := flowTrimsRow.holds Try.pinned (OpenSpec.ofChange flowTrimsWrong)

/-- 'recouplaw21.FlowRuns': WHATEVER THE INPUT: true; the input reads as it did. -/
def flowRunsSpec : ChangeSpec := { name := "flowRuns", fn := fun _ => fun
  | [d1, d2] => { results := [.lit (.bool true)], args := [d1, d2] }
  | _ => none }
def flowRunsRow : OpenClaim := { program := "ytfnhnniecclleaa", sum := "80917c2a52105e5ad3a3e86c9981e34721b3de3e1b1520d3822d5b101caa5e54", func := "recoup/recouplaw21.FlowRuns", spec := "flowRuns", unfollowed := true, recurses := true, apart := false }
def FlowRunsSaid : Prop := flowRunsRow.holds Try.pinned (OpenSpec.ofChange flowRunsSpec)

/-- ITS FALSE NEIGHBOUR: 'it returns false'. Refute it at one input. -/
def flowRunsWrong : ChangeSpec := { name := "flowRuns", fn := fun _ => fun
  | [d1, d2] => { results := [.lit (.bool false)], args := [d1, d2] }
  | _ => none }
def FlowRunsWrongFalsely : Prop := flowRunsRow.holds Try.pinned (OpenSpec.ofChange flowRunsWrong)

/-- 'recouplaw21.FlowMade': WHATEVER THE INPUT: true; the input reads as it did. -/
def flowMadeSpec : ChangeSpec := { name := "flowMade", fn := fun _ => fun
  | [d1, d2, d3] => { results := [.lit (.bool true)], args := [d1, d2, d3] }
  | _ => none }
def flowMadeRow : OpenClaim := { program := "ytfnhnniecclleaa", sum := "80917c2a52105e5ad3a3e86c9981e34721b3de3e1b1520d3822d5b101caa5e54", func := "recoup/recouplaw21.FlowMade", spec := "flowMade", unfollowed := true, recurses := true, apart := false }
def FlowMadeSaid : Prop := flowMadeRow.holds Try.pinned (OpenSpec.ofChange flowMadeSpec)

/-- ITS FALSE NEIGHBOUR: 'it returns false'. Refute it at one input. -/
def flowMadeWrong : ChangeSpec := { name := "flowMade", fn := fun _ => fun
  | [d1, d2, d3] => { results := [.lit (.bool false)], args := [d1, d2, d3] }
  | _ => none }
def FlowMadeWrongFalsely : Prop := flowMadeRow.holds Try.pinned (OpenSpec.ofChange flowMadeWrong)

/-- 'recouplaw21.FlowApplies': WHATEVER THE INPUT: true; the input reads as it did. -/
def flowAppliesSpec : ChangeSpec := { name := "flowApplies", fn := fun _ => fun
  | [d1, d2] => { results := [.lit (.bool true)], args := [d1, d2] }
  | _ => none }
def flowAppliesRow : OpenClaim := { program := "ytfnhnniecclleaa", sum := "80917c2a52105e5ad3a3e86c9981e34721b3de3e1b1520d3822d5b101caa5e54", func := "recoup/recouplaw21.FlowApplies", spec := "flowApplies", unfollowed := true, recurses := true, apart := false }
def FlowAppliesSaid : Prop := flowAppliesRow.holds Try.pinned (OpenSpec.ofChange flowAppliesSpec)

/-- ITS FALSE NEIGHBOUR: 'it returns false'. Refute it at one input. -/
def flowAppliesWrong : ChangeSpec := { name := "flowApplies", fn := fun _ => fun
  | [d1, d2] => { results := [.lit (.bool false)], args := [d1, d2] }
  | _ => none }
def FlowAppliesWrongFalsely : Prop := flowAppliesRow.holds Try.pinned (OpenSpec.ofChange flowAppliesWrong)

/-- 'recouplaw21.FlowBack': WHATEVER THE INPUT: true; the input reads as it did. -/
def flowBackSpec : ChangeSpec := { name := "flowBack", fn := fun _ => fun
  | [d1, d2] => { results := [.lit (.bool true)], args := [d1, d2] }
  | _ => none }
def flowBackRow : OpenClaim := { program := "ytfnhnniecclleaa", sum := "80917c2a52105e5ad3a3e86c9981e34721b3de3e1b1520d3822d5b101caa5e54", func := "recoup/recouplaw21.FlowBack", spec := "flowBack", unfollowed := true, recurses := true, apart := false }
def FlowBackSaid : Prop := flowBackRow.holds Try.pinned (OpenSpec.ofChange flowBackSpec)

/-- ITS FALSE NEIGHBOUR: 'it returns false'. Refute it at one input. -/
def flowBackWrong : ChangeSpec := { name := "flowBack", fn := fun _ => fun
  | [d1, d2] => { results := [.lit (.bool false)], args := [d1, d2] }
  | _ => none }
def FlowBackWrongFalsely : Prop := flowBackRow.holds Try.pinned (OpenSpec.ofChange flowBackWrong)

/-- 'recouplaw21.FlowFresh': WHATEVER THE INPUT: true; the input reads as it did. -/
def flowFreshSpec : ChangeSpec := { name := "flowFresh", fn := fun _ => fun
  | [d1, d2, d3] => { results := [.lit (.bool true)], args := [d1, d2, d3] }
  | _ => none }
def flowFreshRow : OpenClaim := { program := "ytfnhnniecclleaa", sum := "80917c2a52105e5ad3a3e86c9981e34721b3de3e1b1520d3822d5b101caa5e54", func := "recoup/recouplaw21.FlowFresh", spec := "flowFresh", unfollowed := true, recurses := true, apart := false }
def FlowFreshSaid : Prop := flowFreshRow.holds Try.pinned (OpenSpec.ofChange flowFreshSpec)

/-- ITS FALSE NEIGHBOUR: 'it returns false'. Refute it at one input. -/
def flowFreshWrong : ChangeSpec := { name := "flowFresh", fn := fun _ => fun
  | [d1, d2, d3] => { results := [.lit (.bool false)], args := [d1, d2, d3] }
  | _ => none }
def FlowFreshWrongFalsely : Prop := flowFreshRow.holds Try.pinned (OpenSpec.ofChange flowFreshWrong)

/-- 'recouplaw21.FlowLess': WHATEVER THE INPUT: true; the input reads as it did. -/
def flowLessSpec : ChangeSpec := { name := "flowLess", fn := fun _ => fun
  | [d1, d2] => { results := [.lit (.bool true)], args := [d1, d2] }
  | _ => none }
def flowLessRow : OpenClaim := { program := "ytfnhnniecclleaa", sum := "80917c2a52105e5ad3a3e86c9981e34721b3de3e1b1520d3822d5b101caa5e54", func := "recoup/recouplaw21.FlowLess", spec := "flowLess", unfollowed := true, recurses := true, apart := false }
def FlowLessSaid : Prop := flowLessRow.holds Try.pinned (OpenSpec.ofChange flowLessSpec)

/-- ITS FALSE NEIGHBOUR: 'it returns false'. Refute it at one input. -/
def flowLessWrong : ChangeSpec := { name := "flowLess", fn := fun _ => fun
  | [d1, d2] => { results := [.lit (.bool false)], args := [d1, d2] }
  | _ => none }
def FlowLessWrongFalsely : Prop := flowLessRow.holds Try.pinned (OpenSpec.ofChange flowLessWrong)

/- THE SECOND FORM. 'bulk': how many values and letters a reading holds, each counted each time it is reached (what is shared counts as often as it is met; a slice's spare places count too). A statement '..UptoSaid' is the law's where the arguments, and the package variables that the reading takes, are together of bulk at most 1048576: NARROWER than '..Said'. Prove '..Said' where nothing that the law and all that it calls make is longer than what came in: it says more and counts as full. Else prove '..UptoSaid'. A law counts once. -/
mutual
def uptoBulk {H : Type} : DataW H → Nat
  | .lit (.string bytes) => bytes.length + 1
  | .lit _ => 1
  | .nil => 1
  | .ptr d => uptoBulk d + 1
  | .slice elems spare => uptoBulkAll elems + uptoBulkAll spare + 1
  | .agg parts => uptoBulkAll parts + 1
  | .iface _ d => uptoBulk d + 1
  | .map entries => uptoBulkEntries entries + 1
  | .held _ => 1
def uptoBulkAll {H : Type} : List (DataW H) → Nat
  | [] => 0
  | d :: r => uptoBulk d + uptoBulkAll r
def uptoBulkEntries {H : Type} : List (Lit × DataW H) → Nat
  | [] => 0
  | x :: r => uptoBulkEntry x + uptoBulkEntries r
def uptoBulkEntry {H : Type} : Lit × DataW H → Nat
  | (.string bytes, d) => bytes.length + uptoBulk d + 1
  | (_, d) => uptoBulk d + 1
 end
def uptoSmall : (H : Type) → List (DataW H) → Bool := fun _ ds => decide (uptoBulkAll ds ≤ 1048576)
def OpenSpec.upto (s : _root_.Go.ChangeSpec) : _root_.Go.OpenSpec := { _root_.Go.OpenSpec.ofChange s with cond := some uptoSmall }

/-- 'recouplaw21.FlowMays', WHERE WHAT IT READS IS OF BULK AT MOST 1048576: true; the input reads as it did. -/
def flowMaysUptoRow : OpenClaim := { program := "ytfnhnniecclleaa", sum := "80917c2a52105e5ad3a3e86c9981e34721b3de3e1b1520d3822d5b101caa5e54", func := "recoup/recouplaw21.FlowMays", spec := "flowMays", unfollowed := true, recurses := true, apart := false, narrowed := true }
def FlowMaysUptoSaid : Prop := flowMaysUptoRow.holds Try.pinned (OpenSpec.upto flowMaysSpec)

/-- 'recouplaw21.FlowTrims', WHERE WHAT IT READS IS OF BULK AT MOST 1048576: true; the input reads as it did. -/
def flowTrimsUptoRow : OpenClaim := { program := "ytfnhnniecclleaa", sum := "80917c2a52105e5ad3a3e86c9981e34721b3de3e1b1520d3822d5b101caa5e54", func := "recoup/recouplaw21.FlowTrims", spec := "flowTrims", unfollowed := true, recurses := true, apart := false, narrowed := true }
def FlowTrimsUptoSaid : Prop := flowTrimsUptoRow.holds Try.pinned (OpenSpec.upto flowTrimsSpec)

/-- 'recouplaw21.FlowRuns', WHERE WHAT IT READS IS OF BULK AT MOST 1048576: true; the input reads as it did. -/
def flowRunsUptoRow : OpenClaim := { program := "ytfnhnniecclleaa", sum := "80917c2a52105e5ad3a3e86c9981e34721b3de3e1b1520d3822d5b101caa5e54", func := "recoup/recouplaw21.FlowRuns", spec := "flowRuns", unfollowed := true, recurses := true, apart := false, narrowed := true }
def FlowRunsUptoSaid : Prop := flowRunsUptoRow.holds Try.pinned (OpenSpec.upto flowRunsSpec)

/-- 'recouplaw21.FlowMade', WHERE WHAT IT READS IS OF BULK AT MOST 1048576: true; the input reads as it did. -/
def flowMadeUptoRow : OpenClaim := { program := "ytfnhnniecclleaa", sum := "80917c2a52105e5ad3a3e86c9981e34721b3de3e1b1520d3822d5b101caa5e54", func := "recoup/recouplaw21.FlowMade", spec := "flowMade", unfollowed := true, recurses := true, apart := false, narrowed := true }
def FlowMadeUptoSaid : Prop := flowMadeUptoRow.holds Try.pinned (OpenSpec.upto flowMadeSpec)

/-- 'recouplaw21.FlowApplies', WHERE WHAT IT READS IS OF BULK AT MOST 1048576: true; the input reads as it did. -/
def flowAppliesUptoRow : OpenClaim := { program := "ytfnhnniecclleaa", sum := "80917c2a52105e5ad3a3e86c9981e34721b3de3e1b1520d3822d5b101caa5e54", func := "recoup/recouplaw21.FlowApplies", spec := "flowApplies", unfollowed := true, recurses := true, apart := false, narrowed := true }
def FlowAppliesUptoSaid : Prop := flowAppliesUptoRow.holds Try.pinned (OpenSpec.upto flowAppliesSpec)

/-- 'recouplaw21.FlowBack', WHERE WHAT IT READS IS OF BULK AT MOST 1048576: true; the input reads as it did. -/
def flowBackUptoRow : OpenClaim := { program := "ytfnhnniecclleaa", sum := "80917c2a52105e5ad3a3e86c9981e34721b3de3e1b1520d3822d5b101caa5e54", func := "recoup/recouplaw21.FlowBack", spec := "flowBack", unfollowed := true, recurses := true, apart := false, narrowed := true }
def FlowBackUptoSaid : Prop := flowBackUptoRow.holds Try.pinned (OpenSpec.upto flowBackSpec)

/-- 'recouplaw21.FlowFresh', WHERE WHAT IT READS IS OF BULK AT MOST 1048576: true; the input reads as it did. -/
def flowFreshUptoRow : OpenClaim := { program := "ytfnhnniecclleaa", sum := "80917c2a52105e5ad3a3e86c9981e34721b3de3e1b1520d3822d5b101caa5e54", func := "recoup/recouplaw21.FlowFresh", spec := "flowFresh", unfollowed := true, recurses := true, apart := false, narrowed := true }
def FlowFreshUptoSaid : Prop := flowFreshUptoRow.holds Try.pinned (OpenSpec.upto flowFreshSpec)

/-- 'recouplaw21.FlowLess', WHERE WHAT IT READS IS OF BULK AT MOST 1048576: true; the input reads as it did. -/
def flowLessUptoRow : OpenClaim := { program := "ytfnhnniecclleaa", sum := "80917c2a52105e5ad3a3e86c9981e34721b3de3e1b1520d3822d5b101caa5e54", func := "recoup/recouplaw21.FlowLess", spec := "flowLess", unfollowed := true, recurses := true, apart := false, narrowed := true }
def FlowLessUptoSaid : Prop := flowLessUptoRow.holds Try.pinned (OpenSpec.upto flowLessSpec)

end Rows
end Go.Proofs.Ytfnhnniecclleaa
