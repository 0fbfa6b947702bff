/-
  No cell of these rows narrows 'for every input' (looked for: loops, veiled, ifaces, maps, wideKeys, modest, calm, conditions, laid).
  DERIVED. THE GIVEN ROWS OF THIS SEAT. 6 by the template 'for every input the law returns true; each argument reads behind the call as it read before'; 0 by the template 'total and deterministic' (their statements: YtnioplhdhaomoaaTotals.lean).
  GIVEN WITH THE SEED: the statements are not yours to turn. If you find one false, say at which input.
  Laid BY PROGRAM, IN A SANDBOX (cutbox-rows.mjs): the forced cells as the released guide's own fill.sh prints them over the translation decbc019762bd77e… (all of the seat's roots in one cut). By AI agents, Wed Nov 11 2026. No macro, syntax, notation, axiom, sorry.
-/
import Derived.Test.YtnioplhdhaomoaaChecked
import GoSem.Claim
import GoSem.ClaimJoined
import GoSem.ClaimMapViews
import Derived.JoinedTies
import Derived.KernelRfl
namespace Go.Proofs.Ytnioplhdhaomoaa
/- THE CELL 'sum', in the pinned program and in every row, IS THE sha256 OF THE DUMP (.gsa) THAT YtnioplhdhaomoaaProg.lean LOADS. Nothing in Lean hashes anything: it is a label: what it is worth is what the hold of that sum in a sandbox is worth. -/
noncomputable def Try.pinned : Pinned := { name := "ytnioplhdhaomoaa", sum := "decbc019762bd77ef12e4fb2515abec6b4b3c026c71935a341d503b4b9f1d0b6", checked := Try.checked }
namespace Rows
def none {H : Type} : Left H := { results := [], args := [] }

/-- 'recouplaw15.FloorAisles': WHATEVER THE INPUT: true; the input reads as it did. -/
def floorAislesSpec : ChangeSpec := { name := "floorAisles", fn := fun _ => fun
  | [d1, d2, d3] => { results := [.lit (.bool true)], args := [d1, d2, d3] }
  | _ => none }
def floorAislesRow : OpenClaim := { program := "ytnioplhdhaomoaa", sum := "decbc019762bd77ef12e4fb2515abec6b4b3c026c71935a341d503b4b9f1d0b6", func := "recoup/recouplaw15.FloorAisles", spec := "floorAisles", inPlace := ["math.Float64bits", "math.Float64frombits"], unfollowed := true, recurses := true, apart := false }
def FloorAislesSaid : Prop := floorAislesRow.holds Try.pinned (OpenSpec.ofChange floorAislesSpec)

/-- ITS FALSE NEIGHBOUR: 'it returns false'. Refute it at one input. -/
def floorAislesWrong : ChangeSpec := { name := "floorAisles", fn := fun _ => fun
  | [d1, d2, d3] => { results := [.lit (.bool false)], args := [d1, d2, d3] }
  | _ => none }
def FloorAislesWrongFalsely : Prop := floorAislesRow.holds Try.pinned (OpenSpec.ofChange floorAislesWrong)

/-- 'recouplaw15.FloorHomes': WHATEVER THE INPUT: true; the input reads as it did. -/
def floorHomesSpec : ChangeSpec := { name := "floorHomes", fn := fun _ => fun
  | [d1, d2, d3] => { results := [.lit (.bool true)], args := [d1, d2, d3] }
  | _ => none }
def floorHomesRow : OpenClaim := { program := "ytnioplhdhaomoaa", sum := "decbc019762bd77ef12e4fb2515abec6b4b3c026c71935a341d503b4b9f1d0b6", func := "recoup/recouplaw15.FloorHomes", spec := "floorHomes", unfollowed := true, recurses := true, apart := false }
def FloorHomesSaid : Prop := floorHomesRow.holds Try.pinned (OpenSpec.ofChange floorHomesSpec)

/-- ITS FALSE NEIGHBOUR: 'it returns false'. Refute it at one input. -/
def floorHomesWrong : ChangeSpec := { name := "floorHomes", fn := fun _ => fun
  | [d1, d2, d3] => { results := [.lit (.bool false)], args := [d1, d2, d3] }
  | _ => none }
def FloorHomesWrongFalsely : Prop := floorHomesRow.holds Try.pinned (OpenSpec.ofChange floorHomesWrong)

/-- 'recouplaw15.FloorEven': WHATEVER THE INPUT: true; the input reads as it did. -/
def floorEvenSpec : ChangeSpec := { name := "floorEven", fn := fun _ => fun
  | [d] => { results := [.lit (.bool true)], args := [d] }
  | _ => none }
def floorEvenRow : OpenClaim := { program := "ytnioplhdhaomoaa", sum := "decbc019762bd77ef12e4fb2515abec6b4b3c026c71935a341d503b4b9f1d0b6", func := "recoup/recouplaw15.FloorEven", spec := "floorEven", unfollowed := true, recurses := true, apart := false }
def FloorEvenSaid : Prop := floorEvenRow.holds Try.pinned (OpenSpec.ofChange floorEvenSpec)

/-- ITS FALSE NEIGHBOUR: 'it returns false'. Refute it at one input. -/
def floorEvenWrong : ChangeSpec := { name := "floorEven", fn := fun _ => fun
  | [d] => { results := [.lit (.bool false)], args := [d] }
  | _ => none }
def FloorEvenWrongFalsely : Prop := floorEvenRow.holds Try.pinned (OpenSpec.ofChange floorEvenWrong)

/-- 'recouplaw15.FloorParted': WHATEVER THE INPUT: true; the input reads as it did. -/
def floorPartedSpec : ChangeSpec := { name := "floorParted", fn := fun _ => fun
  | [d1, d2, d3] => { results := [.lit (.bool true)], args := [d1, d2, d3] }
  | _ => none }
def floorPartedRow : OpenClaim := { program := "ytnioplhdhaomoaa", sum := "decbc019762bd77ef12e4fb2515abec6b4b3c026c71935a341d503b4b9f1d0b6", func := "recoup/recouplaw15.FloorParted", spec := "floorParted", inPlace := ["math.Float64bits", "math.Float64frombits"], unfollowed := true, recurses := true, apart := false }
def FloorPartedSaid : Prop := floorPartedRow.holds Try.pinned (OpenSpec.ofChange floorPartedSpec)

/-- ITS FALSE NEIGHBOUR: 'it returns false'. Refute it at one input. -/
def floorPartedWrong : ChangeSpec := { name := "floorParted", fn := fun _ => fun
  | [d1, d2, d3] => { results := [.lit (.bool false)], args := [d1, d2, d3] }
  | _ => none }
def FloorPartedWrongFalsely : Prop := floorPartedRow.holds Try.pinned (OpenSpec.ofChange floorPartedWrong)

/-- 'recouplaw15.FloorWalk': WHATEVER THE INPUT: true; the input reads as it did. -/
def floorWalkSpec : ChangeSpec := { name := "floorWalk", fn := fun _ => fun
  | [d] => { results := [.lit (.bool true)], args := [d] }
  | _ => none }
def floorWalkRow : OpenClaim := { program := "ytnioplhdhaomoaa", sum := "decbc019762bd77ef12e4fb2515abec6b4b3c026c71935a341d503b4b9f1d0b6", func := "recoup/recouplaw15.FloorWalk", spec := "floorWalk", inPlace := ["math.archTrunc", "math.Float64bits", "math.Float64frombits"], unfollowed := true, recurses := true, apart := false }
def FloorWalkSaid : Prop := floorWalkRow.holds Try.pinned (OpenSpec.ofChange floorWalkSpec)

/-- ITS FALSE NEIGHBOUR: 'it returns false'. Refute it at one input. -/
def floorWalkWrong : ChangeSpec := { name := "floorWalk", fn := fun _ => fun
  | [d] => { results := [.lit (.bool false)], args := [d] }
  | _ => none }
def FloorWalkWrongFalsely : Prop := floorWalkRow.holds Try.pinned (OpenSpec.ofChange floorWalkWrong)

/-- 'recouplaw15.FloorRound': WHATEVER THE INPUT: true; the input reads as it did. -/
def floorRoundSpec : ChangeSpec := { name := "floorRound", fn := fun _ => fun
  | [d1, d2, d3] => { results := [.lit (.bool true)], args := [d1, d2, d3] }
  | _ => none }
def floorRoundRow : OpenClaim := { program := "ytnioplhdhaomoaa", sum := "decbc019762bd77ef12e4fb2515abec6b4b3c026c71935a341d503b4b9f1d0b6", func := "recoup/recouplaw15.FloorRound", spec := "floorRound", inPlace := ["math.archTrunc", "math.Float64bits", "math.Float64frombits"], unfollowed := true, recurses := true, apart := false }
def FloorRoundSaid : Prop := floorRoundRow.holds Try.pinned (OpenSpec.ofChange floorRoundSpec)

/-- ITS FALSE NEIGHBOUR: 'it returns false'. Refute it at one input. -/
def floorRoundWrong : ChangeSpec := { name := "floorRound", fn := fun _ => fun
  | [d1, d2, d3] => { results := [.lit (.bool false)], args := [d1, d2, d3] }
  | _ => none }
def FloorRoundWrongFalsely : Prop := floorRoundRow.holds Try.pinned (OpenSpec.ofChange floorRoundWrong)

/- THE SECOND FORM. 'bulk': how many values and letters a reading holds, each counted each time it is reached (what is shared counts as often as it is met; a slice's spare places count too). A statement '..UptoSaid' is the law's where the arguments, and the package variables that the reading takes, are together of bulk at most 1048576: NARROWER than '..Said'. Prove '..Said' where nothing that the law and all that it calls make is longer than what came in: it says more and counts as full. Else prove '..UptoSaid'. A law counts once. -/
mutual
def uptoBulk {H : Type} : DataW H → Nat
  | .lit (.string bytes) => bytes.length + 1
  | .lit _ => 1
  | .nil => 1
  | .ptr d => uptoBulk d + 1
  | .slice elems spare => uptoBulkAll elems + uptoBulkAll spare + 1
  | .agg parts => uptoBulkAll parts + 1
  | .iface _ d => uptoBulk d + 1
  | .map entries => uptoBulkEntries entries + 1
  | .held _ => 1
def uptoBulkAll {H : Type} : List (DataW H) → Nat
  | [] => 0
  | d :: r => uptoBulk d + uptoBulkAll r
def uptoBulkEntries {H : Type} : List (Lit × DataW H) → Nat
  | [] => 0
  | x :: r => uptoBulkEntry x + uptoBulkEntries r
def uptoBulkEntry {H : Type} : Lit × DataW H → Nat
  | (.string bytes, d) => bytes.length + uptoBulk d + 1
  | (_, d) => uptoBulk d + 1
 end
def uptoSmall : (H : Type) → List (DataW H) → Bool := fun _ ds => decide (uptoBulkAll ds ≤ 1048576)
def OpenSpec.upto (s : _root_.Go.ChangeSpec) : _root_.Go.OpenSpec := { _root_.Go.OpenSpec.ofChange s with cond := some uptoSmall }

/-- 'recouplaw15.FloorAisles', WHERE WHAT IT READS IS OF BULK AT MOST 1048576: true; the input reads as it did. -/
def floorAislesUptoRow : OpenClaim := { program := "ytnioplhdhaomoaa", sum := "decbc019762bd77ef12e4fb2515abec6b4b3c026c71935a341d503b4b9f1d0b6", func := "recoup/recouplaw15.FloorAisles", spec := "floorAisles", inPlace := ["math.Float64bits", "math.Float64frombits"], unfollowed := true, recurses := true, apart := false, narrowed := true }
def FloorAislesUptoSaid : Prop := floorAislesUptoRow.holds Try.pinned (OpenSpec.upto floorAislesSpec)

/-- 'recouplaw15.FloorHomes', WHERE WHAT IT READS IS OF BULK AT MOST 1048576: true; the input reads as it did. -/
def floorHomesUptoRow : OpenClaim := { program := "ytnioplhdhaomoaa", sum := "decbc019762bd77ef12e4fb2515abec6b4b3c026c71935a341d503b4b9f1d0b6", func := "recoup/recouplaw15.FloorHomes", spec := "floorHomes", unfollowed := true, recurses := true, apart := false, narrowed := true }
def FloorHomesUptoSaid : Prop := floorHomesUptoRow.holds Try.pinned (OpenSpec.upto floorHomesSpec)

/-- 'recouplaw15.FloorEven', WHERE WHAT IT READS IS OF BULK AT MOST 1048576: true; the input reads as it did. -/
def floorEvenUptoRow : OpenClaim := { program := "ytnioplhdhaomoaa", sum := "decbc019762bd77ef12e4fb2515abec6b4b3c026c71935a341d503b4b9f1d0b6", func := "recoup/recouplaw15.FloorEven", spec := "floorEven", unfollowed := true, recurses := true, apart := false, narrowed := true }
def FloorEvenUptoSaid : Prop := floorEvenUptoRow.holds Try.pinned (OpenSpec.upto floorEvenSpec)

/-- 'recouplaw15.FloorParted', WHERE WHAT IT READS IS OF BULK AT MOST 1048576: true; the input reads as it did. -/
def floorPartedUptoRow : OpenClaim := { program := "ytnioplhdhaomoaa", sum := "decbc019762bd77ef12e4fb2515abec6b4b3c026c71935a341d503b4b9f1d0b6", func := "recoup/recouplaw15.FloorParted", spec := "floorParted", inPlace := ["math.Float64bits", "math.Float64frombits"], unfollowed := true, recurses := true, apart := false, narrowed := true }
def FloorPartedUptoSaid : Prop := floorPartedUptoRow.holds Try.pinned (OpenSpec.upto floorPartedSpec)

/-- 'recouplaw15.FloorWalk', WHERE WHAT IT READS IS OF BULK AT MOST 1048576: true; the input reads as it did. -/
def floorWalkUptoRow : OpenClaim := { program := "ytnioplhdhaomoaa", sum := "decbc019762bd77ef12e4fb2515abec6b4b3c026c71935a341d503b4b9f1d0b6", func := "recoup/recouplaw15.FloorWalk", spec := "floorWalk", inPlace := ["math.archTrunc", "math.Float64bits", "math.Float64frombits"], unfollowed := true, recurses := true, apart := false, narrowed := true }
def FloorWalkUptoSaid : Prop := floorWalkUptoRow.holds Try.pinned (OpenSpec.upto floorWalkSpec)

/-- 'recouplaw15.FloorRound', WHERE WHAT IT READS IS OF BULK AT MOST 1048576: true; the input reads as it did. -/
def floorRoundUptoRow : OpenClaim := { program := "ytnioplhdhaomoaa", sum := "decbc019762bd77ef12e4fb2515abec6b4b3c026c71935a341d503b4b9f1d0b6", func := "recoup/recouplaw15.FloorRound", spec := "floorRound", inPlace := ["math.archTrunc", "math.Float64bits", "math.Float64frombits"], unfollowed := true, recurses := true, apart := false, narrowed := true }
def FloorRoundUptoSaid : Prop := floorRoundUptoRow.holds Try.pinned (OpenSpec.upto floorRoundSpec)

end Rows
end Go.Proofs.Ytnioplhdhaomoaa
