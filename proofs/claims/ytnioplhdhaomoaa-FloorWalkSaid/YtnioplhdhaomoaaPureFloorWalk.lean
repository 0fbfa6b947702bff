/- FloorWalk: for every byte, each cell of the spiral is one apart from the one ahead, none is met twice, and At tells its number. No condition. (The walk itself answers true; what is left here is that a byte lies below 256.) -/
import Derived.Test.YtnioplhdhaomoaaPAx7
namespace Go.Proofs.Ytnioplhdhaomoaa.Pure
open Go.RowKit Go.Proofs.Ytnioplhdhaomoaa.PA Go.Proofs.YtnioplhdhaomoaaW.PrintWords Go.Proofs.YtnioplhdhaomoaaW.PrintLast
theorem FloorWalk : ∀ (x0 : Int), (Lit.int .u8 x0).wf = true → ∃ k, recouplaw15_FloorWalk.f k x0 = some true := fun x0 h => by
  have h2 : 0 ≤ x0 ∧ x0 ≤ 255 := by simpa [Lit.wf, IntKind.min, IntKind.max, IntKind.bits, IntKind.signed] using h
  refine ⟨0, ?_⟩
  unfold recouplaw15_FloorWalk.f
  rw [if_pos (by omega)]
end Go.Proofs.Ytnioplhdhaomoaa.Pure
