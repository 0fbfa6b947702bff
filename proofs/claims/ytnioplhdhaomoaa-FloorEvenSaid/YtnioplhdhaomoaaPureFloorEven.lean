/- FloorEven: for every placement, each block is in its home's Blocks alone; rows and spreads are even. No condition. -/
import Derived.Test.YtnioplhdhaomoaaEven
import Derived.Test.YtnioplhdhaomoaaPureFloorHomes
namespace Go.Proofs.Ytnioplhdhaomoaa.Pure
open Go.RowKit Go.Proofs.Ytnioplhdhaomoaa.PA Go.Proofs.YtnioplhdhaomoaaW.PrintWords Go.Proofs.YtnioplhdhaomoaaW.PrintLast Go.Proofs.Ytnioplhdhaomoaa.Spec
theorem FloorEven : ∀ (x0 : S34), ((Lit.int .u8 x0.f0).wf = true ∧ (Lit.int .i64 x0.f1).wf = true ∧ (Lit.int .i64 x0.f2).wf = true ∧ (Lit.int .i64 x0.f3).wf = true ∧ (x0.f4.length * 8 ≤ 140737488351232 ∧ ∀ y ∈ x0.f4, (Lit.int .i64 y).wf = true)) → ∃ k, recouplaw15_FloorEven.f k x0.f0 x0.f1 x0.f2 x0.f3 x0.f4 = some true := fun x0 h => floorEven x0.f0 x0.f1 x0.f2 x0.f3 x0.f4 (by have := h.2.2.2.2.1; omega)
end Go.Proofs.Ytnioplhdhaomoaa.Pure
