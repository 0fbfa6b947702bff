/- FlowRuns: for every flow and every row of blocks, the program's Run answers as the reference's. No condition. -/
import Derived.Test.YtfnhnniecclleaaRun
namespace Go.Proofs.Ytfnhnniecclleaa.Pure
open Go.RowKit Go.Proofs.Ytfnhnniecclleaa.PA Go.Proofs.YtfnhnniecclleaaW.PrintWords Go.Proofs.YtfnhnniecclleaaW.PrintLast Go.Proofs.Ytfnhnniecclleaa.Spec
theorem FlowRuns : ∀ (x0 : S25) (x1 : List (List Int)), FlowI x0 → BlI x1 → ∃ k, recouplaw21_FlowRuns.f k x0.f0 x0.f1 x0.f2 x1 = some true := fun _ _ h hb => flowRuns h hb.1 (bli_bytes hb)
end Go.Proofs.Ytfnhnniecclleaa.Pure
