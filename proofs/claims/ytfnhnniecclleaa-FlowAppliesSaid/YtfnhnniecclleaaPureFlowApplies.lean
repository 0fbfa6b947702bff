/- FlowApplies: for every flow and every row of blocks, Run is the matrix applied. No condition. -/
import Derived.Test.YtfnhnniecclleaaApp
namespace Go.Proofs.Ytfnhnniecclleaa.Pure
open Go.RowKit Go.Proofs.Ytfnhnniecclleaa.PA Go.Proofs.YtfnhnniecclleaaW.PrintWords Go.Proofs.YtfnhnniecclleaaW.PrintLast Go.Proofs.Ytfnhnniecclleaa.Spec
theorem FlowApplies : ∀ (x0 : S25) (x1 : List (List Int)), FlowI x0 → BlI x1 → ∃ k, recouplaw21_FlowApplies.f k x0.f0 x0.f1 x0.f2 x1 = some true := fun _ _ h hb => flowApplies h hb
end Go.Proofs.Ytfnhnniecclleaa.Pure
