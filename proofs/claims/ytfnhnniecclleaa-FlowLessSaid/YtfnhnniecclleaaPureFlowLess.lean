/- FlowLess: for every flow and every row of blocks: what Trim leaves may be, is the Same as its own Trim, costs no more, and runs alike. No condition. -/
import Derived.Test.YtfnhnniecclleaaLess
namespace Go.Proofs.Ytfnhnniecclleaa.Pure
open Go.RowKit Go.Proofs.Ytfnhnniecclleaa.PA Go.Proofs.YtfnhnniecclleaaW.PrintWords Go.Proofs.YtfnhnniecclleaaW.PrintLast Go.Proofs.Ytfnhnniecclleaa.Spec
theorem FlowLess : ∀ (x0 : S25) (x1 : List (List Int)), FlowI x0 → BlI x1 → ∃ k, recouplaw21_FlowLess.f k x0.f0 x0.f1 x0.f2 x1 = some true := fun _ _ h hb => flowLess h hb
end Go.Proofs.Ytfnhnniecclleaa.Pure
