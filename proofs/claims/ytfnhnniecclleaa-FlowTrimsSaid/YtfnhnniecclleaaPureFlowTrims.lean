/- FlowTrims: for every flow, the program's Trim and Cost answer as the reference's. No condition. -/
import Derived.Test.YtfnhnniecclleaaTrim
namespace Go.Proofs.Ytfnhnniecclleaa.Pure
open Go.RowKit Go.Proofs.Ytfnhnniecclleaa.PA Go.Proofs.YtfnhnniecclleaaW.PrintWords Go.Proofs.YtfnhnniecclleaaW.PrintLast Go.Proofs.Ytfnhnniecclleaa.Spec
theorem FlowTrims : ∀ (x0 : S25), FlowI x0 → ∃ k, recouplaw21_FlowTrims.f k x0.f0 x0.f1 x0.f2 = some true := fun _ h => flowTrims h
end Go.Proofs.Ytfnhnniecclleaa.Pure
