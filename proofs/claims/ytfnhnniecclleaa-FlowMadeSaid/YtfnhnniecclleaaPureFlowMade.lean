/- FlowMade: for every matrix, every flow and every number of columns, the program's Of and Matrix answer as the reference's. No condition. -/
import Derived.Test.YtfnhnniecclleaaMade
import Derived.Test.YtfnhnniecclleaaPureFlowBack
namespace Go.Proofs.Ytfnhnniecclleaa.Pure
open Go.RowKit Go.Proofs.Ytfnhnniecclleaa.PA Go.Proofs.YtfnhnniecclleaaW.PrintWords Go.Proofs.YtfnhnniecclleaaW.PrintLast Go.Proofs.Ytfnhnniecclleaa.Spec
theorem FlowMade : ∀ (x0 : S47) (x1 : S25) (x2 : Int), ((Lit.int .i64 x0.f0).wf = true ∧ (Lit.int .i64 x0.f1).wf = true ∧ (x0.f2.length * 1 ≤ 140737488351232 ∧ ∀ y ∈ x0.f2, (Lit.int .u8 y).wf = true)) → FlowI x1 → (Lit.int .i64 x2).wf = true → ∃ k, recouplaw21_FlowMade.f k x0.f0 x0.f1 x0.f2 x1.f0 x1.f1 x1.f2 x2 = some true := fun _ _ _ h hb _ => flowMade _ _ _ _ (fun y hy => wf_u8 (h.2.2.2 y hy)) hb
end Go.Proofs.Ytfnhnniecclleaa.Pure
