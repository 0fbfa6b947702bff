/- FlowApplies' plain law: the matrix of a flow, applied to blocks, is the flow run on them. -/
import Derived.Test.YtfnhnniecclleaaLin
import Derived.Test.YtfnhnniecclleaaPAx0
import Derived.Test.YtfnhnniecclleaaPAx7
import Derived.Test.YtfnhnniecclleaaPAx14
import Derived.Test.YtfnhnniecclleaaPAx17
import Derived.Test.YtfnhnniecclleaaPAx2
import Derived.Test.YtfnhnniecclleaaPAx13
namespace Go.Proofs.Ytfnhnniecclleaa.Spec
open Go.RowKit Go.Proofs.Ytfnhnniecclleaa.PA Go.Proofs.YtfnhnniecclleaaW.PrintWords Go.Proofs.YtfnhnniecclleaaW.PrintLast Go.Proofs.YtfnhnniecclleaaW.PrintMore
set_option linter.unusedVariables false
set_option linter.unusedSimpArgs false
set_option linter.unusedSectionVars false
section
variable (ins : List Int) (nodes : List (List S64)) (outs : List Int)
end
/-! the reference's Apply -/
section
variable {S n : Nat} {bl rows : List (List Int)} (hb : OkB S bl) (hS : S ≤ 140737488351232) (hbn : bl.length = n) (hn : n ≤ 64) (hr : OkB n rows) (hl : rows.length ≤ 64)
include hb hS hbn hn hr hl
end
theorem runV_ok {ins : List Int} {nodes : List (List S64)} {outs : List Int} {bl : List (List Int)} (h : (runV ins nodes outs bl).2 = 0) : bl.all (fun b => decide (b.length = lenB bl)) = true ∧ ins.any (fun v => decide (v ≥ (bl.length : Int))) = false ∧ (runV ins nodes outs bl).1 = outF (runF (lenB bl) (pickB bl ins) nodes) outs := by
  unfold runV frontV at h ⊢
  by_cases c : bl.all (fun b => decide (b.length = lenB bl)) = true
  · rw [if_pos c] at h ⊢
    by_cases d : ins.any (fun v => decide (v ≥ (bl.length : Int))) = true
    · rw [if_pos d] at h; cases h
    · rw [if_neg d]
      exact ⟨c, by simpa using d, rfl⟩
  · rw [if_neg c] at h; cases h
end Go.Proofs.Ytfnhnniecclleaa.Spec
