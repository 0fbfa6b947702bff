/- Rows of bytes: what a row of coefficients makes of blocks is linear; a flow's values are what its matrix's rows make. -/
import Derived.Test.YtfnhnniecclleaaMul
import Derived.Test.YtfnhnniecclleaaRun
namespace Go.Proofs.Ytfnhnniecclleaa.Spec
open Go.RowKit Go.Proofs.Ytfnhnniecclleaa.PA Go.Proofs.YtfnhnniecclleaaW.PrintWords Go.Proofs.YtfnhnniecclleaaW.PrintLast Go.Proofs.YtfnhnniecclleaaW.PrintMore
set_option linter.unusedVariables false
set_option linter.unusedSimpArgs false
set_option linter.unusedSectionVars false
/-- What a row of coefficients makes of blocks, added to what there is. -/
def combF : List Int → List Int → List (List Int) → List Int
  | acc, c :: r, b :: s => combF (xorB acc (scB c b)) r s
  | acc, _, _ => acc
def rowOf (S : Nat) (bl : List (List Int)) (r : List Int) : List Int := combF (List.replicate S 0) r bl
/-- The blocks' values are what the matrix's rows make of the blocks. -/
structure Rel (S n : Nat) (bl : List (List Int)) (V M : List (List Int)) : Prop where
  len : V.length = M.length
  okV : OkB S V
  okM : OkB n M
  eq : ∀ i, i < V.length → rd_L9 V (i : Int) = rowOf S bl (rd_L9 M (i : Int))
section
variable {S n : Nat} {bl : List (List Int)} (hb : OkB S bl)
include hb
end
end Go.Proofs.Ytfnhnniecclleaa.Spec
