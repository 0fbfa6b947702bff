/- FlowApplies' plain law: the matrix of a flow, applied to blocks, is the flow run on them. -/
import Derived.Test.YtfnhnniecclleaaLin
import Derived.Test.YtfnhnniecclleaaPAx0
import Derived.Test.YtfnhnniecclleaaPAx7
import Derived.Test.YtfnhnniecclleaaPAx14
import Derived.Test.YtfnhnniecclleaaPAx17
import Derived.Test.YtfnhnniecclleaaPAx2
import Derived.Test.YtfnhnniecclleaaPAx13
import Derived.Test.YtfnhnniecclleaaPAx21
namespace Go.Proofs.Ytfnhnniecclleaa.Spec
open Go.RowKit Go.Proofs.Ytfnhnniecclleaa.PA Go.Proofs.YtfnhnniecclleaaW.PrintWords Go.Proofs.YtfnhnniecclleaaW.PrintLast Go.Proofs.YtfnhnniecclleaaW.PrintMore
set_option linter.unusedVariables false
set_option linter.unusedSimpArgs false
set_option linter.unusedSectionVars false
def flatN (rows : List (List Int)) : List Int := rows.flatten
theorem flat_len {n : Nat} : ∀ (rows : List (List Int)), OkB n rows → (flatN rows).length = rows.length * n
  | [], _ => by simp [flatN]
  | r :: s, h => by
    have hr := (h r (by simp)).1
    have ih := flat_len s (fun x hx => h x (by simp [hx]))
    unfold flatN at ih ⊢
    rw [List.flatten_cons, List.length_append, ih, hr, List.length_cons, Nat.succ_mul, Nat.add_comm]
theorem flat_get {n : Nat} : ∀ (rows : List (List Int)), OkB n rows → ∀ i j, (hi : i < rows.length) → j < n → (flatN rows)[i * n + j]? = (rows[i])[j]?
  | [], _, i, j, hi, _ => absurd hi (by simp)
  | r :: s, h, 0, j, hi, hj => by
    have hr := (h r (by simp)).1
    show (r ++ s.flatten)[0 * n + j]? = r[j]?
    rw [Nat.zero_mul, Nat.zero_add, List.getElem?_append_left (by omega)]
  | r :: s, h, i + 1, j, hi, hj => by
    have hr := (h r (by simp)).1
    have ih := flat_get s (fun x hx => h x (by simp [hx])) i j (by simpa using hi) hj
    have hi' : i < s.length := by simpa using hi
    show (r ++ s.flatten)[(i + 1) * n + j]? = (s[i]'hi')[j]?
    rw [← ih, Nat.succ_mul, List.getElem?_append_right (by omega)]
    unfold flatN
    congr 1
    omega
section
variable (ins : List Int) (nodes : List (List S64)) (outs : List Int)
end
/-! the reference's Apply -/
section
variable {S n : Nat} {bl rows : List (List Int)} (hb : OkB S bl) (hS : S ≤ 140737488351232) (hbn : bl.length = n) (hn : n ≤ 64) (hr : OkB n rows) (hl : rows.length ≤ 64)
include hb hS hbn hn hr hl
end
end Go.Proofs.Ytfnhnniecclleaa.Spec
