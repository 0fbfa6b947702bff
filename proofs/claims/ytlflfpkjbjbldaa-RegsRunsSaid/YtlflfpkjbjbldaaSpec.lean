import Derived.Test.YtlflfpkjbjbldaaPAx2
import Derived.Test.YtlflfpkjbjbldaaPAx3
import Derived.Test.YtlflfpkjbjbldaaPAx0
namespace Go.Proofs.Ytlflfpkjbjbldaa.Spec
open Go.RowKit Go.Proofs.Ytlflfpkjbjbldaa.PA Go.Proofs.YtlflfpkjbjbldaaW.PrintWords Go.Proofs.YtlflfpkjbjbldaaW.PrintLast
set_option linter.unusedVariables false
theorem w64 {x : Int} (h0 : -9223372036854775808 ≤ x) (h1 : x < 9223372036854775808) : wrap64 x = x := by unfold wrap64; omega
theorem i1 (i : Nat) : ((i : Int) + 1) = ((i + 1 : Nat) : Int) := by omega
instance : DecidableEq S62 := fun a b => match a, b with
  | ⟨a0, a1⟩, ⟨b0, b1⟩ => if h : a0 = b0 ∧ a1 = b1 then isTrue (by rw [h.1, h.2]) else isFalse (by simpa using h)

/-! the reference's May -/
/-! Same -/
end Go.Proofs.Ytlflfpkjbjbldaa.Spec
