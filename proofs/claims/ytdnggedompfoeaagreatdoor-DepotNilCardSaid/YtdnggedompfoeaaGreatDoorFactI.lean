/- Closed facts of the card over the program. -/
import Derived.Test.YtdnggedompfoeaaGreatDoorRow
set_option linter.unusedVariables false
set_option linter.unusedSimpArgs false
set_option maxRecDepth 100000
namespace Go.Proofs.YtdnggedompfoeaaGreatDoor
theorem card_wf : Rows.depotNilRow.wfByText (OpenSpec.ofChange Rows.depotNilSpec) = true := by kernel_rfl
theorem card_main : Tryz.prog.mainIs = some (true, "469f5a13c977cea0bc0025575d6e9ab78eff32ec55d3843e6e1479973007703c".toList) := by kernel_rfl
end Go.Proofs.YtdnggedompfoeaaGreatDoor

set_option maxRecDepth 100000
namespace Go.Proofs.YtdnggedompfoeaaGreatDoor
theorem card_looks : true = Tryz.prog.looks [] := by kernel_rfl
end Go.Proofs.YtdnggedompfoeaaGreatDoor

set_option maxRecDepth 100000
namespace Go.Proofs.YtdnggedompfoeaaGreatDoor
theorem card_stand : ([9, 3].all fun u => !Tryz.prog.wantsStandIn u) = true := by kernel_rfl
end Go.Proofs.YtdnggedompfoeaaGreatDoor

set_option maxRecDepth 100000
namespace Go.Proofs.YtdnggedompfoeaaGreatDoor
theorem row_func : Tryz.prog.funcNamed "recoup/recouplaw31.DepotNil" = some 3 := by kernel_rfl
theorem row_instance : Tryz.f3.isInstance Tryz.prog Rows.depotNilRow.origin Rows.depotNilRow.targs := of_decide_eq_true (by kernel_rfl)
theorem row_wrapper : Tryz.f3.isWrapper Tryz.prog Rows.depotNilRow.wrapper Rows.depotNilRow.mainSum := by unfold Func.isWrapper; first | (rw [if_pos (by decide +kernel)]; kernel_rfl) | (rw [if_neg (by decide +kernel)]; exact ⟨rfl, rfl⟩)
end Go.Proofs.YtdnggedompfoeaaGreatDoor
