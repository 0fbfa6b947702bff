/- A closed fact of the card over the program. -/
import Derived.Test.YtdnggedompfoeaaGreatDoorRow
set_option linter.unusedVariables false
set_option linter.unusedSimpArgs false
set_option maxRecDepth 100000
namespace Go.Proofs.YtdnggedompfoeaaGreatDoor
theorem card_goes : false = Rows.depotNilRow.goesBy Tryz.prog := by kernel_rfl
end Go.Proofs.YtdnggedompfoeaaGreatDoor
