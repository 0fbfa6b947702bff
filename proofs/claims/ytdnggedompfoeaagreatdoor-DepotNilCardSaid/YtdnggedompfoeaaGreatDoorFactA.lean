/- A closed fact of the row over the program. -/
import Derived.Test.YtdnggedompfoeaaGreatDoorRow
set_option linter.unusedVariables false
set_option linter.unusedSimpArgs false
set_option maxRecDepth 100000
namespace Go.Proofs.YtdnggedompfoeaaGreatDoor
theorem row_inPlace : Tryz.prog.inPlace 3 = ["internal/bytealg.MakeNoZero"] := by kernel_rfl
end Go.Proofs.YtdnggedompfoeaaGreatDoor
