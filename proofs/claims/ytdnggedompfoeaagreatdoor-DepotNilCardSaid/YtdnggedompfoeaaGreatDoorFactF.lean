/- A closed fact of the row over the program. -/
import Derived.Test.YtdnggedompfoeaaGreatDoorRow
set_option linter.unusedVariables false
set_option linter.unusedSimpArgs false
set_option maxRecDepth 100000
namespace Go.Proofs.YtdnggedompfoeaaGreatDoor
theorem row_lifts : Tryz.prog.liftsFinal = Rows.depotNilRow.lifted := by kernel_rfl
theorem row_keys : Tryz.prog.plainKeys = Rows.depotNilRow.plainKeys := by kernel_rfl
theorem row_make : Tryz.prog.make = some Rows.depotNilRow.make := by kernel_rfl
end Go.Proofs.YtdnggedompfoeaaGreatDoor
