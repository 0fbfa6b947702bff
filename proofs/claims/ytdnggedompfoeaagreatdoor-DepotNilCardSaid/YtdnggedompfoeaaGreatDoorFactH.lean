/- The row's closed facts together. -/
import Derived.Test.YtdnggedompfoeaaGreatDoorFactA
import Derived.Test.YtdnggedompfoeaaGreatDoorFactB
import Derived.Test.YtdnggedompfoeaaGreatDoorFactC
import Derived.Test.YtdnggedompfoeaaGreatDoorFactD
import Derived.Test.YtdnggedompfoeaaGreatDoorFactE
import Derived.Test.YtdnggedompfoeaaGreatDoorFactF
import Derived.Test.YtdnggedompfoeaaGreatDoorFactG
set_option linter.unusedVariables false
set_option linter.unusedSimpArgs false
set_option maxRecDepth 100000
namespace Go.Proofs.YtdnggedompfoeaaGreatDoor
theorem row_closed : joinedFacts Tryz.prog 3 Tryz.f3 Rows.depotNilSpec Rows.depotNilRow = true := by
  unfold joinedFacts
  rw [row_inPlace, row_unfollowed, row_recurses, row_named, row_mayEnter, row_heard, row_lifts, row_keys, row_make, row_laidOut, row_maps]
  kernel_rfl
end Go.Proofs.YtdnggedompfoeaaGreatDoor
