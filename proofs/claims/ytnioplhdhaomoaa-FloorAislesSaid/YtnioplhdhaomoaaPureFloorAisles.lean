/- FloorAisles: for every three ints, the program's Aisle and Near answer as the reference's. No condition. -/
import Derived.Test.YtnioplhdhaomoaaAisle
namespace Go.Proofs.Ytnioplhdhaomoaa.Pure
open Go.RowKit Go.Proofs.Ytnioplhdhaomoaa.PA Go.Proofs.YtnioplhdhaomoaaW.PrintWords Go.Proofs.YtnioplhdhaomoaaW.PrintLast
theorem FloorAisles : recouplaw15_FloorAisles.Pure := fun n d r _ _ _ => Go.Proofs.Ytnioplhdhaomoaa.Spec.floorAisles n d r
end Go.Proofs.Ytnioplhdhaomoaa.Pure
