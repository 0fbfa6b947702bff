/- FloorParted: for every three bytes, the aisles part the domains, and what is near is near the other way round. No condition. -/
import Derived.Test.YtnioplhdhaomoaaParted
namespace Go.Proofs.Ytnioplhdhaomoaa.Pure
open Go.RowKit Go.Proofs.Ytnioplhdhaomoaa.PA Go.Proofs.YtnioplhdhaomoaaW.PrintWords Go.Proofs.YtnioplhdhaomoaaW.PrintLast Go.Proofs.Ytnioplhdhaomoaa.Spec
theorem FloorParted : recouplaw15_FloorParted.Pure := fun a b c h0 h1 h2 => floorParted a b c (wf_u8 h0) (wf_u8 h1) (wf_u8 h2)
end Go.Proofs.Ytnioplhdhaomoaa.Pure
