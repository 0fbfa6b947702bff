/- RegsFew: for every flow, the program given reads each input once, has no more registers than values; Give gives up only where there are more than 256 values. No condition. -/
import Derived.Test.YtlflfpkjbjbldaaFew
namespace Go.Proofs.Ytlflfpkjbjbldaa.Pure
open Go.RowKit Go.Proofs.Ytlflfpkjbjbldaa.PA Go.Proofs.YtlflfpkjbjbldaaW.PrintWords Go.Proofs.YtlflfpkjbjbldaaW.PrintLast Go.Proofs.Ytlflfpkjbjbldaa.Spec
theorem RegsFew : ∀ (x0 : S25), FlowI x0 → ∃ k, recouplaw23_RegsFew.f k x0.f0 x0.f1 x0.f2 = some true := fun x0 h =>
  (regsFew_ev x0.f0 x0.f1 x0.f2 (by have := h.1.1; omega) (fun l hl => by have := (h.2.1.2 l hl).1; omega)).rounds
end Go.Proofs.Ytlflfpkjbjbldaa.Pure
