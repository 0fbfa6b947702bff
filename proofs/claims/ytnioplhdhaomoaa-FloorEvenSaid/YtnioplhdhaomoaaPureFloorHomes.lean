/- FloorHomes: for every placement, every list of homes and every domain, the program's Homes and Blocks answer as the reference's. No condition. -/
import Derived.Test.YtnioplhdhaomoaaHomes
namespace Go.Proofs.Ytnioplhdhaomoaa.PA
open Go.RowKit Go.Proofs.YtnioplhdhaomoaaW.PrintWords
structure S34 where
  f0 : Int
  f1 : Int
  f2 : Int
  f3 : Int
  f4 : List Int
def k34 : Kd S34 := Kd.iso (Kd.pair (Kd.int .u8) (Kd.pair (Kd.int .i64) (Kd.pair (Kd.int .i64) (Kd.pair (Kd.int .i64) (Kd.slice 3 (Kd.int .i64)))))) (fun x : S34 => (x.f0, x.f1, x.f2, x.f3, x.f4))
theorem k34_open {w : World} {x : S34} {cs : List Value} (h : k34.K w x cs) : ∃ A4 c4, cs = [.int .u8 x.f0, .int .i64 x.f1, .int .i64 x.f2, .int .i64 x.f3, .slice A4 x.f4.length c4] ∧ x.f4.length ≤ c4 ∧ (Kd.int .i64).C w A4 x.f4.length x.f4 := by
  obtain ⟨_, _, rfl, rfl, ⟨_, _, rfl, rfl, ⟨_, _, rfl, rfl, ⟨_, _, rfl, rfl, ⟨A4, c4, rfl, l4, g4⟩⟩⟩⟩⟩ := h
  exact ⟨A4, c4, rfl, l4, g4⟩
end Go.Proofs.Ytnioplhdhaomoaa.PA
namespace Go.Proofs.Ytnioplhdhaomoaa.Pure
open Go.RowKit Go.Proofs.Ytnioplhdhaomoaa.PA Go.Proofs.YtnioplhdhaomoaaW.PrintWords Go.Proofs.YtnioplhdhaomoaaW.PrintLast Go.Proofs.Ytnioplhdhaomoaa.Spec
end Go.Proofs.Ytnioplhdhaomoaa.Pure
