/-
  DERIVED. GIVEN WITH THE SEED: THE CARDS: each row of YtdnggedompfoeaaGreatDoorRows.lean that lists a variable, with what it lists TIED to the program's text (the seventh form; the later family's looks); each row that meets fmt, with fmt's text TOLD by the authors' own Lean function (tested against real Go, not proved from fmt's source: count such statements apart). THE CARD IS WHAT COUNTS. Prove the row's statement (the work); the ties are given (YtdnggedompfoeaaGreatDoorTie.lean); close each card by the builder's one call (the guide's Derived/Test/ToyasCard.lean, 'card_holds'). Laid BY PROGRAM, IN A SANDBOX (cutbox-door.mjs). By AI agents, Wed Nov 11 2026. No macro, syntax, notation, axiom, sorry.
-/
import Derived.Test.YtdnggedompfoeaaGreatDoorRows
import GoSem.ClaimSeven
namespace Go.Proofs.YtdnggedompfoeaaGreatDoor
namespace Rows

/-- THE TIED CARD OF 'recouplaw31.DepotNil'. -/
def depotNilCard : Claim7 := { stood := { row := depotNilRow, standIns := [], harness := (true, "469f5a13c977cea0bc0025575d6e9ab78eff32ec55d3843e6e1479973007703c"), looks := true }, kinds := [], alts := [], laidByText := true, laidKinds := [.data], laidTests := true, laidLooks := .later }
def DepotNilCardSaid : Prop := Claim7.holds Tryz.pinned (.plain (OpenSpec.ofChange depotNilSpec)) depotNilCard

/-- THE SECOND FORM's CARD OF 'recouplaw31.DepotNil'. -/
def depotNilUptoCard : Claim7 := { stood := { row := depotNilUptoRow, standIns := [], harness := (true, "469f5a13c977cea0bc0025575d6e9ab78eff32ec55d3843e6e1479973007703c"), looks := true }, kinds := [], alts := [], laidByText := true, laidKinds := [.data], laidTests := true, laidLooks := .later }
def DepotNilUptoCardSaid : Prop := Claim7.holds Tryz.pinned (.plain (OpenSpec.upto depotNilSpec)) depotNilUptoCard
end Rows
end Go.Proofs.YtdnggedompfoeaaGreatDoor
