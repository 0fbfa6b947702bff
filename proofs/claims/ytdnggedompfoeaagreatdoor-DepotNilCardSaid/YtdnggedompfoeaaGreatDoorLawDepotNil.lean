/- DepotNil: called with any arguments that can be read, the law returns true and leaves its arguments as they were; its one listed variable is tied to the program's text. Conditions: none. -/
import Derived.Test.YtdnggedompfoeaaGreatDoorRowRun
import Derived.Test.YtdnggedompfoeaaGreatDoorFactH
import Derived.Test.YtdnggedompfoeaaGreatDoorFactI
import Derived.Test.YtdnggedompfoeaaGreatDoorFactJ
set_option linter.unusedVariables false
set_option linter.unusedSimpArgs false
set_option maxRecDepth 100000
namespace Go.Proofs.YtdnggedompfoeaaGreatDoor
theorem row_holds : Rows.DepotNilSaid :=
  OpenClaim.holds_of_wide 3 Tryz.f3 rfl rfl rfl rfl rfl rfl rfl ⟨rfl, rfl, rfl, rfl, rfl⟩ rfl rfl rfl rfl rfl row_func Tryz.func3 row_closed row_instance row_wrapper
    (fun os started H enc _ => lifted os started H enc)
end Go.Proofs.YtdnggedompfoeaaGreatDoor

set_option maxRecDepth 100000
namespace Go.Proofs.YtdnggedompfoeaaGreatDoor
/-- THE TIED CARD. -/
theorem depotNil_holds : Rows.DepotNilCardSaid :=
  Claim7.holds_tied_plain_at .later [] [.data] true (true, "469f5a13c977cea0bc0025575d6e9ab78eff32ec55d3843e6e1479973007703c") true row_holds (fun _ h => by cases h) card_wf (fun _ h => by cases h) depotNil_row_tie rfl ⟨rfl, rfl⟩ card_main rfl
    (fun f fn hf hfn => by
      obtain rfl : f = 3 := Option.some.inj (row_func.symm.trans hf) |>.symm
      obtain rfl : fn = Tryz.f3 := (Option.some.inj (Tryz.func3.symm.trans hfn)).symm
      exact ⟨card_looks, fun j t ht => by
        rw [Tryz.params3] at ht
        have hm : t ∈ [9, 3] := by simpa using Array.mem_of_getElem? ht
        exact (show Tryz.prog.wantsStandIn t = false by simpa using List.all_eq_true.1 card_stand t hm)⟩)
    card_goes
#print axioms depotNil_holds
end Go.Proofs.YtdnggedompfoeaaGreatDoor
