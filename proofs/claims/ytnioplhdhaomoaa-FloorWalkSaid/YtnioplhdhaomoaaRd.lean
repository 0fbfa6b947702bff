import Derived.Test.YtnioplhdhaomoaaRows
import Derived.Test.YtnioplhdhaomoaaWWords
import Derived.WalkKit
import Derived.ProofKit
import Derived.OpenShut
import Derived.ShutString
import Derived.ChangeOld
import Derived.Below
import Derived.SizedLaws
import Derived.Deep.Slices
namespace Go.Proofs.Ytnioplhdhaomoaa.Rd
open Go.ChangeShapes Go.WideShapes Go.ChangeAt Go.RowKit
open Go.Proofs.YtnioplhdhaomoaaW.PrintWords
set_option linter.unusedVariables false
--BEGIN
/-- What a reading of type t tells: the cells are of kind d, and I holds of what they say, where no weight is beyond the reach; B: the bulk of what they say. -/
def Opens (P : Program) (W : World) {α : Type} (t : TypeId) (d : Kd α) (I : α → Prop) (B : α → Nat) : Prop :=
  ∀ (H : Type) (enc : TypeId × Value → H) (fuel : Nat) (cs : List Value) (D : DataW H) (ps : List MemPlace),
    DataW.trod enc P W 0 (fun _ => true) true fuel t cs = some (D, ps) → ∃ x, d.K W x cs ∧ ((D.weights P t).all (· ≤ reachBytes) = true → I x) ∧ B x ≤ Rows.uptoBulk D

theorem Opens.mono {P : Program} {W : World} {α : Type} {t : TypeId} {d : Kd α} {I J : α → Prop} {B B' : α → Nat} (h : Opens P W t d I B) (hI : ∀ x, I x → J x) (hB : ∀ x, B' x ≤ B x) : Opens P W t d J B' := by
  intro H enc fuel cs D ps hr
  obtain ⟨x, hK, hi, hb⟩ := h H enc fuel cs D ps hr
  exact ⟨x, hK, fun hw => hI x (hi hw), Nat.le_trans (hB x) hb⟩

--END
end Go.Proofs.Ytnioplhdhaomoaa.Rd
