/- The listed table's cells, read off the row's premise. -/
import Derived.Test.YtdnggedompfoeaaGreatDoorEvE
import Derived.Test.YtdnggedompfoeaaGreatDoorRows
import Derived.Test.YtdnggedompfoeaaGreatDoorTie
import Derived.Test.YtdnggedompfoeaaGreatDoorCards
import Derived.OpenVars
import Derived.OpenShut
import Derived.ShutString
import Derived.LaidMore
import Derived.Lay
import Derived.LaidOnce
import Derived.LaidLaws
import Derived.MakeChecks
import Derived.SevenTiedAt
import Derived.WalkKit
import Derived.ProofKit
import Derived.ChangeOld
import Derived.Below
import Derived.SizedLaws
import Derived.JoinedOf
import Derived.Stop.Joined
set_option linter.unusedVariables false
set_option linter.unusedSimpArgs false
namespace Go.Proofs.YtdnggedompfoeaaGreatDoor
open Go.ChangeShapes Go.WideShapes Go.ChangeAt Go.RowKit
open Go.ChangeMaps (open_string shut_string)

abbrev laid : List (String × DataW Unit) := Rows.depotNilRow.laid
theorem own : ownKnob Tryz.prog.godebug = none := by kernel_rfl

def tabNs : List Int := [0, 1, 56, 2, 57, 49, 28, 3, 61, 58, 42, 50, 38, 29, 17, 4, 62, 47, 59, 36, 45, 43, 51, 22, 53, 39, 33, 30, 24, 18, 12, 5, 63, 55, 48, 27, 60, 41, 37, 16, 46, 35, 44, 21, 52, 32, 23, 11, 54, 26, 40, 15, 34, 20, 31, 10, 25, 14, 19, 9, 13, 8, 7, 6]

/-- the table's cells -/
theorem tab_of_laid {W : World} (h : laidMetH Tryz.prog laid W) : ∃ ty, W.heap[0]? = some (.cells ⟨tabNs.map fun n => .int .u8 n⟩ ty (0, 0)) := by
  rw [MakeChecks.laidMetH_plain _ _ _ (by kernel_rfl)] at h
  obtain ⟨ps, ⟨g, t, cs, fuel, p, q, hg, ht, hv, hd, hq, hps⟩, _, hfz⟩ := h
  obtain rfl := Option.some.inj ((show Tryz.prog.globalNamed "math/bits.deBruijn64tab" = some 0 by kernel_rfl).symm.trans hg)
  obtain rfl := Option.some.inj ((show (Tryz.prog.globals[0]?).map (·.type) = some 138 by kernel_rfl).symm.trans ht)
  have hcs : cs.toList = tabNs.map fun n => .int .u8 n := AE.cells_of_trod (N := 64) (ns := tabNs) Tryz.underlying138 Tryz.underlying5 (by kernel_rfl) (by kernel_rfl) hd
  have hsz : cs.size = 64 := by
    have := congrArg List.length hcs
    simpa [tabNs] using this
  have hm : MemPlace.cell 0 0 ∈ ps := by
    rw [hps, hsz]
    simp [MemPlace.row]
  obtain ⟨⟨c, ty, hh⟩, _⟩ := hfz 0 0 hm
  have hv' : W.var? Tryz.prog "math/bits.deBruijn64tab" = some c := by
    unfold World.var?
    rw [show Tryz.prog.globalNamed "math/bits.deBruijn64tab" = some 0 by kernel_rfl]
    simp [hh]
  rw [hv] at hv'
  obtain rfl := Option.some.inj hv'
  obtain ⟨l⟩ := cs
  have hl : l = tabNs.map fun n => .int .u8 n := hcs
  subst hl
  exact ⟨ty, hh⟩

theorem tab_get {j : Nat} {v : AE.V} (h : (match AE.tab0 with | .cells c _ _ _ => c | _ => .e).get j = some v) : ∃ n : Int, tabNs[j]? = some n ∧ v = .int .u8 n := by
  have hk : AE.okR (AE.setK (tabNs.map fun n => .int .u8 n) .e 0 fun c => AE.test (AE.eqT c (match AE.tab0 with | .cells c _ _ _ => c | _ => .e)) AE.done) = true := by decide +kernel
  have hne : (AE.setK (tabNs.map fun n => .int .u8 n) .e 0 fun c => AE.test (AE.eqT c (match AE.tab0 with | .cells c _ _ _ => c | _ => .e)) AE.done) ≠ .fail := fun e => by rw [e] at hk; cases hk
  obtain ⟨c, h1, h2⟩ := AE.setK_ne hne
  rw [h1] at hne
  obtain ⟨h3, _⟩ := AE.test_ne hne
  rw [← AE.eqT_eq h3, h2] at h
  split at h
  · simp only [Nat.sub_zero, List.getElem?_map] at h
    cases hn : tabNs[j]? with
    | none => rw [hn] at h; cases h
    | some n => rw [hn] at h; exact ⟨n, rfl, (Option.some.inj h).symm⟩
  · simp [AE.get_e] at h

theorem tab_at {W : World} (h : laidMetH Tryz.prog laid W) (g : AE.G) : AE.ObR AE.K0 g W ⟨0, 0, 64, 1⟩ AE.tab0 := by
  obtain ⟨ty, hh⟩ := tab_of_laid h
  refine ⟨_, ty, hh, rfl, Nat.le_refl _, by simp [tabNs], fun j v hv => ?_⟩
  obtain ⟨n, hn, rfl⟩ := tab_get hv
  refine ⟨.int .u8 n, ?_, rfl⟩
  show (⟨tabNs.map fun n => Value.int .u8 n⟩ : Array Value)[0 + j]? = some (Value.int .u8 n)
  simp [hn]
end Go.Proofs.YtdnggedompfoeaaGreatDoor
