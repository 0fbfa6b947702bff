/- DepotNil: called with any arguments that can be read, the law returns true and leaves its arguments as they were; its one listed variable is tied to the program's text. Conditions: none. -/
import Derived.Test.YtdnggedompfoeaaGreatDoorEvE
import Derived.Test.YtdnggedompfoeaaGreatDoorRows
import Derived.Test.YtdnggedompfoeaaGreatDoorTie
import Derived.Test.YtdnggedompfoeaaGreatDoorCards
import Derived.OpenVars
import Derived.OpenShut
import Derived.ShutString
import Derived.LaidMore
import Derived.Lay
import Derived.LaidOnce
import Derived.LaidLaws
import Derived.MakeChecks
import Derived.SevenTiedAt
import Derived.WalkKit
import Derived.ProofKit
import Derived.ChangeOld
import Derived.Below
import Derived.SizedLaws
import Derived.JoinedOf
import Derived.Stop.Joined
import Derived.Test.YtdnggedompfoeaaGreatDoorMemA
set_option linter.unusedVariables false
set_option linter.unusedSimpArgs false
namespace Go.Proofs.YtdnggedompfoeaaGreatDoor
open Go.ChangeShapes Go.WideShapes Go.ChangeAt Go.RowKit
open Go.ChangeMaps (open_string shut_string)

abbrev laid : List (String × DataW Unit) := Rows.depotNilRow.laid
theorem own : ownKnob Tryz.prog.godebug = none := by kernel_rfl

def tabNs : List Int := [0, 1, 56, 2, 57, 49, 28, 3, 61, 58, 42, 50, 38, 29, 17, 4, 62, 47, 59, 36, 45, 43, 51, 22, 53, 39, 33, 30, 24, 18, 12, 5, 63, 55, 48, 27, 60, 41, 37, 16, 46, 35, 44, 21, 52, 32, 23, 11, 54, 26, 40, 15, 34, 20, 31, 10, 25, 14, 19, 9, 13, 8, 7, 6]

/-- the table's cells -/
theorem tab_of_laid {W : World} (h : laidMetH Tryz.prog laid W) : ∃ ty, W.heap[0]? = some (.cells ⟨tabNs.map fun n => .int .u8 n⟩ ty (0, 0)) := by
  rw [MakeChecks.laidMetH_plain _ _ _ (by kernel_rfl)] at h
  obtain ⟨ps, ⟨g, t, cs, fuel, p, q, hg, ht, hv, hd, hq, hps⟩, _, hfz⟩ := h
  obtain rfl := Option.some.inj ((show Tryz.prog.globalNamed "math/bits.deBruijn64tab" = some 0 by kernel_rfl).symm.trans hg)
  obtain rfl := Option.some.inj ((show (Tryz.prog.globals[0]?).map (·.type) = some 138 by kernel_rfl).symm.trans ht)
  have hcs : cs.toList = tabNs.map fun n => .int .u8 n := AE.cells_of_trod (N := 64) (ns := tabNs) Tryz.underlying138 Tryz.underlying5 (by kernel_rfl) (by kernel_rfl) hd
  have hsz : cs.size = 64 := by
    have := congrArg List.length hcs
    simpa [tabNs] using this
  have hm : MemPlace.cell 0 0 ∈ ps := by
    rw [hps, hsz]
    simp [MemPlace.row]
  obtain ⟨⟨c, ty, hh⟩, _⟩ := hfz 0 0 hm
  have hv' : W.var? Tryz.prog "math/bits.deBruijn64tab" = some c := by
    unfold World.var?
    rw [show Tryz.prog.globalNamed "math/bits.deBruijn64tab" = some 0 by kernel_rfl]
    simp [hh]
  rw [hv] at hv'
  obtain rfl := Option.some.inj hv'
  obtain ⟨l⟩ := cs
  have hl : l = tabNs.map fun n => .int .u8 n := hcs
  subst hl
  exact ⟨ty, hh⟩

theorem tab_get {j : Nat} {v : AE.V} (h : (match AE.tab0 with | .cells c _ _ _ => c | _ => .e).get j = some v) : ∃ n : Int, tabNs[j]? = some n ∧ v = .int .u8 n := by
  have hk : AE.okR (AE.setK (tabNs.map fun n => .int .u8 n) .e 0 fun c => AE.test (AE.eqT c (match AE.tab0 with | .cells c _ _ _ => c | _ => .e)) AE.done) = true := by decide +kernel
  have hne : (AE.setK (tabNs.map fun n => .int .u8 n) .e 0 fun c => AE.test (AE.eqT c (match AE.tab0 with | .cells c _ _ _ => c | _ => .e)) AE.done) ≠ .fail := fun e => by rw [e] at hk; cases hk
  obtain ⟨c, h1, h2⟩ := AE.setK_ne hne
  rw [h1] at hne
  obtain ⟨h3, _⟩ := AE.test_ne hne
  rw [← AE.eqT_eq h3, h2] at h
  split at h
  · simp only [Nat.sub_zero, List.getElem?_map] at h
    cases hn : tabNs[j]? with
    | none => rw [hn] at h; cases h
    | some n => rw [hn] at h; exact ⟨n, rfl, (Option.some.inj h).symm⟩
  · simp [AE.get_e] at h

theorem tab_at {W : World} (h : laidMetH Tryz.prog laid W) (g : AE.G) : AE.ObR AE.K0 g W ⟨0, 0, 64, 1⟩ AE.tab0 := by
  obtain ⟨ty, hh⟩ := tab_of_laid h
  refine ⟨_, ty, hh, rfl, Nat.le_refl _, by simp [tabNs], fun j v hv => ?_⟩
  obtain ⟨n, hn, rfl⟩ := tab_get hv
  refine ⟨.int .u8 n, ?_, rfl⟩
  show (⟨tabNs.map fun n => Value.int .u8 n⟩ : Array Value)[0 + j]? = some (Value.int .u8 n)
  simp [hn]
end Go.Proofs.YtdnggedompfoeaaGreatDoor

namespace Go.Proofs.YtdnggedompfoeaaGreatDoor
open Go.ChangeShapes Go.WideShapes Go.ChangeAt Go.RowKit
open Go.ChangeMaps (open_string shut_string)

/-- the law, carried out once for all texts and numbers -/
theorem depotNil_run (s : ByteArray) (n : Int) : AE.ckL (AE.K0.with AE.S6) 300 3 [.str s, .int .i64 n] = true := by kernel_rfl

theorem depotNil_calls (s : ByteArray) (n : Int) {W : World} (h : laidMetH Tryz.prog laid W) : Calls Tryz.prog 3 #[.string s, .int .i64 n] W fun e W' => e = .returned (.bool true) ∧ ∀ may, W.keptBut W' may :=
  AE.law_ok AE.k0_base rfl AE.S6_ok (depotNil_run s n) (tab_at h) fun g => ⟨.string s, _, rfl, rfl, .int .i64 n, _, rfl, rfl, rfl⟩

set_option maxRecDepth 100000 in
theorem lifted (os : Os) (started : os.Started) (H : Type) (enc : TypeId × Value → H) :
    ReturnsInHanded {} Tryz.checked os 3 .any (fun w args => (Rows.depotNilSpec.pre enc Tryz.prog Tryz.f3 [] false w args ∧ laidMetH Tryz.prog laid w) ∧ sizedMet enc Tryz.prog Tryz.f3 (OpenSpec.ofChange Rows.depotNilSpec) false w args)
      (Rows.depotNilSpec.post enc Tryz.prog Tryz.f3 false true false false) := by
  refine returnsInHanded_of_change_and (C := Tryz.checked) (X := fun w _ => laidMetH Tryz.prog laid w) (fun _ _ _ hh h => h.of_heap hh) own started (by kernel_rfl) Tryz.func3
    (ChangeSpec.witness_shaped (enc := enc) (C := Tryz.checked) (os := os) (X := fun w _ => laidMetH Tryz.prog laid w) false (World.laidAll Tryz.prog os laid) #[.string ByteArray.empty, .int .i64 0] 8 (World.laidAll_os _ _ _) (World.shaped_of_ZipB (by kernel_rfl) (by kernel_rfl)) (by kernel_rfl) (by kernel_rfl) (by kernel_rfl)
      (by rw [MakeChecks.laidMetH_plain _ _ _ (by kernel_rfl)]; exact laidMet_laidAll _ (by kernel_rfl) (by kernel_rfl))) ?_
  intro W base args ds gs before hval0 hW _ _ hL _
  have hval : ∀ (j : Nat) t v, Tryz.f3.params[j]? = some t → args[j]? = some v → Value.okWide Tryz.prog W .any base t v := hval0
  have hW' := hW
  obtain ⟨p, q, hA0, hV, rfl, hfz, hnd⟩ := hW
  have hA : DataW.TrodAll enc Tryz.prog W 0 (fun _ => true) true Tryz.f3.params.toList args.toList ds p := hA0
  rw [Tryz.params3] at hA hval
  obtain ⟨v0, vs0, d0, ds0, p0, q0, hargs, rfl, rfl, h0, r0⟩ := trodAll_cons hA
  obtain ⟨v1, vs1, d1, ds1, p1, q1, rfl, rfl, rfl, h1, r1⟩ := trodAll_cons r0
  obtain ⟨rfl, rfl, rfl⟩ := trodAll_nil r1
  obtain rfl : args = #[v0, v1] := by cases args; simp_all
  obtain ⟨rfl, rfl⟩ := trodVars_none hV
  obtain ⟨x0, rfl, rfl, rfl, y0⟩ := open_string Tryz.underlying9 (hval 0 9 v0 rfl rfl) h0
  obtain ⟨x1, rfl, rfl, rfl, w1⟩ := open_int Tryz.underlying3 (hval 1 3 v1 rfl rfl) h1
  refine (depotNil_calls x0 x1 hL).mono fun e W' ⟨he, hk⟩ => ?_
  subst he
  exact ⟨_, rfl, _, _, _, [], _, [], hW', trodAll_mk1 (shut_bool Tryz.underlying4 _), (trodAll_cons_mk (shut_string Tryz.underlying9 y0) (trodAll_cons_mk (shut_int Tryz.underlying3 w1) trodAll_mk0)), rfl, hk _, fun h => by cases h⟩

theorem row_holds : Rows.DepotNilSaid :=
  OpenClaim.holds_of_wide 3 Tryz.f3 rfl rfl rfl rfl rfl rfl rfl ⟨rfl, rfl, rfl, rfl, rfl⟩ rfl rfl rfl rfl rfl (by kernel_rfl) Tryz.func3 (by kernel_rfl)
    (of_decide_eq_true (by kernel_rfl)) (by unfold Func.isWrapper; first | (rw [if_pos (by decide +kernel)]; kernel_rfl) | (rw [if_neg (by decide +kernel)]; exact ⟨rfl, rfl⟩))
    (fun os started H enc _ => lifted os started H enc)

/-- THE TIED CARD. -/
theorem depotNil_holds : Rows.DepotNilCardSaid :=
  Claim7.holds_tied_plain_at .later [] [.data] true (true, "469f5a13c977cea0bc0025575d6e9ab78eff32ec55d3843e6e1479973007703c") true row_holds (fun _ h => by cases h) (by kernel_rfl) (fun _ h => by cases h) depotNil_row_tie rfl ⟨rfl, rfl⟩ (by kernel_rfl) rfl
    (fun f fn hf hfn => by
      obtain rfl : f = 3 := Option.some.inj ((show Tryz.prog.funcNamed "recoup/recouplaw31.DepotNil" = some 3 by kernel_rfl).symm.trans hf) |>.symm
      obtain rfl : fn = Tryz.f3 := (Option.some.inj (Tryz.func3.symm.trans hfn)).symm
      exact ⟨by kernel_rfl, fun j t ht => by
        rw [Tryz.params3] at ht
        have hm : t ∈ [9, 3] := by simpa using Array.mem_of_getElem? ht
        have hall : ([9, 3].all fun u => !Tryz.prog.wantsStandIn u) = true := by kernel_rfl
        exact (show Tryz.prog.wantsStandIn t = false by simpa using List.all_eq_true.1 hall t hm)⟩)
    (by kernel_rfl)
#print axioms depotNil_holds
end Go.Proofs.YtdnggedompfoeaaGreatDoor
