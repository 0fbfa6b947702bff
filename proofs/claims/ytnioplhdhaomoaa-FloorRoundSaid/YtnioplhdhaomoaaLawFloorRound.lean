/- FloorRound: called with any arguments that can be read, the law returns true and leaves its arguments as they were. Conditions: none. The row, out of the walk. -/
import Derived.Test.YtnioplhdhaomoaaRows
import Derived.Test.YtnioplhdhaomoaaRoundWalk
import Derived.WalkKit
import Derived.ProofKit
import Derived.OpenShut
import Derived.ShutString
import Derived.ChangeOld
import Derived.Below
import Derived.SizedLaws
import Derived.WideKeyPair
namespace Go.Proofs.Ytnioplhdhaomoaa.floorRound
open Go.ChangeShapes Go.WideShapes Go.ChangeAt Go.RowKit
open Go.Proofs.Ytnioplhdhaomoaa.PA Go.Proofs.YtnioplhdhaomoaaW.PrintWords
set_option linter.unusedVariables false
set_option linter.unusedSimpArgs false
theorem own : ownKnob Try.prog.godebug = none := by kernel_rfl
theorem laidOut : laidOutB Try.prog = true := by kernel_rfl
theorem ak : Go.WideMaps.ArrKey Try.prog 60 59 2 := ⟨Try.underlying60, by kernel_rfl, by kernel_rfl, by kernel_rfl⟩
theorem rng16 {x : Int} (h : (Lit.int .i16 x).wf = true) : -32768 ≤ x ∧ x ≤ 32767 := by
  have h1 := of_decide_eq_true (Bool.and_eq_true_iff.1 h).1
  have h2 := of_decide_eq_true (Bool.and_eq_true_iff.1 h).2
  have e1 : IntKind.i16.min = -32768 := rfl
  have e2 : IntKind.i16.max = 32767 := rfl
  omega
theorem rng8 {x : Int} (h : (Lit.int .i8 x).wf = true) : -128 ≤ x ∧ x ≤ 127 := by
  have h1 := of_decide_eq_true (Bool.and_eq_true_iff.1 h).1
  have h2 := of_decide_eq_true (Bool.and_eq_true_iff.1 h).2
  have e1 : IntKind.i8.min = -128 := rfl
  have e2 : IntKind.i8.max = 127 := rfl
  omega
set_option maxRecDepth 100000 in
set_option maxHeartbeats 1000000 in
theorem lifted (os : Os) (started : os.Started) (H : Type) (enc : TypeId × Value → H) :
    ReturnsInHanded {} Try.checked os 8 .any (Rows.floorRoundSpec.pre6 enc Try.prog Try.f8 Rows.floorRoundRow.domain false) (Rows.floorRoundSpec.post enc Try.prog Try.f8 false true false false) := by
  refine returnsInHanded_of_change_sized (C := Try.checked) own started (by kernel_rfl) Try.func8
    (ChangeSpec.witness6 (enc := enc) (C := Try.checked) false ⟨#[], #[.agg #[.int .i16 0, .int .i16 0], .agg #[.int .i16 0, .int .i16 0], .int .i8 0], []⟩ 8 (by kernel_rfl) (by kernel_rfl) (by kernel_rfl) (by kernel_rfl)) ?_
  intro W base args ds gs before hval0 hW hcnd hsz0 _
  have hval : ∀ (j : Nat) t v, Try.f8.params[j]? = some t → args[j]? = some v → Value.okWide Try.prog W .any base t v := hval0
  have hW' := hW
  obtain ⟨p, q, hA0, hV, rfl, hfz, hnd⟩ := hW
  have hA : DataW.TrodAll enc Try.prog W 0 (fun _ => true) true Try.f8.params.toList args.toList ds p := hA0
  rw [Try.params8] at hA hval
  obtain ⟨v0, vs0, d0, ds0, p0, q0, hargs, rfl, rfl, h0, r0⟩ := trodAll_cons hA
  obtain ⟨v1, vs1, d1, ds1, p1, q1, rfl, rfl, rfl, h1, r1⟩ := trodAll_cons r0
  obtain ⟨v2, vs2, d2, ds2, p2, q2, rfl, rfl, rfl, h2, r2⟩ := trodAll_cons r1
  obtain ⟨rfl, rfl, rfl⟩ := trodAll_nil r2
  obtain rfl : args = #[v0, v1, v2] := by cases args; simp_all
  obtain ⟨rfl, rfl⟩ := trodVars_none hV
  obtain ⟨x0, x1, rfl, rfl, rfl, wa, wb⟩ := Go.WideMaps.open_pair ak Try.underlying59 (hval 0 60 v0 rfl rfl) h0
  obtain ⟨y0, y1, rfl, rfl, rfl, wc, wd⟩ := Go.WideMaps.open_pair ak Try.underlying59 (hval 1 60 v1 rfl rfl) h1
  obtain ⟨k, rfl, rfl, rfl, wk⟩ := open_int Try.underlying61 (hval 2 61 v2 rfl rfl) h2
  clear hA0 hval0 hsz0
  refine (recouplaw15_FloorRound.calls x0 x1 y0 y1 k (rng16 wa) (rng16 wb) (rng16 wc) (rng16 wd) (rng8 wk) W).mono fun e W' ⟨he, bel⟩ => ?_
  subst he
  exact ⟨_, rfl, _, _, _, [], _, [], hW', trodAll_mk1 (shut_bool Try.underlying4 _), (trodAll_cons_mk (Go.WideMaps.shut_pair ak Try.underlying59 wa wb) (trodAll_cons_mk (Go.WideMaps.shut_pair ak Try.underlying59 wc wd) (trodAll_cons_mk (shut_int Try.underlying61 wk) trodAll_mk0))), rfl, bel.frame _, fun h => by cases h⟩
theorem proved : Rows.FloorRoundSaid :=
  OpenClaim.holds_of_wide 8 Try.f8 rfl rfl rfl rfl rfl rfl rfl ⟨rfl, rfl, rfl, rfl, rfl⟩ rfl rfl rfl rfl rfl (by kernel_rfl) Try.func8 (by kernel_rfl)
    (of_decide_eq_true (by kernel_rfl)) (by unfold Func.isWrapper; first | (rw [if_pos (by decide +kernel)]; kernel_rfl) | (rw [if_neg (by decide +kernel)]; exact ⟨rfl, rfl⟩))
    (fun os started H enc _ => lifted os started H enc)
#print axioms proved
end Go.Proofs.Ytnioplhdhaomoaa.floorRound
namespace Go.Proofs.Ytnioplhdhaomoaa
/-- The row, under a short name, for the claim. -/
theorem floorRound_holds : Rows.FloorRoundSaid := floorRound.proved
end Go.Proofs.Ytnioplhdhaomoaa
