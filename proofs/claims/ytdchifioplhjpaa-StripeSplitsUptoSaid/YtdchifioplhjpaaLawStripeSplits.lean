/- StripeSplits: called with any arguments that can be read and hold together at most 1048576 values and letters, the law returns true and leaves its arguments as they were. Conditions: the bulk bound alone. The row, out of the pure statement and the walk. -/
import Derived.Test.YtdchifioplhjpaaRows
import Derived.Test.YtdchifioplhjpaaRd
import Derived.Test.YtdchifioplhjpaaPAx3
import Derived.Test.YtdchifioplhjpaaPureStripeSplits
import Derived.Test.YtdchifioplhjpaaSplitsWalk
import Derived.WalkKit
import Derived.ProofKit
import Derived.OpenShut
import Derived.ShutString
import Derived.ChangeOld
import Derived.Below
import Derived.SizedLaws
import Derived.JoinedCond
import Derived.Deep.CondSized
import Derived.WideKeyPair
namespace Go.Proofs.Ytdchifioplhjpaa.stripeSplitsUpto
open Go.ChangeShapes Go.WideShapes Go.ChangeAt Go.RowKit
open Go.ChangeMaps (open_string shut_string)
open Go.Proofs.Ytdchifioplhjpaa.Rd Go.Proofs.Ytdchifioplhjpaa.PA Go.Proofs.YtdchifioplhjpaaW.PrintWords
set_option linter.unusedVariables false
set_option linter.unusedSimpArgs false
theorem own : ownKnob Try.prog.godebug = none := by kernel_rfl
theorem laidOut : laidOutB Try.prog = true := by kernel_rfl
theorem ak : Go.WideMaps.ArrKey Try.prog 23 3 2 := ⟨Try.underlying23, by kernel_rfl, by kernel_rfl, by kernel_rfl⟩
theorem sum_flat : ∀ (l : List (List Int)), l.flatten.length ≤ sumB (fun x : List Int => sumB (fun _ => 1) x + 1) l ∧ l.length ≤ sumB (fun x : List Int => sumB (fun _ => 1) x + 1) l
  | [] => ⟨by simp, by simp⟩
  | x :: r => by
    have h := sum_flat r
    have one : ∀ y : List Int, y.length = sumB (fun _ => 1) y := fun y => by
      induction y with
      | nil => rfl
      | cons a b ih => simp only [List.length_cons, sumB]; omega
    have h1 := one x
    simp only [List.flatten_cons, List.length_append, List.length_cons, sumB]
    omega
set_option maxRecDepth 100000 in
set_option maxHeartbeats 1000000 in
theorem lifted (os : Os) (started : os.Started) (H : Type) (enc : TypeId × Value → H) (F : Stop.Interp) :
    ReturnsInHanded {} Try.checked os 3 .any ((Rows.OpenSpec.upto Rows.stripeSplitsSpec).pre6 enc Try.prog Try.f3 Rows.stripeSplitsUptoRow.domain false) (((Rows.OpenSpec.upto Rows.stripeSplitsSpec).at F).post enc Try.prog Try.f3 false true false false) := by
  refine returnsInHanded_of_cond_sized (C := Try.checked) (s := Rows.OpenSpec.upto Rows.stripeSplitsSpec) (k := Rows.uptoSmall) rfl own started (by kernel_rfl) Try.func3
    (OpenSpec.witness (enc := enc) (C := Try.checked) (s := Rows.OpenSpec.upto Rows.stripeSplitsSpec) (k := Rows.uptoSmall) rfl false ⟨#[], #[.slice none 0 0, .agg #[.int .i64 0, .int .i64 0], .slice none 0 0], []⟩ 8 (by kernel_rfl) (by kernel_rfl) (by kernel_rfl)
      (x := ([.nil, .agg [.lit (.int .i64 0), .lit (.int .i64 0)], .nil], [], [])) (by kernel_rfl) rfl (by kernel_rfl)) ?_
  intro W base args ds gs before hval0 hW _ hbk0 hsz0 _
  have hbk : Rows.uptoBulkAll (ds ++ gs) ≤ 1048576 := of_decide_eq_true hbk0
  have hsz : (DataW.weightsEach Try.prog (Try.f3.params.toList ++ Rows.stripeSplitsSpec.plain.varTypes Try.prog) (ds ++ gs)).all (· ≤ reachBytes) = true := hsz0
  have hval : ∀ (j : Nat) t v, Try.f3.params[j]? = some t → args[j]? = some v → Value.okWide Try.prog W .any base t v := hval0
  have hW' := hW
  obtain ⟨p, q, hA0, hV, rfl, hfz, hnd⟩ := hW
  have hA : DataW.TrodAll enc Try.prog W 0 (fun _ => true) true Try.f3.params.toList args.toList ds p := hA0
  rw [Try.params3] at hA hval hsz
  obtain ⟨v0, vs0, d0, ds0, p0, q0, hargs, rfl, rfl, h0, r0⟩ := trodAll_cons hA
  obtain ⟨v1, vs1, d1, ds1, p1, q1, rfl, rfl, rfl, h1, r1⟩ := trodAll_cons r0
  obtain ⟨v2, vs2, d2, ds2, p2, q2, rfl, rfl, rfl, h2, r2⟩ := trodAll_cons r1
  obtain ⟨rfl, rfl, rfl⟩ := trodAll_nil r2
  obtain rfl : args = #[v0, v1, v2] := by cases args; simp_all
  obtain ⟨rfl, rfl⟩ := trodVars_none hV
  have k0 := h0
  have lt0 : ∀ x ∈ p0, x.block < W.heap.size := by obtain ⟨m, hm⟩ := k0; exact DataW.trod_lt m _ _ _ hm
  obtain ⟨a0, len0, cap0, rfl⟩ := okWide_slice Try.underlying22 (hval 0 22 v0 rfl rfl)
  obtain ⟨fu0, hf0⟩ := h0
  obtain ⟨x0, hK0, hI0, hB0⟩ := (opens_slice 1 Try.underlying22 (by kernel_rfl) (by kernel_rfl) (opens_int Try.underlying5)) _ enc fu0 _ _ _ hf0
  obtain ⟨A0, c0, e0, hc0, hr0⟩ := hK0
  simp only [Value.cells, List.cons.injEq, Value.slice.injEq, and_true] at e0
  obtain ⟨rfl, rfl, rfl⟩ := e0
  obtain ⟨b0, b1, rfl, rfl, rfl, wa, wb⟩ := Go.WideMaps.open_pair ak Try.underlying3 (hval 1 23 v1 rfl rfl) h1
  have k2 := h2
  have lt2 : ∀ x ∈ p2, x.block < W.heap.size := by obtain ⟨m, hm⟩ := k2; exact DataW.trod_lt m _ _ _ hm
  obtain ⟨a2, len2, cap2, rfl⟩ := okWide_slice Try.underlying24 (hval 2 24 v2 rfl rfl)
  obtain ⟨fu2, hf2⟩ := h2
  obtain ⟨x2, hK2, hI2, hB2⟩ := (opens_slice 24 Try.underlying24 (by kernel_rfl) (by kernel_rfl) (opens_slice 1 Try.underlying22 (by kernel_rfl) (by kernel_rfl) (opens_int Try.underlying5))) _ enc fu2 _ _ _ hf2
  obtain ⟨A2, c2, e2, hc2, hr2⟩ := hK2
  simp only [Value.cells, List.cons.injEq, Value.slice.injEq, and_true] at e2
  obtain ⟨rfl, rfl, rfl⟩ := e2
  have hs2 := sum_flat x2
  have hB2' : sumB (fun x : List Int => sumB (fun _ => 1) x + 1) x2 + 1 ≤ Rows.uptoBulk d2 := hB2
  simp only [List.cons_append, List.nil_append, Rows.uptoBulkAll] at hbk
  obtain ⟨k, a, b, c, d, e, g, ha, hb, hj, hd, hbl, hsm⟩ := Pure.StripeSplits x0 b0 b1 x2 (by omega) (by omega)
  clear hA0 hval0 hsz0 hsz
  refine (recouplaw30_StripeSplits.calls k _ _ x0 b0 b1 _ _ x2 a b c d e g W hr0 hc0 hr2 hc2 ha hb hj hd hbl hsm).mono fun e W' ⟨he, bel⟩ => ?_
  subst he
  exact ⟨_, rfl, _, _, _, [], _, [], hW', trodAll_mk1 (shut_bool Try.underlying4 _), (trodAll_cons_mk (Below.trod laidOut (by kernel_rfl) (of_decide_eq_true (by kernel_rfl)) k0 bel lt0) (trodAll_cons_mk (Go.WideMaps.shut_pair ak Try.underlying3 wa wb) (trodAll_cons_mk (Below.trod laidOut (by kernel_rfl) (of_decide_eq_true (by kernel_rfl)) k2 bel lt2) trodAll_mk0))), rfl, bel.frame _, fun h => by cases h⟩
theorem proved : Rows.StripeSplitsUptoSaid :=
  OpenClaim.holds_of_cond 3 Try.f3 rfl rfl rfl rfl rfl rfl rfl ⟨rfl, rfl, rfl, rfl, rfl⟩ rfl rfl rfl rfl rfl (by kernel_rfl) Try.func3 (by kernel_rfl)
    (of_decide_eq_true (by kernel_rfl)) (by unfold Func.isWrapper; first | (rw [if_pos (by decide +kernel)]; kernel_rfl) | (rw [if_neg (by decide +kernel)]; exact ⟨rfl, rfl⟩))
    (fun os started H enc _ F => lifted os started H enc F)
#print axioms proved
end Go.Proofs.Ytdchifioplhjpaa.stripeSplitsUpto
namespace Go.Proofs.Ytdchifioplhjpaa
/-- The row, under a short name, for the claim. -/
theorem stripeSplitsUpto_holds : Rows.StripeSplitsUptoSaid := stripeSplitsUpto.proved
end Go.Proofs.Ytdchifioplhjpaa
