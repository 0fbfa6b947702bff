/- The walk of FlowFresh, as the row asks for it: where all that is called answers as it must, the law returns true. Conditions: those of FreshPre. -/
import Derived.Test.YtfnhnniecclleaaFreshD
namespace Go.Proofs.Ytfnhnniecclleaa.PA
open Go.RowKit Go.Proofs.YtfnhnniecclleaaW.PrintWords Go.Proofs.YtfnhnniecclleaaW.PrintLast Go.Proofs.YtfnhnniecclleaaW.PrintMore
/-- What the calls answer. -/
def FreshPre (k : Nat) (I : List Int) (NN : List (List S64)) (O : List Int) (bl : List (List Int)) (mr mc : Int) (md : List Int) : Prop :=
  recoupref21_Copy.f k I NN O = some (I, NN, O) ∧ recoupref21_CopyBlocks.f k bl = some bl ∧ recoupref03_Copy.f mr mc md = some (mr, mc, md) ∧
  (∃ tI tN tO te, flow_Trim.f k I NN O = some (tI, tN, tO, te) ∧ tN.length < 4611686018427387904) ∧ (∃ oI oN oO oe, flow_Of.f k mr mc md = some (oI, oN, oO, oe)) ∧
  (∃ out ee, flow_Run.f k I NN O bl = some (out, ee) ∧ out.length < 4611686018427387904 ∧ (∀ x ∈ out, x.length + 3 < 140737488355328) ∧ (∀ X : List (List Int), X.map List.length = out.map List.length → recoupref21_CopyBlocks.f k X = some X) ∧
    ∃ rb, recoupref21_Run.f k I NN O bl = some (rb, ee) ∧ recoupref21_Blocks.f k out rb = some true) ∧
  recouplaw21_anchored.f k = some true ∧ recoupref21_Same.f k I NN O I NN O = some true ∧ recoupref21_Blocks.f k bl bl = some true ∧ recoupref03_Like.f mr mc md mr mc md = some true
noncomputable def recouplaw21_FlowFresh.f (k : Nat) (l0_0 : List Int) (l0_1 : List (List S64)) (l0_2 : List Int) (l1 : List (List Int)) (a2_0 a2_1 : Int) (l2_2 : List Int) : Option Bool :=
  @ite _ (FreshPre k l0_0 l0_1 l0_2 l1 a2_0 a2_1 l2_2) (Classical.propDecidable _) (some true) none
theorem recouplaw21_FlowFresh.calls (k : Nat) (A0_0 : Option Addr) (c0_0 : Nat) (l0_0 : List Int) (A0_1 : Option Addr) (c0_1 : Nat) (l0_1 : List (List S64)) (A0_2 : Option Addr) (c0_2 : Nat) (l0_2 : List Int) (A1 : Option Addr) (c1 : Nat) (l1 : List (List Int)) (a2_0 a2_1 : Int) (A2_2 : Option Addr) (c2_2 : Nat) (l2_2 : List Int) (r : Bool) (w : World)
    (hr0_0 : Kd.C (Kd.int .i64) w A0_0 l0_0.length l0_0) (hc0_0 : l0_0.length ≤ c0_0) (hr0_1 : Kd.C (Kd.slice 64 k64) w A0_1 l0_1.length l0_1) (hc0_1 : l0_1.length ≤ c0_1) (hr0_2 : Kd.C (Kd.int .i64) w A0_2 l0_2.length l0_2) (hc0_2 : l0_2.length ≤ c0_2)
    (hr1 : Kd.C (Kd.slice 5 (Kd.int .u8)) w A1 l1.length l1) (hc1 : l1.length ≤ c1) (hr2_2 : Kd.C (Kd.int .u8) w A2_2 l2_2.length l2_2) (hc2_2 : l2_2.length ≤ c2_2) (h : recouplaw21_FlowFresh.f k l0_0 l0_1 l0_2 l1 a2_0 a2_1 l2_2 = some r) :
    Calls Try.prog 9 #[.agg #[.slice A0_0 l0_0.length c0_0, .slice A0_1 l0_1.length c0_1, .slice A0_2 l0_2.length c0_2], .slice A1 l1.length c1, .agg #[.int .i64 a2_0, .int .i64 a2_1, .slice A2_2 l2_2.length c2_2]] w fun e w' => e = .returned (.bool r) ∧ Below w.heap.size w w' := by
  unfold recouplaw21_FlowFresh.f at h
  by_cases hp : FreshPre k l0_0 l0_1 l0_2 l1 a2_0 a2_1 l2_2
  · rw [if_pos hp] at h
    obtain rfl := Option.some.inj h
    obtain ⟨h1, h2, h3, ⟨tI, tN, tO, te, h4, h5⟩, ⟨oI, oN, oO, oe, h6⟩, ⟨out, ee, h7, h8, h9, h10, rb, h11, h12⟩, h13, h14, h15, h16⟩ := hp
    exact Fresh.fresh_calls k A0_0 c0_0 l0_0 A0_1 c0_1 l0_1 A0_2 c0_2 l0_2 A1 c1 l1 a2_0 a2_1 A2_2 c2_2 l2_2 w hr0_0 hc0_0 hr0_1 hc0_1 hr0_2 hc0_2 hr1 hc1 hr2_2 hc2_2 h1 h2 h3 h4 h6 h5 h8 h9 h10 h7 h11 h13 h14 h15 h16 h12
  · rw [if_neg hp] at h
    cases h
end Go.Proofs.Ytfnhnniecclleaa.PA
