/- FlowMays: for every two flows, the program's May and Same answer as the reference's, a flow is the Same as itself, and the fixed flow is as the document says. No condition. -/
import Derived.Test.YtfnhnniecclleaaSpec
namespace Go.Proofs.Ytfnhnniecclleaa.Pure
open Go.RowKit Go.Proofs.Ytfnhnniecclleaa.PA Go.Proofs.YtfnhnniecclleaaW.PrintWords Go.Proofs.YtfnhnniecclleaaW.PrintLast Go.Proofs.Ytfnhnniecclleaa.Spec
theorem FlowMays : ∀ (x0 x1 : S25), FlowI x0 → FlowI x1 → ∃ k, recouplaw21_FlowMays.f k x0.f0 x0.f1 x0.f2 x1.f0 x1.f1 x1.f2 = some true := by
  intro x0 x1 h0 h1
  obtain ⟨⟨ha, _⟩, ⟨hb, hb'⟩, ⟨hc, _⟩⟩ := h0
  have hx : ∀ x ∈ x0.f1, x.length ≤ 9223372036854775807 := fun x hx => by have := (hb' x hx).1; omega
  refine Ev.rounds ?_
  unfold recouplaw21_FlowMays.f
  refine Ev.bind (flow_May_ev x0.f0 x0.f1 x0.f2 hx) (Ev.bind (rmay_ev x0.f0 x0.f1 x0.f2 (by omega) hx) ?_)
  simp only [beq_self_eq_true, if_true]
  refine Ev.bind (flow_Same_ev x0.f0 x0.f1 x0.f2 x1.f0 x1.f1 x1.f2 (by omega) hx (by omega)) (Ev.bind (rsame_ev x0.f0 x0.f1 x0.f2 x1.f0 x1.f1 x1.f2 (by omega) hx (by omega) (by omega)) ?_)
  simp only [beq_self_eq_true, if_true]
  refine Ev.bind (flow_Same_ev x0.f0 x0.f1 x0.f2 x0.f0 x0.f1 x0.f2 (by omega) hx (by omega)) ?_
  simp only [sameB_refl, if_true]
  exact Ev.bind anchored_ev (Ev.now _)
end Go.Proofs.Ytfnhnniecclleaa.Pure
