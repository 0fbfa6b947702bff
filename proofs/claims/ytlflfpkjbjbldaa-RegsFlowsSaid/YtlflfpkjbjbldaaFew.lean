/- RegsFew's plain law: what the giver gives reads each input once, uses no more registers than values, and gives up only where the flow has more than 256 values. -/
import Derived.Test.YtlflfpkjbjbldaaGiv
import Derived.Test.YtlflfpkjbjbldaaLessA
import Derived.Test.YtlflfpkjbjbldaaPAx0
import Derived.Test.YtlflfpkjbjbldaaPAx1
import Derived.Test.YtlflfpkjbjbldaaPAx6
import Derived.Test.YtlflfpkjbjbldaaPAx7
import Derived.Test.YtlflfpkjbjbldaaPAx8
import Derived.Test.YtlflfpkjbjbldaaPureRegsSames
namespace Go.Proofs.Ytlflfpkjbjbldaa.Spec
open Go.RowKit Go.Proofs.Ytlflfpkjbjbldaa.PA Go.Proofs.YtlflfpkjbjbldaaW.PrintWords Go.Proofs.YtlflfpkjbjbldaaW.PrintLast Go.Proofs.YtlflfpkjbjbldaaW.PrintMore
set_option linter.unusedVariables false
set_option linter.unusedSectionVars false
theorem may_both {ins : List Int} {nodes : List (List S62)} {outs : List Int} (h : mayB ins nodes outs = true) : mayIns (-1) ins = true ∧ nodesOk ins.length 0 nodes = true := by
  unfold mayB at h
  simp only [Bool.and_eq_true] at h
  exact ⟨h.1.1.1.1, h.1.2⟩
theorem may_GT {ins : List Int} {nodes : List (List S62)} {outs : List Int} (h : mayB ins nodes outs = true) : GT ins nodes outs := by
  have hg := good_of_may h
  have h0 := hg.n0
  have h1 := hg.nN
  have hm := (may_both h).1
  refine ⟨by omega, fun b hb => ⟨by have := mayIns_pos ins (-1) hm b hb; omega, mayIns_hi ins (-1) hm b hb⟩, fun i hi t ht => ?_, fun v hv => by have := hg.outs v hv; omega, hg.nO⟩
  rw [rdL nodes i hi] at ht
  have := hg.term i hi t ht
  omega
theorem may_inj {ins : List Int} {nodes : List (List S62)} {outs : List Int} (h : mayB ins nodes outs = true) : ∀ a b : Nat, a < ins.length → b < ins.length → rd ins a = rd ins b → a = b := by
  intro a b ha hb e
  rw [rd_get ins a ha, rd_get ins b hb] at e
  have hl := mayIns_lt ins (-1) (may_both h).1
  rcases Nat.lt_trichotomy a b with c | c | c
  · have := hl a b c hb; omega
  · exact c
  · have := hl b a c ha; omega
theorem setAll_some (i : Int) : ∀ (l : List S62) (a : List Int), (∀ t ∈ l, 0 ≤ t.f0 ∧ t.f0 < (a.length : Int)) → ∃ b, setAll i l a = some b ∧ b.length = a.length
  | [], a, _ => ⟨a, rfl, rfl⟩
  | t :: r, a, h => by
    have ht := h t (by simp)
    obtain ⟨b, hb, hl⟩ := setAll_some i r (a.set t.f0.toNat i) (fun x hx => by rw [List.length_set]; exact h x (by simp [hx]))
    refine ⟨b, ?_, by rw [hl, List.length_set]⟩
    rw [setAll, if_pos ht.1, if_pos ht.2]; exact hb
theorem lastN_some : ∀ (l : List (List S62)) (i : Int) (a : List Int), (∀ x ∈ l, ∀ t ∈ x, 0 ≤ t.f0 ∧ t.f0 < (a.length : Int)) → ∃ b, lastN i l a = some b ∧ b.length = a.length
  | [], _, a, _ => ⟨a, rfl, rfl⟩
  | x :: r, i, a, h => by
    obtain ⟨b, hb, hl⟩ := setAll_some i x a (h x (by simp))
    obtain ⟨c, hc, hl2⟩ := lastN_some r (i + 1) b (fun y hy => by rw [hl]; exact h y (by simp [hy]))
    exact ⟨c, by rw [lastN, hb]; exact hc, by rw [hl2, hl]⟩
theorem lastO_some (n : Int) : ∀ (l : List Int) (a : List Int), (∀ v ∈ l, 0 ≤ v ∧ v < (a.length : Int)) → ∃ b, lastO n l a = some b ∧ b.length = a.length
  | [], a, _ => ⟨a, rfl, rfl⟩
  | v :: r, a, h => by
    have ht := h v (by simp)
    obtain ⟨b, hb, hl⟩ := lastO_some n r (a.set v.toNat n) (fun x hx => by rw [List.length_set]; exact h x (by simp [hx]))
    refine ⟨b, ?_, by rw [hl, List.length_set]⟩
    rw [lastO, if_pos ht.1, if_pos ht.2]; exact hb
theorem may_last {ins : List Int} {nodes : List (List S62)} {outs : List Int} (h : mayB ins nodes outs = true) : ∃ us, regs_last.f ins nodes outs = some us ∧ us.length = ins.length + nodes.length := by
  have hg := good_of_may h
  have h0 := hg.n0
  have h1 := hg.nN
  unfold regs_last.f
  rw [if_pos (by omega)]
  obtain ⟨b, hb, hl⟩ := lastN_some nodes 0 (List.replicate (ins.length + nodes.length) (-1)) (fun x hx t ht => by
    obtain ⟨n, hn, rfl⟩ := List.getElem_of_mem hx
    have := hg.term n hn t ht
    rw [List.length_replicate]; omega)
  rw [List.length_replicate] at hl
  obtain ⟨c, hc, hl2⟩ := lastO_some (nodes.length : Int) outs b (fun v hv => by have := hg.outs v hv; rw [hl]; omega)
  exact ⟨c, by rw [hb]; exact hc, by rw [hl2, hl]⟩
/-- What Give answers on a flow that may be: the trimmed flow's giver. -/
theorem give_may {ins : List Int} {nodes : List (List S62)} {outs : List Int} (h : mayB ins nodes outs = true) : ∃ W us, Final (ins := ins) (nodes := nodes) (outs := outs) W ∧ mayB (fIns ins W ins.length) (fNodes ins nodes W (ins.length + nodes.length)) (fOuts outs W) = true ∧
    (fIns ins W ins.length).length + (fNodes ins nodes W (ins.length + nodes.length)).length ≤ ins.length + nodes.length ∧ regs_last.f (fIns ins W ins.length) (fNodes ins nodes W (ins.length + nodes.length)) (fOuts outs W) = some us ∧
    Ev (fun k => regs_Give.f k ins nodes outs) (if (giveS (fIns ins W ins.length) (fNodes ins nodes W (ins.length + nodes.length)) (fOuts outs W) us).ok = true then ((giveS (fIns ins W ins.length) (fNodes ins nodes W (ins.length + nodes.length)) (fOuts outs W) us).steps, (giveS (fIns ins W ins.length) (fNodes ins nodes W (ins.length + nodes.length)) (fOuts outs W) us).regs, (outs.length : Int), (giveS (fIns ins W ins.length) (fNodes ins nodes W (ins.length + nodes.length)) (fOuts outs W) us).reads, 0) else ([], 0, 0, 0, 4)) := by
  obtain ⟨W, hF, hT⟩ := flow_Trim_ev (good_of_may h) h
  have hm := less_may h hF
  obtain ⟨us, hus, _⟩ := may_last hm
  refine ⟨W, us, hF, hm, ?_, hus, ?_⟩
  · have h1 := fNodes_rank ins nodes W nodes.length
    have h2 := fIns_rank ins W ins.length (Nat.le_refl _)
    have h3 := rank_le W (ins.length + nodes.length)
    omega
  · unfold regs_Give.f
    refine Ev.bind hT ?_
    simp only [if_true]
    rw [if_pos (may_GT hm), hus, Option.bind_some]
    have e : (fOuts outs W).length = outs.length := by rw [fOuts, List.length_map]
    rw [e]
    split
    · exact Ev.now _
    · exact Ev.now _
theorem give_not {ins : List Int} {nodes : List (List S62)} {outs : List Int} (h : mayB ins nodes outs = false) (hx : ∀ x ∈ nodes, x.length ≤ 9223372036854775807) : Ev (fun k => regs_Give.f k ins nodes outs) ([], 0, 0, 0, 2) := by
  have hm := flow_May_ev ins nodes outs hx
  rw [h] at hm
  have hT : Ev (fun k => flow_Trim.f k ins nodes outs) ([], [], [], 2) := by
    unfold flow_Trim.f
    refine Ev.bind hm ?_
    simp only [Bool.false_eq_true, if_false]
    exact Ev.now _
  unfold regs_Give.f
  refine Ev.bind hT ?_
  simp only [show ¬ (2 : Int) = 0 from by decide, if_false]
  exact Ev.now _
/-- Where the trimmed flow has no more than 256 values the giver does not give up. -/
theorem give_ok {ins : List Int} {nodes : List (List S62)} {outs us : List Int} (h : mayB ins nodes outs = true) (hn : ins.length + nodes.length ≤ 256) : (giveS ins nodes outs us).ok = true := by
  have hF := FI.give (may_inj h) nodes outs us
  have hg := good_of_may h
  have h3 := hg.nO
  refine hF.okI hn ?_
  have := wN_le (l := nodes) (a := ins.length) (fun j hj => by
    have := (termsOk_spec _ _ (-1) (by omega) (by omega) (nodesOk_spec ins.length nodes 0 (may_both h).2 j hj)).2
    omega) hn
  omega
/-! the bits read -/
theorem rdS (l : List S38) (i : Nat) (h : i < l.length) : rd_T38 l (i : Int) = l[i] := by simp [rd_T38, h]
def FlowI (x : S25) : Prop :=
  (x.f0.length * 8 ≤ 140737488351232 ∧ ∀ n ∈ x.f0, (Lit.int .i64 n).wf = true) ∧
  (x.f1.length * 24 ≤ 140737488351232 ∧ ∀ l ∈ x.f1, l.length * 16 ≤ 140737488351232 ∧ ∀ y ∈ l, (Lit.int .i64 y.f0).wf = true ∧ (Lit.int .u8 y.f1).wf = true) ∧
  (x.f2.length * 8 ≤ 140737488351232 ∧ ∀ n ∈ x.f2, (Lit.int .i64 n).wf = true)
end Go.Proofs.Ytlflfpkjbjbldaa.Spec
