/- RegsFlows: for every flow and every blocks, the program given, run on the machine, answers as the flow's own Run. No condition. -/
import Derived.Test.YtlflfpkjbjbldaaBnd
import Derived.Test.YtlflfpkjbjbldaaPureRegsRuns
import Derived.Test.YtlflfpkjbjbldaaPAFlows
namespace Go.Proofs.Ytlflfpkjbjbldaa.Spec
open Go.RowKit Go.Proofs.Ytlflfpkjbjbldaa.PA Go.Proofs.YtlflfpkjbjbldaaW.PrintWords Go.Proofs.YtlflfpkjbjbldaaW.PrintLast Go.Proofs.YtlflfpkjbjbldaaW.PrintMore
set_option linter.unusedVariables false
theorem runs_ex {bl : List (List Int)} (hb : BlI bl) (st : List S38) (r o z : Int) (h3 : ∀ x ∈ st, 0 ≤ x.f3 ∧ x.f3 < 256) : ∃ T, regs_Run.f st r o z bl = some T := by
  unfold regs_Run.f
  by_cases ha : bl.all (fun b => decide (b.length = sizeB bl)) = true
  · simp only [if_pos ha, if_pos (size_le hb)]
    by_cases hm : mayP st r o
    · simp only [if_pos hm]
      have hbl : ∀ b ∈ bl, b.length = sizeB bl ∧ byteL b := fun b hbm => ⟨of_decide_eq_true (List.all_eq_true.1 ha b hbm), (bli_bytes hb b hbm).2⟩
      obtain ⟨X, h1, _, _⟩ := run_ev (sizeB bl) (size_le hb) bl hbl st _ _ (OkC.none _ r.toNat) (OkC.none _ o.toNat) h3
      exact ⟨endR X, by rw [h1]; rfl⟩
    · simp only [if_neg hm]; exact ⟨_, rfl⟩
  · simp only [if_neg ha]; exact ⟨_, rfl⟩
theorem endR_out (V : List (List Int)) (O : List Int) (R : Cells) : endR (some (R, outC V O 0)) = (outF V O, 0) := by
  have e : outC V O 0 = O.map (fun v => some (rd_L13 V v)) := by simp [outC]
  unfold endR
  simp only
  rw [e, if_pos (by simp)]
  simp [outF]
theorem regsFlows_ev {x : S25} {bl : List (List Int)} (h : FlowI x) (hb : BlI bl) : Ev (fun k => recouplaw23_RegsFlows.f k x.f0 x.f1 x.f2 bl) true := by
  have hx : ∀ l ∈ x.f1, l.length ≤ 9223372036854775807 := fun l hl => by have := (h.2.1.2 l hl).1; omega
  have hm := rmay_ev x.f0 x.f1 x.f2 (by have := h.1.1; omega) hx
  have hrun := ref_Run_ev h hb.1 (bli_bytes hb)
  unfold recouplaw23_RegsFlows.f
  by_cases c : mayB x.f0 x.f1 x.f2 = true
  · obtain ⟨W, us, hF, hmt, hle, hus, hE⟩ := give_may c
    have hg := good_of_may c
    have hr := runs_of h hb.1 (bli_bytes hb) c
    have h0 := hg.n0
    have h1 := hg.nN
    rw [c] at hm
    have hlen := runB_len (ins := x.f0) (nodes := x.f1) (outs := x.f2) bl
    have hB1 : ∀ l ∈ fNodes x.f0 x.f1 W (x.f0.length + x.f1.length), ∀ t ∈ l, 0 ≤ t.f1 ∧ t.f1 < 256 := fun l hl t ht => by
      obtain ⟨l0, hl0, rfl⟩ := fNodes_mem (ins := x.f0) W x.f1.length (Nat.le_refl _) l hl
      obtain ⟨t0, ht0, rfl⟩ := List.mem_map.1 ht
      exact wf_u8 ((h.2.1.2 l0 hl0).2 t0 ht0).2
    have hbnd := Bnd.give (fIns x.f0 W x.f0.length) _ (fOuts x.f2 W) us hB1
    refine Ev.bind hE (Ev.bind hm (Ev.bind Sames.anchored_ev ?_))
    simp only [if_true]
    refine Ev.bind hrun ?_
    by_cases hok : (giveS (fIns x.f0 W x.f0.length) (fNodes x.f0 x.f1 W (x.f0.length + x.f1.length)) (fOuts x.f2 W) us).ok = true
    · simp only [if_pos hok, if_true]
      obtain ⟨T, hT⟩ := runs_ex hb _ (giveS (fIns x.f0 W x.f0.length) (fNodes x.f0 x.f1 W (x.f0.length + x.f1.length)) (fOuts x.f2 W) us).regs (x.f2.length : Int) (giveS (fIns x.f0 W x.f0.length) (fNodes x.f0 x.f1 W (x.f0.length + x.f1.length)) (fOuts x.f2 W) us).reads hbnd.by3
      by_cases ca : (runB x.f0 x.f1 x.f2 bl).2 = 0
      · have hall : bl.all (fun b => decide (b.length = lenB bl)) = true := by
          cases ha : bl.all (fun b => decide (b.length = lenB bl)) with
          | true => rfl
          | false => unfold runB runV at ca; rw [if_pos c, if_neg (by rw [ha]; decide)] at ca; exact absurd ca (by decide)
        have hany : x.f0.any (fun v => decide (v ≥ (bl.length : Int))) = false := by
          cases ha : x.f0.any (fun v => decide (v ≥ (bl.length : Int))) with
          | false => rfl
          | true => unfold runB runV frontV at ca; rw [if_pos c, if_pos hall, if_pos ha] at ca; exact absurd ca (by decide)
        have hanyT : (fIns x.f0 W x.f0.length).any (fun v => decide (v ≥ (bl.length : Int))) = false := by
          rw [List.any_eq_false]
          intro y hy
          obtain ⟨u, _, hu, _, rfl⟩ := fIns_mem x.f0 W x.f0.length y hy
          rw [rd_get x.f0 u hu]
          exact List.any_eq_false.1 hany _ (List.getElem_mem hu)
        have hrt : Runs (fIns x.f0 W x.f0.length) (fNodes x.f0 x.f1 W (x.f0.length + x.f1.length)) (fOuts x.f2 W) bl :=
          ⟨good_of_may hmt, fun v hv => by have := mayIns_pos _ _ (may_both hmt).1 v hv; omega, hB1, by have := hb.1; omega, fun b hbm => ⟨by have := (bli_bytes hb b hbm).1; omega, (bli_bytes hb b hbm).2⟩⟩
        obtain ⟨R', hR⟩ := give_runs hmt hrt hall hanyT (size_le hb) hus hok
        have hol : (fOuts x.f2 W).length = x.f2.length := by rw [fOuts, List.length_map]
        have hval : runB x.f0 x.f1 x.f2 bl = (outF (runF (lenB bl) (pickB bl x.f0) x.f1) x.f2, 0) := by
          unfold runB runV frontV
          rw [if_pos c, if_pos hall, if_neg (by rw [hany]; decide)]
        have hT2 : regs_Run.f (giveS (fIns x.f0 W x.f0.length) (fNodes x.f0 x.f1 W (x.f0.length + x.f1.length)) (fOuts x.f2 W) us).steps (giveS (fIns x.f0 W x.f0.length) (fNodes x.f0 x.f1 W (x.f0.length + x.f1.length)) (fOuts x.f2 W) us).regs (x.f2.length : Int) (giveS (fIns x.f0 W x.f0.length) (fNodes x.f0 x.f1 W (x.f0.length + x.f1.length)) (fOuts x.f2 W) us).reads bl = some (runB x.f0 x.f1 x.f2 bl) := by
          unfold regs_Run.f
          have h3 := hg.nO
          rw [if_pos (show bl.all (fun b => decide (b.length = sizeB bl)) = true from hall), if_pos (size_le hb), if_pos (show mayP _ _ _ from ⟨hbnd.rg.1, hbnd.rg.2, by omega, by omega, hbnd.sl⟩), Int.toNat_natCast, ← hol]
          rw [show sizeB bl = lenB bl from rfl, hR, Option.bind_some, endR_out, out_T c hF, hval]
        simp only [hT2, Option.bind_some, if_pos ca]
        refine Ev.bind (blocks_refl _ (by omega)) ?_
        simp only [if_true]
        exact Ev.now _
      · simp only [hT, Option.bind_some, if_neg ca]
        exact Ev.now _
    · simp only [if_neg hok]
      obtain ⟨T, hT⟩ := runs_ex hb [] 0 0 0 (fun x hx => by cases hx)
      have hn : ¬ (fIns x.f0 W x.f0.length).length + (fNodes x.f0 x.f1 W (x.f0.length + x.f1.length)).length ≤ 256 := fun e => hok (give_ok hmt e)
      simp only [hT, Option.bind_some, show ¬ (4 : Int) = 0 from by decide, if_false, if_true]
      rw [if_pos (by omega), if_pos (by omega)]
      exact Ev.now _
  · have hc : mayB x.f0 x.f1 x.f2 = false := by simpa using c
    rw [hc] at hm
    refine Ev.bind (give_not hc hx) (Ev.bind hm (Ev.bind Sames.anchored_ev ?_))
    simp only [Bool.false_eq_true, if_false, if_true]
    exact Ev.now _
end Go.Proofs.Ytlflfpkjbjbldaa.Spec
namespace Go.Proofs.Ytlflfpkjbjbldaa.Pure
open Go.RowKit Go.Proofs.Ytlflfpkjbjbldaa.PA Go.Proofs.YtlflfpkjbjbldaaW.PrintWords Go.Proofs.YtlflfpkjbjbldaaW.PrintLast Go.Proofs.Ytlflfpkjbjbldaa.Spec
theorem RegsFlows : ∀ (x0 : S25) (x1 : List (List Int)), FlowI x0 → BlI x1 → ∃ k, recouplaw23_RegsFlows.f k x0.f0 x0.f1 x0.f2 x1 = some true := fun _ _ h hb => (regsFlows_ev h hb).rounds
end Go.Proofs.Ytlflfpkjbjbldaa.Pure
