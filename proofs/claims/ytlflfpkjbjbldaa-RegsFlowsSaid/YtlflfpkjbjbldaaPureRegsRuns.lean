/- RegsRuns: for every program and every blocks, the machine's Run answers as the reference's, or with its error; and the fixed flow's program is as the document says. No condition. -/
import Derived.Test.YtlflfpkjbjbldaaBytes
import Derived.Test.YtlflfpkjbjbldaaRefB
import Derived.Test.YtlflfpkjbjbldaaPAx12
import Derived.Test.YtlflfpkjbjbldaaPureRegsSames
namespace Go.Proofs.Ytlflfpkjbjbldaa.Spec
open Go.RowKit Go.Proofs.Ytlflfpkjbjbldaa.PA Go.Proofs.YtlflfpkjbjbldaaW.PrintWords Go.Proofs.YtlflfpkjbjbldaaW.PrintLast Go.Proofs.YtlflfpkjbjbldaaW.PrintMore
set_option linter.unusedVariables false
def OkC (L : Nat) (R : Cells) : Prop := ∀ l, some l ∈ R → l.length = L ∧ byteL l
theorem OkC.set {L : Nat} {R : Cells} (h : OkC L R) (D : Nat) {l : List Int} (hl : l.length = L) (hb : byteL l) : OkC L (R.set D (some l)) := fun x hx => by
  rcases List.mem_or_eq_of_mem_set hx with hx | hx
  · exact h x hx
  · obtain rfl := Option.some.inj hx; exact ⟨hl, hb⟩
theorem OkC.get {L : Nat} {R : Cells} (h : OkC L R) {i : Int} (hi : inR i R.length) {l : List Int} (hl : getC R i = some l) : l.length = L ∧ byteL l := by
  obtain ⟨D, rfl, hD⟩ := inR_nat hi
  rw [getC_nat R D hD] at hl
  exact h l (hl ▸ List.getElem_mem hD)
theorem OkC.none (L n : Nat) : OkC L (List.replicate n none) := fun l hl => by cases (List.mem_replicate.1 hl).2
theorem copy_f (l : List Int) (h : l.length ≤ 140737488351232) : recoupref01_Copy.f l = some l := by
  simp only [recoupref01_Copy.f, Option.bind_some, List.length_nil, List.nil_append]
  rw [if_pos (by omega)]
theorem do_ev (L : Nat) (hL : L ≤ 140737488351232) (bl : List (List Int)) (hbl : ∀ b ∈ bl, b.length = L ∧ byteL b) (R O : Cells) (hR : OkC L R) (hO : OkC L O) (s : S38) (h0 : 0 ≤ s.f3) (h1 : s.f3 < 256) :
    ∃ X, doV L bl R O s = some X ∧ Ev (fun k => rdoV k L bl R O s) X ∧ ∀ R' O', X = some (R', O') → OkC L R' ∧ OkC L O' := by
  have no : ∀ {f : Nat → Option (Option (Cells × Cells))} {X}, (∀ k, f k = some X) → Ev f X := fun h => Ev.congr h (Ev.now _)
  unfold doV rdoV
  by_cases k1 : s.f0 = 1
  · simp only [if_pos k1]
    refine ⟨_, rfl, Ev.now _, fun R' O' e => ?_⟩
    split at e
    · obtain ⟨rfl, rfl⟩ := Prod.mk.inj (Option.some.inj e)
      exact ⟨hR.set _ (by simp) (rep_byte L), hO⟩
    · cases e
  simp only [if_neg k1]
  by_cases k2 : s.f0 = 2
  · simp only [if_pos k2]
    by_cases t : inR s.f1 R.length
    · simp only [if_pos t]
      by_cases t2 : inR s.f2 bl.length
      · simp only [if_pos t2]
        have hb : (rd_L13 bl s.f2).length = L ∧ byteL (rd_L13 bl s.f2) := by
          obtain ⟨S, hS, hSl⟩ := inR_nat t2
          rw [hS]
          have : rd_L13 bl (S : Int) = bl[S] := by simp [rd_L13, hSl]
          rw [this]; exact hbl _ (List.getElem_mem _)
        rw [copy_f _ (by rw [hb.1]; exact hL)]
        refine ⟨_, rfl, Ev.now _, fun R' O' e => ?_⟩
        obtain ⟨rfl, rfl⟩ := Prod.mk.inj (Option.some.inj e)
        exact ⟨hR.set _ hb.1 hb.2, hO⟩
      · simp only [if_neg t2]
        exact ⟨_, rfl, Ev.now _, fun R' O' e => by cases e⟩
    · simp only [if_neg t]
      exact ⟨_, rfl, Ev.now _, fun R' O' e => by cases e⟩
  simp only [if_neg k2]
  by_cases k3 : s.f0 = 3
  · simp only [if_pos k3]
    by_cases t : inR s.f1 R.length
    · simp only [if_pos t]
      by_cases t2 : inR s.f2 R.length
      · simp only [if_pos t2]
        cases ha : getC R s.f1 with
        | none => exact ⟨_, rfl, Ev.now _, fun R' O' e => by cases e⟩
        | some a =>
          cases hb : getC R s.f2 with
          | none => exact ⟨_, rfl, Ev.now _, fun R' O' e => by cases e⟩
          | some b =>
            have ga := hR.get t ha
            have gb := hR.get t2 hb
            simp only
            rw [scale_f s.f3 b h0 h1 gb.2 (by rw [gb.1]; omega)]
            refine ⟨_, rfl, Ev.bind (mac_ev s.f3 h0 h1 a b (by rw [ga.1, gb.1]) (by rw [ga.1]; exact hL) gb.2) (Ev.now _), fun R' O' e => ?_⟩
            obtain ⟨rfl, rfl⟩ := Prod.mk.inj (Option.some.inj e)
            exact ⟨hR.set _ (show (xorB a (scB s.f3 b)).length = L by rw [xorB_len (by rw [scB, List.length_map, ga.1, gb.1]), ga.1]) (xorB_byte _ _), hO⟩
      · simp only [if_neg t2]
        exact ⟨_, rfl, Ev.now _, fun R' O' e => by cases e⟩
    · simp only [if_neg t]
      exact ⟨_, rfl, Ev.now _, fun R' O' e => by cases e⟩
  simp only [if_neg k3]
  by_cases k4 : s.f0 = 4
  · simp only [if_pos k4]
    by_cases t2 : inR s.f2 R.length
    · simp only [if_pos t2]
      cases hb : getC R s.f2 with
      | none => exact ⟨_, rfl, Ev.now _, fun R' O' e => by cases e⟩
      | some b =>
        have gb := hR.get t2 hb
        simp only
        by_cases t : inR s.f1 O.length
        · simp only [if_pos t]
          cases ha : getC O s.f1 with
          | some a => exact ⟨_, rfl, Ev.now _, fun R' O' e => by cases e⟩
          | none =>
            simp only
            rw [copy_f b (by rw [gb.1]; exact hL)]
            refine ⟨_, rfl, Ev.now _, fun R' O' e => ?_⟩
            obtain ⟨rfl, rfl⟩ := Prod.mk.inj (Option.some.inj e)
            exact ⟨hR, hO.set _ gb.1 gb.2⟩
        · simp only [if_neg t]
          exact ⟨_, rfl, Ev.now _, fun R' O' e => by cases e⟩
    · simp only [if_neg t2]
      exact ⟨_, rfl, Ev.now _, fun R' O' e => by cases e⟩
  simp only [if_neg k4]
  exact ⟨_, rfl, Ev.now _, fun R' O' e => by cases e⟩
theorem do_len {L : Nat} {bl : List (List Int)} {R O R1 O1 : Cells} {s : S38} (h : doV L bl R O s = some (some (R1, O1))) : R1.length = R.length ∧ O1.length = O.length := by
  unfold doV at h
  repeat' split at h
  all_goals first
    | (cases h; done)
    | (simp only [Option.some.injEq, Prod.mk.injEq] at h; obtain ⟨rfl, rfl⟩ := h; simp; done)
    | (obtain ⟨y, _, h⟩ := Option.bind_eq_some_iff.1 h; simp only [Option.some.injEq, Prod.mk.injEq] at h; obtain ⟨rfl, rfl⟩ := h; simp; done)
theorem run_ev (L : Nat) (hL : L ≤ 140737488351232) (bl : List (List Int)) (hbl : ∀ b ∈ bl, b.length = L ∧ byteL b) : ∀ (l : List S38) (R O : Cells), OkC L R → OkC L O → (∀ s ∈ l, 0 ≤ s.f3 ∧ s.f3 < 256) →
    ∃ X, runS L bl l R O = some X ∧ Ev (fun k => rrunS k L bl l R O) X ∧ ∀ R' O', X = some (R', O') → OkC L R' ∧ OkC L O' ∧ R'.length = R.length ∧ O'.length = O.length
  | [], R, O, hR, hO, _ => ⟨_, rfl, Ev.now _, fun R' O' e => by obtain ⟨rfl, rfl⟩ := Prod.mk.inj (Option.some.inj e); exact ⟨hR, hO, rfl, rfl⟩⟩
  | s :: r, R, O, hR, hO, hs => by
    obtain ⟨X1, h1, h2, h3⟩ := do_ev L hL bl hbl R O hR hO s (hs s (by simp)).1 (hs s (by simp)).2
    cases X1 with
    | none => exact ⟨none, by rw [runS, h1]; rfl, Ev.bind h2 (Ev.now _), fun _ _ e => by cases e⟩
    | some Y =>
      obtain ⟨R1, O1⟩ := Y
      obtain ⟨hR1, hO1⟩ := h3 R1 O1 rfl
      have hlen := do_len h1
      obtain ⟨X, g1, g2, g3⟩ := run_ev L hL bl hbl r R1 O1 hR1 hO1 (fun x hx => hs x (by simp [hx]))
      refine ⟨X, by rw [runS, h1]; exact g1, Ev.bind h2 g2, fun R' O' e => ?_⟩
      obtain ⟨a, b, c, d⟩ := g3 R' O' e
      exact ⟨a, b, c.trans hlen.1, d.trans hlen.2⟩
theorem size_le {bl : List (List Int)} (h : BlI bl) : sizeB bl ≤ 140737488351232 := by
  unfold sizeB
  cases bl with
  | nil => simp [rd_L13]
  | cons b r => have := (h.2 b (by simp)).1; simpa [rd_L13] using this
end Go.Proofs.Ytlflfpkjbjbldaa.Spec
namespace Go.Proofs.Ytlflfpkjbjbldaa.Pure
open Go.RowKit Go.Proofs.Ytlflfpkjbjbldaa.PA Go.Proofs.YtlflfpkjbjbldaaW.PrintWords Go.Proofs.YtlflfpkjbjbldaaW.PrintLast Go.Proofs.Ytlflfpkjbjbldaa.Spec
end Go.Proofs.Ytlflfpkjbjbldaa.Pure
