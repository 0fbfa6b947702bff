/- FlowTrims' plain law: the program's Trim and the reference's mark the same least closed set, number it alike and copy it alike; the two Costs fold alike. -/
import Derived.Test.YtfnhnniecclleaaSpec
import Derived.Test.YtfnhnniecclleaaPAx12
namespace Go.Proofs.Ytfnhnniecclleaa.Spec
open Go.RowKit Go.Proofs.Ytfnhnniecclleaa.PA Go.Proofs.YtfnhnniecclleaaW.PrintWords Go.Proofs.YtfnhnniecclleaaW.PrintLast
set_option linter.unusedVariables false
set_option linter.unusedSectionVars false
structure Good (ins : List Int) (nodes : List (List S64)) (outs : List Int) : Prop where
  n0 : ins.length ≤ 64
  nN : nodes.length ≤ 4096
  nO : outs.length ≤ 64
  term : ∀ n (h : n < nodes.length), ∀ t ∈ nodes[n], 0 ≤ t.f0 ∧ t.f0 < (ins.length : Int) + n ∧ t.f1 ≠ 0
  tlen : ∀ n (h : n < nodes.length), nodes[n].length ≤ 4160
  outs : ∀ v ∈ outs, 0 ≤ v ∧ v < (ins.length : Int) + nodes.length
theorem termsOk_spec (own : Int) : ∀ (l : List S64) (last : Int), -1 ≤ last → last < own → termsOk own last l = true → (∀ t ∈ l, last < t.f0 ∧ t.f0 < own ∧ t.f1 ≠ 0) ∧ (l.length : Int) ≤ own - 1 - last
  | [], last, h0, h1, _ => ⟨fun _ h => (by cases h), by simp; omega⟩
  | t :: r, last, h0, h1, h => by
    rw [termsOk] at h
    by_cases c1 : t.f0 ≤ last
    · rw [if_pos c1] at h; cases h
    · rw [if_neg c1] at h
      by_cases c2 : t.f0 ≥ own
      · rw [if_pos c2] at h; cases h
      · rw [if_neg c2] at h
        by_cases c3 : t.f1 = 0
        · rw [if_pos c3] at h; cases h
        · rw [if_neg c3] at h
          obtain ⟨ha, hb⟩ := termsOk_spec own r t.f0 (by omega) (by omega) h
          refine ⟨fun x hx => ?_, by simp only [List.length_cons]; omega⟩
          rcases List.mem_cons.1 hx with rfl | hx
          · exact ⟨by omega, by omega, c3⟩
          · have := ha x hx
            exact ⟨by omega, this.2⟩
theorem nodesOk_spec (n0 : Nat) : ∀ (l : List (List S64)) (i : Nat), nodesOk n0 i l = true → ∀ n (h : n < l.length), termsOk ((n0 : Int) + (i + n : Nat)) (-1) l[n] = true
  | [], i, _, n, h => absurd h (by simp)
  | x :: r, i, h, n, hn => by
    rw [nodesOk] at h
    by_cases c : termsOk ((n0 : Int) + i) (-1) x = true
    · rw [if_pos c] at h
      cases n with
      | zero => simpa using c
      | succ n =>
        have := nodesOk_spec n0 r (i + 1) h n (by simpa using hn)
        simpa [show i + 1 + n = i + (n + 1) from by omega] using this
    · rw [if_neg c] at h; cases h
theorem good_of_may {ins : List Int} {nodes : List (List S64)} {outs : List Int} (h : mayB ins nodes outs = true) : Good ins nodes outs := by
  unfold mayB at h
  simp only [Bool.and_eq_true, decide_eq_true_eq, Bool.not_eq_true', List.any_eq_false, Bool.or_eq_true, not_or] at h
  obtain ⟨⟨⟨⟨h0, h1⟩, h2⟩, h3⟩, h4⟩ := h
  have hl := mayIns_len ins (-1) (by omega) (by omega) h0
  have ht := nodesOk_spec ins.length nodes 0 h3
  refine ⟨by omega, h1, h2, fun n hn t htm => ?_, fun n hn => ?_, fun v hv => ?_⟩
  · have := (termsOk_spec _ _ (-1) (by omega) (by omega) (ht n hn)).1 t htm
    exact ⟨by omega, by simpa using this.2.1, this.2.2⟩
  · have := (termsOk_spec _ _ (-1) (by omega) (by omega) (ht n hn)).2
    omega
  · have := h4 v hv
    omega

/-! marks -/
def Mk (h : List Bool) (u : Nat) : Prop := h[u]? = some true
/-- The values of which value u is made. -/
def kids (n0 : Nat) (nodes : List (List S64)) (u : Nat) : List Nat := if u < n0 then [] else (nodes.getD (u - n0) []).map (fun t => t.f0.toNat)
def ClosedS (n0 : Nat) (nodes : List (List S64)) (S : Nat → Prop) : Prop := ∀ u, S u → ∀ c ∈ kids n0 nodes u, S c
section
variable {ins : List Int} {nodes : List (List S64)} {outs : List Int} (hg : Good ins nodes outs)
include hg
structure Marked (h h' : List Bool) (v : Nat) : Prop where
  len : h'.length = h.length
  grow : ∀ u, Mk h u → Mk h' u
  here : Mk h' v
  above : ∀ u, v < u → (Mk h' u ↔ Mk h u)
  closed : ∀ u, u ≤ v → Mk h' u → ∀ c ∈ kids ins.length nodes u, Mk h' c
  least : ∀ S : Nat → Prop, ClosedS ins.length nodes S → S v → (∀ u, Mk h u → S u) → ∀ u, Mk h' u → S u
structure Final (h : List Bool) : Prop where
  len : h.length = ins.length + nodes.length
  outM : ∀ o ∈ outs, Mk h o.toNat
  closed : ClosedS ins.length nodes (Mk h)
  least : ∀ S : Nat → Prop, ClosedS ins.length nodes S → (∀ o ∈ outs, S o.toNat) → ∀ u, Mk h u → S u
/-! the program's Trim -/
/-! the reference's Trim -/
structure Inv (n : Nat) (h : List Bool) : Prop where
  len : h.length = ins.length + nodes.length
  outM : ∀ o ∈ outs, Mk h o.toNat
  cl : ∀ u, ins.length + n ≤ u → Mk h u → ∀ c ∈ kids ins.length nodes u, Mk h c
  least : ∀ S : Nat → Prop, ClosedS ins.length nodes S → (∀ o ∈ outs, S o.toNat) → ∀ u, Mk h u → S u
end

/-! Cost -/
end Go.Proofs.Ytfnhnniecclleaa.Spec
