import Derived.Test.YtfnhnniecclleaaPAx2
import Derived.Test.YtfnhnniecclleaaPAx0
import Derived.Test.YtfnhnniecclleaaPAx5
import Derived.Test.YtfnhnniecclleaaPAx4
import Derived.Test.YtfnhnniecclleaaPAx7
namespace Go.Proofs.Ytfnhnniecclleaa.Spec
open Go.RowKit Go.Proofs.Ytfnhnniecclleaa.PA Go.Proofs.YtfnhnniecclleaaW.PrintWords Go.Proofs.YtfnhnniecclleaaW.PrintLast
set_option linter.unusedVariables false
theorem w64 {x : Int} (h0 : -9223372036854775808 ≤ x) (h1 : x < 9223372036854775808) : wrap64 x = x := by unfold wrap64; omega
theorem rd_get (l : List Int) (i : Nat) (h : i < l.length) : rd l (i : Int) = l[i] := by simp [rd, h]
theorem drop_cons {α : Type} (l : List α) (i : Nat) (h : i < l.length) : l.drop i = l[i] :: l.drop (i + 1) := List.drop_eq_getElem_cons h
theorem drop_end {α : Type} (l : List α) (i : Nat) (h : l.length ≤ i) : l.drop i = [] := List.drop_eq_nil_of_le h
theorem rdT (l : List S64) (i : Nat) (h : i < l.length) : rd_T64 l (i : Int) = l[i] := by simp [rd_T64, h]
theorem rdL (l : List (List S64)) (i : Nat) (h : i < l.length) : rd_L4 l (i : Int) = l[i] := by simp [rd_L4, h]
theorem i1 (i : Nat) : ((i : Int) + 1) = ((i + 1 : Nat) : Int) := by omega
instance : DecidableEq S64 := fun a b => match a, b with
  | ⟨a0, a1⟩, ⟨b0, b1⟩ => if h : a0 = b0 ∧ a1 = b1 then isTrue (by rw [h.1, h.2]) else isFalse (by simpa using h)

def termsOk (own : Int) : Int → List S64 → Bool
  | _, [] => true
  | last, t :: r => if t.f0 ≤ last then false else if t.f0 ≥ own then false else if t.f1 = 0 then false else termsOk own t.f0 r
theorem terms_l0 (own : Int) (l : List S64) (hl : l.length ≤ 9223372036854775807) (d : Nat) : ∀ (i : Nat) (last : Int), i + d = l.length →
    Ev (fun k => flow_terms.l0 k own last l (l.length : Int) (i : Int)) (termsOk own last (l.drop i)) := by
  induction d with
  | zero =>
    intro i last h
    refine Ev.step (fun k => ?_) (Ev.now _)
    simp only [flow_terms.l0]
    rw [if_neg (by omega), drop_end _ _ (by omega), termsOk]
  | succ d ih =>
    intro i last h
    have hi : i < l.length := by omega
    rw [drop_cons l i hi, termsOk]
    by_cases h1 : l[i].f0 ≤ last
    · rw [if_pos h1]
      refine Ev.step (fun k => ?_) (Ev.now _)
      simp only [flow_terms.l0]
      rw [if_pos (by omega), if_pos (by omega), if_pos (by omega), rdT l i hi, if_pos h1]
    · rw [if_neg h1]
      by_cases h2 : l[i].f0 ≥ own
      · rw [if_pos h2]
        refine Ev.step (fun k => ?_) (Ev.now _)
        simp only [flow_terms.l0]
        rw [if_pos (by omega), if_pos (by omega), if_pos (by omega), rdT l i hi, if_neg h1, if_pos h2]
      · rw [if_neg h2]
        by_cases h3 : l[i].f1 = 0
        · rw [if_pos h3]
          refine Ev.step (fun k => ?_) (Ev.now _)
          simp only [flow_terms.l0]
          rw [if_pos (by omega), if_pos (by omega), if_pos (by omega), rdT l i hi, if_neg h1, if_neg h2, if_pos h3]
        · rw [if_neg h3]
          refine Ev.step (fun k => ?_) (ih (i + 1) l[i].f0 (by omega))
          simp only [flow_terms.l0]
          rw [if_pos (by omega), if_pos (by omega), if_pos (by omega), rdT l i hi, if_neg h1, if_neg h2, if_neg h3, w64 (by omega) (by omega), i1]
theorem terms_ev (own : Int) (l : List S64) (hl : l.length ≤ 9223372036854775807) : Ev (fun k => flow_terms.f k l own) (termsOk own (-1) l) := terms_l0 own l hl l.length 0 (-1) (by omega)

def nodesOk (n0 : Nat) : Nat → List (List S64) → Bool
  | _, [] => true
  | i, l :: r => if termsOk ((n0 : Int) + i) (-1) l = true then nodesOk n0 (i + 1) r else false
theorem mayNodes_ev (n0 : Nat) : ∀ (l : List (List S64)) (i : Nat), (∀ x ∈ l, x.length ≤ 9223372036854775807) → Ev (fun k => mayNodes k n0 i l) (nodesOk n0 i l)
  | [], i, _ => Ev.now _
  | x :: r, i, h => by
    unfold nodesOk
    refine Ev.bind (f := fun k t => if t = true then mayNodes k n0 (i + 1) r else some false) (terms_ev _ x (h x (by simp))) ?_
    by_cases c : termsOk ((n0 : Int) + i) (-1) x = true
    · simp only [c, if_true]
      exact mayNodes_ev n0 r (i + 1) (fun y hy => h y (by simp [hy]))
    · simp only [c]
      exact Ev.now _

def mayB (ins : List Int) (nodes : List (List S64)) (outs : List Int) : Bool :=
  mayIns (-1) ins && decide (nodes.length ≤ 4096) && decide (outs.length ≤ 64) && nodesOk ins.length 0 nodes && !(outs.any fun v => decide (v < 0) || decide ((ins.length : Int) + nodes.length ≤ v))
theorem flow_May_ev (ins : List Int) (nodes : List (List S64)) (outs : List Int) (h : ∀ x ∈ nodes, x.length ≤ 9223372036854775807) : Ev (fun k => flow_May.f k ins nodes outs) (mayB ins nodes outs) := by
  unfold flow_May.f mayB
  by_cases c0 : mayIns (-1) ins = true
  · simp only [c0, if_true, Bool.true_and]
    by_cases c1 : 4096 < nodes.length
    · simp only [c1, if_true]
      have : decide (nodes.length ≤ 4096) = false := by simpa using c1
      simp only [this, Bool.false_and]
      exact Ev.now _
    · have h1 : decide (nodes.length ≤ 4096) = true := by simpa using c1
      simp only [c1, if_false, h1, Bool.true_and]
      by_cases c2 : 64 < outs.length
      · have h2 : decide (outs.length ≤ 64) = false := by simpa using c2
        simp only [c2, if_true, h2, Bool.false_and]
        exact Ev.now _
      · have h2 : decide (outs.length ≤ 64) = true := by simpa using c2
        simp only [c2, if_false, h2, Bool.true_and]
        refine Ev.bind (mayNodes_ev _ nodes 0 h) ?_
        cases nodesOk ins.length 0 nodes
        · exact Ev.now _
        · exact Ev.now _
  · simp only [Bool.not_eq_true] at c0
    simp only [c0]
    exact Ev.now _

/-! the reference's May -/
/-! Same -/
theorem anchored_ev : Ev (fun k => recouplaw21_anchored.f k) true := Ev.of (fun k => recouplaw21_anchored.mono k) (k := 30) (by decide +kernel)

/-- What the reading of a flow tells. -/
def FlowI (x : S25) : Prop :=
  (x.f0.length * 8 ≤ 140737488351232 ∧ ∀ n ∈ x.f0, (Lit.int .i64 n).wf = true) ∧
  (x.f1.length * 24 ≤ 140737488351232 ∧ ∀ l ∈ x.f1, l.length * 16 ≤ 140737488351232 ∧ ∀ y ∈ l, (Lit.int .i64 y.f0).wf = true ∧ (Lit.int .u8 y.f1).wf = true) ∧
  (x.f2.length * 8 ≤ 140737488351232 ∧ ∀ n ∈ x.f2, (Lit.int .i64 n).wf = true)
end Go.Proofs.Ytfnhnniecclleaa.Spec
