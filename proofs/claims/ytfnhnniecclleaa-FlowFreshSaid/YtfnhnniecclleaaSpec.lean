import Derived.Test.YtfnhnniecclleaaPAx2
import Derived.Test.YtfnhnniecclleaaPAx3
import Derived.Test.YtfnhnniecclleaaPAx5
import Derived.Test.YtfnhnniecclleaaPAx0
import Derived.Test.YtfnhnniecclleaaPAx4
import Derived.Test.YtfnhnniecclleaaPAx7
namespace Go.Proofs.Ytfnhnniecclleaa.Spec
open Go.RowKit Go.Proofs.Ytfnhnniecclleaa.PA Go.Proofs.YtfnhnniecclleaaW.PrintWords Go.Proofs.YtfnhnniecclleaaW.PrintLast
set_option linter.unusedVariables false
theorem w64 {x : Int} (h0 : -9223372036854775808 ≤ x) (h1 : x < 9223372036854775808) : wrap64 x = x := by unfold wrap64; omega
theorem rd_get (l : List Int) (i : Nat) (h : i < l.length) : rd l (i : Int) = l[i] := by simp [rd, h]
theorem drop_cons {α : Type} (l : List α) (i : Nat) (h : i < l.length) : l.drop i = l[i] :: l.drop (i + 1) := List.drop_eq_getElem_cons h
theorem drop_end {α : Type} (l : List α) (i : Nat) (h : l.length ≤ i) : l.drop i = [] := List.drop_eq_nil_of_le h
theorem rdT (l : List S64) (i : Nat) (h : i < l.length) : rd_T64 l (i : Int) = l[i] := by simp [rd_T64, h]
theorem rdL (l : List (List S64)) (i : Nat) (h : i < l.length) : rd_L4 l (i : Int) = l[i] := by simp [rd_L4, h]
theorem i1 (i : Nat) : ((i : Int) + 1) = ((i + 1 : Nat) : Int) := by omega
instance : DecidableEq S64 := fun a b => match a, b with
  | ⟨a0, a1⟩, ⟨b0, b1⟩ => if h : a0 = b0 ∧ a1 = b1 then isTrue (by rw [h.1, h.2]) else isFalse (by simpa using h)

def termsOk (own : Int) : Int → List S64 → Bool
  | _, [] => true
  | last, t :: r => if t.f0 ≤ last then false else if t.f0 ≥ own then false else if t.f1 = 0 then false else termsOk own t.f0 r
theorem terms_l0 (own : Int) (l : List S64) (hl : l.length ≤ 9223372036854775807) (d : Nat) : ∀ (i : Nat) (last : Int), i + d = l.length →
    Ev (fun k => flow_terms.l0 k own last l (l.length : Int) (i : Int)) (termsOk own last (l.drop i)) := by
  induction d with
  | zero =>
    intro i last h
    refine Ev.step (fun k => ?_) (Ev.now _)
    simp only [flow_terms.l0]
    rw [if_neg (by omega), drop_end _ _ (by omega), termsOk]
  | succ d ih =>
    intro i last h
    have hi : i < l.length := by omega
    rw [drop_cons l i hi, termsOk]
    by_cases h1 : l[i].f0 ≤ last
    · rw [if_pos h1]
      refine Ev.step (fun k => ?_) (Ev.now _)
      simp only [flow_terms.l0]
      rw [if_pos (by omega), if_pos (by omega), if_pos (by omega), rdT l i hi, if_pos h1]
    · rw [if_neg h1]
      by_cases h2 : l[i].f0 ≥ own
      · rw [if_pos h2]
        refine Ev.step (fun k => ?_) (Ev.now _)
        simp only [flow_terms.l0]
        rw [if_pos (by omega), if_pos (by omega), if_pos (by omega), rdT l i hi, if_neg h1, if_pos h2]
      · rw [if_neg h2]
        by_cases h3 : l[i].f1 = 0
        · rw [if_pos h3]
          refine Ev.step (fun k => ?_) (Ev.now _)
          simp only [flow_terms.l0]
          rw [if_pos (by omega), if_pos (by omega), if_pos (by omega), rdT l i hi, if_neg h1, if_neg h2, if_pos h3]
        · rw [if_neg h3]
          refine Ev.step (fun k => ?_) (ih (i + 1) l[i].f0 (by omega))
          simp only [flow_terms.l0]
          rw [if_pos (by omega), if_pos (by omega), if_pos (by omega), rdT l i hi, if_neg h1, if_neg h2, if_neg h3, w64 (by omega) (by omega), i1]
theorem terms_ev (own : Int) (l : List S64) (hl : l.length ≤ 9223372036854775807) : Ev (fun k => flow_terms.f k l own) (termsOk own (-1) l) := terms_l0 own l hl l.length 0 (-1) (by omega)

def nodesOk (n0 : Nat) : Nat → List (List S64) → Bool
  | _, [] => true
  | i, l :: r => if termsOk ((n0 : Int) + i) (-1) l = true then nodesOk n0 (i + 1) r else false
theorem mayNodes_ev (n0 : Nat) : ∀ (l : List (List S64)) (i : Nat), (∀ x ∈ l, x.length ≤ 9223372036854775807) → Ev (fun k => mayNodes k n0 i l) (nodesOk n0 i l)
  | [], i, _ => Ev.now _
  | x :: r, i, h => by
    unfold nodesOk
    refine Ev.bind (f := fun k t => if t = true then mayNodes k n0 (i + 1) r else some false) (terms_ev _ x (h x (by simp))) ?_
    by_cases c : termsOk ((n0 : Int) + i) (-1) x = true
    · simp only [c, if_true]
      exact mayNodes_ev n0 r (i + 1) (fun y hy => h y (by simp [hy]))
    · simp only [c]
      exact Ev.now _

def mayB (ins : List Int) (nodes : List (List S64)) (outs : List Int) : Bool :=
  mayIns (-1) ins && decide (nodes.length ≤ 4096) && decide (outs.length ≤ 64) && nodesOk ins.length 0 nodes && !(outs.any fun v => decide (v < 0) || decide ((ins.length : Int) + nodes.length ≤ v))
theorem flow_May_ev (ins : List Int) (nodes : List (List S64)) (outs : List Int) (h : ∀ x ∈ nodes, x.length ≤ 9223372036854775807) : Ev (fun k => flow_May.f k ins nodes outs) (mayB ins nodes outs) := by
  unfold flow_May.f mayB
  by_cases c0 : mayIns (-1) ins = true
  · simp only [c0, if_true, Bool.true_and]
    by_cases c1 : 4096 < nodes.length
    · simp only [c1, if_true]
      have : decide (nodes.length ≤ 4096) = false := by simpa using c1
      simp only [this, Bool.false_and]
      exact Ev.now _
    · have h1 : decide (nodes.length ≤ 4096) = true := by simpa using c1
      simp only [c1, if_false, h1, Bool.true_and]
      by_cases c2 : 64 < outs.length
      · have h2 : decide (outs.length ≤ 64) = false := by simpa using c2
        simp only [c2, if_true, h2, Bool.false_and]
        exact Ev.now _
      · have h2 : decide (outs.length ≤ 64) = true := by simpa using c2
        simp only [c2, if_false, h2, Bool.true_and]
        refine Ev.bind (mayNodes_ev _ nodes 0 h) ?_
        cases nodesOk ins.length 0 nodes
        · exact Ev.now _
        · exact Ev.now _
  · simp only [Bool.not_eq_true] at c0
    simp only [c0]
    exact Ev.now _

/-! the reference's May -/
def outsOk (N : Int) : List Int → Bool
  | [] => true
  | v :: r => if v < 0 then false else if v ≥ N then false else outsOk N r
theorem outsOk_any (N : Int) : ∀ l : List Int, outsOk N l = !(l.any fun v => decide (v < 0) || decide (N ≤ v))
  | [] => rfl
  | v :: r => by
    unfold outsOk
    by_cases h0 : v < 0
    · simp [h0]
    · by_cases h1 : N ≤ v
      · simp [h1]
      · simp [h0, h1, outsOk_any N r]
theorem rmay_l3 (ins : List Int) (nodes : List (List S64)) (outs : List Int) (ho : outs.length ≤ 64) (hi : ins.length ≤ 9223372036854771711) (hn : nodes.length ≤ 4096) (d : Nat) : ∀ (i : Nat), i + d = outs.length →
    Ev (fun k => recoupref21_May.l3 k (i : Int) ins nodes outs) (outsOk ((ins.length : Int) + nodes.length) (outs.drop i)) := by
  have hw : wrap64 ((ins.length : Int) + (nodes.length : Int)) = (ins.length : Int) + nodes.length := w64 (by omega) (by omega)
  induction d with
  | zero =>
    intro i h
    refine Ev.step (fun k => ?_) (Ev.now _)
    simp only [recoupref21_May.l3]
    rw [if_neg (by omega), drop_end _ _ (by omega), outsOk]
  | succ d ih =>
    intro i h
    have hl : i < outs.length := by omega
    rw [drop_cons outs i hl, outsOk]
    by_cases h1 : outs[i] < 0
    · rw [if_pos h1]
      refine Ev.step (fun k => ?_) (Ev.now _)
      simp only [recoupref21_May.l3]
      rw [if_pos (by omega), if_pos (by omega), rd_get outs i hl, if_pos h1]
    · rw [if_neg h1]
      by_cases h2 : outs[i] ≥ (ins.length : Int) + nodes.length
      · rw [if_pos h2]
        refine Ev.step (fun k => ?_) (Ev.now _)
        simp only [recoupref21_May.l3]
        rw [if_pos (by omega), if_pos (by omega), rd_get outs i hl, if_neg h1, hw, if_pos h2]
      · rw [if_neg h2]
        refine Ev.step (fun k => ?_) (ih (i + 1) (by omega))
        simp only [recoupref21_May.l3]
        rw [if_pos (by omega), if_pos (by omega), rd_get outs i hl, if_neg h1, hw, if_neg h2, w64 (by omega) (by omega), i1]

theorem rmay_l2 (ins : List Int) (nodes : List (List S64)) (outs : List Int) (ho : outs.length ≤ 64) (hi : ins.length ≤ 9223372036854771711) (hn : nodes.length ≤ 4096) (R : Bool) (n : Nat) (hnl : n < nodes.length) (hx : nodes[n].length ≤ 9223372036854775807)
    (hR : Ev (fun k => recoupref21_May.l1 k ((n + 1 : Nat) : Int) ins nodes outs) R) (d : Nat) : ∀ (i : Nat) (last : Int), i + d = nodes[n].length → (i = 0 ∧ last = -1 ∨ 0 < i ∧ ∃ h : i - 1 < nodes[n].length, last = nodes[n][i - 1].f0 ∧ 0 ≤ last) →
    Ev (fun k => recoupref21_May.l2 k (n : Int) (i : Int) ins nodes outs) (if termsOk ((ins.length : Int) + n) last (nodes[n].drop i) = true then R else false) := by
  have hw : wrap64 ((ins.length : Int) + (n : Int)) = (ins.length : Int) + n := w64 (by omega) (by omega)
  have hw1 : wrap64 ((n : Int) + 1) = ((n + 1 : Nat) : Int) := by rw [w64 (by omega) (by omega)]; omega
  induction d with
  | zero =>
    intro i last h hlast
    rw [drop_end _ _ (by omega), termsOk, if_pos rfl]
    refine Ev.step (fun k => ?_) hR
    simp only [recoupref21_May.l2]
    rw [if_pos (by omega), if_pos (by omega), rdL nodes n hnl, if_neg (by omega), hw1]
  | succ d ih =>
    intro i last h hlast
    have hl : i < nodes[n].length := by omega
    rw [drop_cons _ i hl, termsOk]
    by_cases h3 : nodes[n][i].f1 = 0
    · have : (if nodes[n][i].f0 ≤ last then false else if nodes[n][i].f0 ≥ (ins.length : Int) + n then false else if nodes[n][i].f1 = 0 then false else termsOk ((ins.length : Int) + n) nodes[n][i].f0 (nodes[n].drop (i + 1))) = false := by
        split
        · rfl
        · split
          · rfl
          · simp
      rw [this]
      refine Ev.step (fun k => ?_) (Ev.now _)
      simp only [recoupref21_May.l2]
      rw [if_pos (by omega), if_pos (by omega), rdL nodes n hnl, if_pos (by omega), if_pos (by omega), rdT _ i hl, if_pos h3]
      rfl
    · by_cases h1 : nodes[n][i].f0 < 0
      · have hle : -1 ≤ last := by rcases hlast with ⟨_, rfl⟩ | ⟨_, _, _, h⟩ <;> omega
        have : (if nodes[n][i].f0 ≤ last then false else if nodes[n][i].f0 ≥ (ins.length : Int) + n then false else if nodes[n][i].f1 = 0 then false else termsOk ((ins.length : Int) + n) nodes[n][i].f0 (nodes[n].drop (i + 1))) = false := if_pos (by omega)
        rw [this]
        refine Ev.step (fun k => ?_) (Ev.now _)
        simp only [recoupref21_May.l2]
        rw [if_pos (by omega), if_pos (by omega), rdL nodes n hnl, if_pos (by omega), if_pos (by omega), rdT _ i hl, if_neg h3, if_pos h1]
        rfl
      · by_cases h2 : nodes[n][i].f0 ≥ (ins.length : Int) + n
        · have : (if nodes[n][i].f0 ≤ last then false else if nodes[n][i].f0 ≥ (ins.length : Int) + n then false else if nodes[n][i].f1 = 0 then false else termsOk ((ins.length : Int) + n) nodes[n][i].f0 (nodes[n].drop (i + 1))) = false := by
            split
            · rfl
            · simp
          rw [this]
          refine Ev.step (fun k => ?_) (Ev.now _)
          simp only [recoupref21_May.l2]
          rw [if_pos (by omega), if_pos (by omega), rdL nodes n hnl, if_pos (by omega), if_pos (by omega), rdT _ i hl, if_neg h3, if_neg h1, hw, if_pos h2]
          rfl
        · have hnext := ih (i + 1) nodes[n][i].f0 (by omega) (.inr ⟨by omega, by simpa using hl, by simp, by omega⟩)
          rcases hlast with ⟨rfl, rfl⟩ | ⟨hi0, hi1, rfl, hl0⟩
          · have : (if nodes[n][0].f0 ≤ -1 then false else if nodes[n][0].f0 ≥ (ins.length : Int) + n then false else if nodes[n][0].f1 = 0 then false else termsOk ((ins.length : Int) + n) nodes[n][0].f0 (nodes[n].drop (0 + 1))) = termsOk ((ins.length : Int) + n) nodes[n][0].f0 (nodes[n].drop (0 + 1)) := by rw [if_neg (by omega), if_neg h2, if_neg h3]
            rw [this]
            refine Ev.step (fun k => ?_) hnext
            simp only [recoupref21_May.l2]
            rw [if_pos (by omega), if_pos (by omega), rdL nodes n hnl, if_pos (by omega), if_pos (by omega), rdT _ 0 hl, if_neg h3, if_neg h1, hw, if_neg h2, if_neg (by omega), w64 (by omega) (by omega), i1]
          · have hwi : wrap64 ((i : Int) - 1) = ((i - 1 : Nat) : Int) := by rw [w64 (by omega) (by omega)]; omega
            by_cases h4 : nodes[n][i].f0 ≤ nodes[n][i - 1].f0
            · have : (if nodes[n][i].f0 ≤ nodes[n][i - 1].f0 then false else if nodes[n][i].f0 ≥ (ins.length : Int) + n then false else if nodes[n][i].f1 = 0 then false else termsOk ((ins.length : Int) + n) nodes[n][i].f0 (nodes[n].drop (i + 1))) = false := if_pos h4
              rw [this]
              refine Ev.step (fun k => ?_) (Ev.now _)
              simp only [recoupref21_May.l2]
              rw [if_pos (by omega), if_pos (by omega), rdL nodes n hnl, if_pos (by omega), if_pos (by omega), rdT _ i hl, if_neg h3, if_neg h1, hw, if_neg h2, if_pos (by omega), hwi, if_pos (by omega), if_pos (by omega), rdT _ (i - 1) hi1, if_pos h4]
              rfl
            · have : (if nodes[n][i].f0 ≤ nodes[n][i - 1].f0 then false else if nodes[n][i].f0 ≥ (ins.length : Int) + n then false else if nodes[n][i].f1 = 0 then false else termsOk ((ins.length : Int) + n) nodes[n][i].f0 (nodes[n].drop (i + 1))) = termsOk ((ins.length : Int) + n) nodes[n][i].f0 (nodes[n].drop (i + 1)) := by rw [if_neg h4, if_neg h2, if_neg h3]
              rw [this]
              refine Ev.step (fun k => ?_) hnext
              simp only [recoupref21_May.l2]
              rw [if_pos (by omega), if_pos (by omega), rdL nodes n hnl, if_pos (by omega), if_pos (by omega), rdT _ i hl, if_neg h3, if_neg h1, hw, if_neg h2, if_pos (by omega), hwi, if_pos (by omega), if_pos (by omega), rdT _ (i - 1) hi1, if_neg h4, w64 (by omega) (by omega), i1]

theorem rmay_l1 (ins : List Int) (nodes : List (List S64)) (outs : List Int) (ho : outs.length ≤ 64) (hi : ins.length ≤ 9223372036854771711) (hn : nodes.length ≤ 4096) (hx : ∀ x ∈ nodes, x.length ≤ 9223372036854775807) (d : Nat) : ∀ (n : Nat), n + d = nodes.length →
    Ev (fun k => recoupref21_May.l1 k (n : Int) ins nodes outs) (nodesOk ins.length n (nodes.drop n) && outsOk ((ins.length : Int) + nodes.length) outs) := by
  induction d with
  | zero =>
    intro n h
    rw [drop_end _ _ (by omega), nodesOk, Bool.true_and]
    refine Ev.step (fun k => ?_) (rmay_l3 ins nodes outs ho hi hn outs.length 0 (by omega))
    simp only [recoupref21_May.l1]
    rw [if_neg (by omega)]
    rfl
  | succ d ih =>
    intro n h
    have hl : n < nodes.length := by omega
    have h2 := rmay_l2 ins nodes outs ho hi hn _ n hl (hx _ (List.getElem_mem hl)) (ih (n + 1) (by omega)) nodes[n].length 0 (-1) (by omega) (.inl ⟨rfl, rfl⟩)
    rw [drop_cons nodes n hl, nodesOk]
    have e2 : ((if termsOk ((ins.length : Int) + n) (-1) nodes[n] = true then nodesOk ins.length (n + 1) (nodes.drop (n + 1)) else false) && outsOk ((ins.length : Int) + nodes.length) outs) = (if termsOk ((ins.length : Int) + n) (-1) (nodes[n].drop 0) = true then (nodesOk ins.length (n + 1) (nodes.drop (n + 1)) && outsOk ((ins.length : Int) + nodes.length) outs) else false) := by
      rw [List.drop_zero]
      cases termsOk ((ins.length : Int) + n) (-1) nodes[n] <;> simp
    rw [e2]
    refine Ev.step (fun k => ?_) h2
    simp only [recoupref21_May.l1]
    rw [if_pos (by omega)]
    rfl

theorem rmay_l0 (ins : List Int) (nodes : List (List S64)) (outs : List Int) (ho : outs.length ≤ 64) (hi : ins.length ≤ 9223372036854771711) (hn : nodes.length ≤ 4096) (hx : ∀ x ∈ nodes, x.length ≤ 9223372036854775807) (d : Nat) : ∀ (i : Nat) (last : Int), i + d = ins.length →
    (i = 0 ∧ last = -1 ∨ 0 < i ∧ ∃ h : i - 1 < ins.length, last = ins[i - 1] ∧ 0 ≤ last) →
    Ev (fun k => recoupref21_May.l0 k (i : Int) ins nodes outs) (mayIns last (ins.drop i) && (nodesOk ins.length 0 nodes && outsOk ((ins.length : Int) + nodes.length) outs)) := by
  induction d with
  | zero =>
    intro i last h hlast
    rw [drop_end _ _ (by omega), mayIns, Bool.true_and]
    refine Ev.step (fun k => ?_) (rmay_l1 ins nodes outs ho hi hn hx nodes.length 0 (by omega))
    simp only [recoupref21_May.l0]
    rw [if_neg (by omega)]
    rfl
  | succ d ih =>
    intro i last h hlast
    have hl : i < ins.length := by omega
    rw [drop_cons ins i hl, mayIns]
    by_cases h1 : ins[i] < 0
    · have hle : -1 ≤ last := by rcases hlast with ⟨_, rfl⟩ | ⟨_, _, _, h⟩ <;> omega
      rw [if_pos (by omega)]
      refine Ev.step (fun k => ?_) (Ev.now _)
      simp only [recoupref21_May.l0]
      rw [if_pos (by omega), if_pos (by omega), rd_get ins i hl, if_pos h1]
      rfl
    · by_cases h2 : ins[i] ≥ 64
      · have : (if ins[i] ≤ last then false else if ins[i] ≥ 64 then false else mayIns ins[i] (ins.drop (i + 1))) = false := by
          split
          · rfl
          · simp
        rw [this]
        refine Ev.step (fun k => ?_) (Ev.now _)
        simp only [recoupref21_May.l0]
        rw [if_pos (by omega), if_pos (by omega), rd_get ins i hl, if_neg h1, if_pos h2]
        rfl
      · have hnext := ih (i + 1) ins[i] (by omega) (.inr ⟨by omega, by simpa using hl, by simp, by omega⟩)
        rcases hlast with ⟨rfl, rfl⟩ | ⟨hi0, hi1, rfl, hl0⟩
        · rw [if_neg (by omega), if_neg h2]
          refine Ev.step (fun k => ?_) hnext
          simp only [recoupref21_May.l0]
          rw [if_pos (by omega), if_pos (by omega), rd_get ins 0 hl, if_neg h1, if_neg h2, if_neg (by omega), w64 (by omega) (by omega), i1]
        · have hwi : wrap64 ((i : Int) - 1) = ((i - 1 : Nat) : Int) := by rw [w64 (by omega) (by omega)]; omega
          by_cases h4 : ins[i] ≤ ins[i - 1]
          · rw [if_pos h4]
            refine Ev.step (fun k => ?_) (Ev.now _)
            simp only [recoupref21_May.l0]
            rw [if_pos (by omega), if_pos (by omega), rd_get ins i hl, if_neg h1, if_neg h2, if_pos (by omega), hwi, if_pos (by omega), if_pos (by omega), rd_get _ (i - 1) hi1, if_pos h4]
            rfl
          · rw [if_neg h4, if_neg h2]
            refine Ev.step (fun k => ?_) hnext
            simp only [recoupref21_May.l0]
            rw [if_pos (by omega), if_pos (by omega), rd_get ins i hl, if_neg h1, if_neg h2, if_pos (by omega), hwi, if_pos (by omega), if_pos (by omega), rd_get _ (i - 1) hi1, if_neg h4, w64 (by omega) (by omega), i1]

theorem rmay_ev (ins : List Int) (nodes : List (List S64)) (outs : List Int) (hi : ins.length ≤ 9223372036854771711) (hx : ∀ x ∈ nodes, x.length ≤ 9223372036854775807) : Ev (fun k => recoupref21_May.f k ins nodes outs) (mayB ins nodes outs) := by
  unfold mayB
  by_cases c1 : 4096 < nodes.length
  · have : decide (nodes.length ≤ 4096) = false := by simpa using c1
    simp only [this, Bool.and_false, Bool.false_and]
    refine Ev.step (fun k => ?_) (Ev.now _)
    simp only [recoupref21_May.f, recoupref21_May.j0]
    rw [if_pos (by omega)]
    rfl
  · have h1 : decide (nodes.length ≤ 4096) = true := by simpa using c1
    by_cases c2 : 64 < outs.length
    · have h2 : decide (outs.length ≤ 64) = false := by simpa using c2
      simp only [h2, Bool.and_false, Bool.false_and]
      refine Ev.step (fun k => ?_) (Ev.now _)
      simp only [recoupref21_May.f, recoupref21_May.j0]
      rw [if_neg (by omega), if_pos (by simp; omega)]
    · have h2 : decide (outs.length ≤ 64) = true := by simpa using c2
      rw [h1, h2, Bool.and_true, Bool.and_true, ← outsOk_any, Bool.and_assoc]
      refine Ev.step (fun k => ?_) (rmay_l0 ins nodes outs (by omega) hi (by omega) hx ins.length 0 (-1) (by omega) (.inl ⟨rfl, rfl⟩))
      simp only [recoupref21_May.f, recoupref21_May.j0]
      rw [if_neg (by omega), if_neg (by simp; omega)]
      rfl

/-! Same -/
theorem ints_l0 (a b : List Int) (hab : a.length = b.length) (hl : a.length ≤ 9223372036854775807) (d : Nat) : ∀ (i : Nat), i + d = a.length →
    Ev (fun k => recoupref11_Ints.l0 k a b (i : Int)) (decide (a.drop i = b.drop i)) := by
  induction d with
  | zero =>
    intro i h
    rw [drop_end a i (by omega), drop_end b i (by omega)]
    refine Ev.step (fun k => ?_) (Ev.now _)
    simp only [recoupref11_Ints.l0]
    rw [if_neg (by omega)]
    rfl
  | succ d ih =>
    intro i h
    have hi : i < a.length := by omega
    have hi' : i < b.length := by omega
    rw [drop_cons a i hi, drop_cons b i hi']
    by_cases c : a[i] = b[i]
    · have e : decide (a[i] :: a.drop (i + 1) = b[i] :: b.drop (i + 1)) = decide (a.drop (i + 1) = b.drop (i + 1)) := by simp only [List.cons.injEq, c, true_and]
      rw [e]
      refine Ev.step (fun k => ?_) (ih (i + 1) (by omega))
      simp only [recoupref11_Ints.l0]
      rw [if_pos (by omega), if_pos (by omega), if_pos (by omega), rd_get a i hi, rd_get b i hi', if_pos c, w64 (by omega) (by omega), i1]
    · have e : decide (a[i] :: a.drop (i + 1) = b[i] :: b.drop (i + 1)) = false := by simp only [List.cons.injEq, c, false_and, decide_false]
      rw [e]
      refine Ev.step (fun k => ?_) (Ev.now _)
      simp only [recoupref11_Ints.l0]
      rw [if_pos (by omega), if_pos (by omega), if_pos (by omega), rd_get a i hi, rd_get b i hi', if_neg c]
theorem ints_ev (a b : List Int) (hl : a.length ≤ 9223372036854775807) : Ev (fun k => recoupref11_Ints.f k a b) (decide (a = b)) := by
  by_cases c : a.length = b.length
  · refine Ev.congr (fun k => ?_) (ints_l0 a b c hl a.length 0 (by omega))
    simp only [recoupref11_Ints.f]
    rw [if_pos (by omega)]
    rfl
  · have e : decide (a = b) = false := by
      simp only [decide_eq_false_iff_not]
      intro h; exact c (by rw [h])
    rw [e]
    refine Ev.congr (fun k => ?_) (Ev.now _)
    simp only [recoupref11_Ints.f]
    rw [if_neg (by omega)]
theorem neT (a b : S64) : (!(a.f0 == b.f0) || !(a.f1 == b.f1)) = decide (a ≠ b) := by
  obtain ⟨a0, a1⟩ := a
  obtain ⟨b0, b1⟩ := b
  by_cases h : a0 = b0 <;> by_cases h' : a1 = b1 <;> simp [h, h']
def sameB (a0 : List Int) (a1 : List (List S64)) (a2 : List Int) (b0 : List Int) (b1 : List (List S64)) (b2 : List Int) : Bool := decide (a0 = b0) && decide (a1 = b1) && decide (a2 = b2)
theorem rsame_l1 (a0 : List Int) (a1 : List (List S64)) (a2 : List Int) (b0 : List Int) (b1 : List (List S64)) (b2 : List Int) (R : Bool) (n : Nat) (ha : n < a1.length) (hb : n < b1.length) (hn : a1.length ≤ 9223372036854775807) (hx : a1[n].length ≤ 9223372036854775807) (hxy : a1[n].length = b1[n].length)
    (hR : Ev (fun k => recoupref21_Same.l0 k ((n + 1 : Nat) : Int) a0 a1 a2 b0 b1 b2) R) (d : Nat) : ∀ (i : Nat), i + d = a1[n].length →
    Ev (fun k => recoupref21_Same.l1 k (n : Int) (i : Int) a0 a1 a2 b0 b1 b2) (decide (a1[n].drop i = b1[n].drop i) && R) := by
  induction d with
  | zero =>
    intro i h
    rw [drop_end a1[n] i (by omega), drop_end b1[n] i (by omega)]
    refine Ev.step (fun k => ?_) (Ev.congr (fun _ => rfl) (by simpa using hR))
    simp only [recoupref21_Same.l1]
    rw [if_pos (by omega), if_pos (by omega), rdL a1 n ha, if_neg (by omega), w64 (by omega) (by omega), i1]
  | succ d ih =>
    intro i h
    have hi : i < a1[n].length := by omega
    have hi' : i < b1[n].length := by omega
    rw [drop_cons a1[n] i hi, drop_cons b1[n] i hi']
    by_cases c : a1[n][i] = b1[n][i]
    · have e : decide (a1[n][i] :: a1[n].drop (i + 1) = b1[n][i] :: b1[n].drop (i + 1)) = decide (a1[n].drop (i + 1) = b1[n].drop (i + 1)) := by simp only [List.cons.injEq, c, true_and]
      rw [e]
      refine Ev.step (fun k => ?_) (ih (i + 1) (by omega))
      simp only [recoupref21_Same.l1]
      rw [if_pos (by omega), if_pos (by omega), rdL a1 n ha, rdL b1 n hb, if_pos (by omega), if_pos (by omega), if_pos (by omega), if_pos (by omega), rdT _ i hi, rdT _ i hi', neT, if_neg (by simp [c]), w64 (by omega) (by omega), i1]
    · have e : (decide (a1[n][i] :: a1[n].drop (i + 1) = b1[n][i] :: b1[n].drop (i + 1)) && R) = false := by simp only [List.cons.injEq, c, false_and, decide_false, Bool.false_and]
      rw [e]
      refine Ev.step (fun k => ?_) (Ev.now _)
      simp only [recoupref21_Same.l1]
      rw [if_pos (by omega), if_pos (by omega), rdL a1 n ha, rdL b1 n hb, if_pos (by omega), if_pos (by omega), if_pos (by omega), if_pos (by omega), rdT _ i hi, rdT _ i hi', neT, if_pos (by simp [c])]
theorem rsame_l0 (a0 : List Int) (a1 : List (List S64)) (a2 : List Int) (b0 : List Int) (b1 : List (List S64)) (b2 : List Int) (hab : a1.length = b1.length) (hn : a1.length ≤ 9223372036854775807) (hx : ∀ x ∈ a1, x.length ≤ 9223372036854775807) (d : Nat) : ∀ (n : Nat), n + d = a1.length →
    Ev (fun k => recoupref21_Same.l0 k (n : Int) a0 a1 a2 b0 b1 b2) (decide (a1.drop n = b1.drop n)) := by
  induction d with
  | zero =>
    intro n h
    rw [drop_end a1 n (by omega), drop_end b1 n (by omega)]
    refine Ev.step (fun k => ?_) (Ev.now _)
    simp only [recoupref21_Same.l0]
    rw [if_neg (by omega)]
    rfl
  | succ d ih =>
    intro n h
    have ha : n < a1.length := by omega
    have hb : n < b1.length := by omega
    rw [drop_cons a1 n ha, drop_cons b1 n hb]
    have hxn := hx _ (List.getElem_mem ha)
    by_cases c : a1[n].length = b1[n].length
    · have e : decide (a1[n] :: a1.drop (n + 1) = b1[n] :: b1.drop (n + 1)) = (decide (a1[n].drop 0 = b1[n].drop 0) && decide (a1.drop (n + 1) = b1.drop (n + 1))) := by simp only [List.cons.injEq, List.drop_zero, Bool.decide_and]
      rw [e]
      refine Ev.step (fun k => ?_) (rsame_l1 a0 a1 a2 b0 b1 b2 _ n ha hb hn hxn c (ih (n + 1) (by omega)) a1[n].length 0 (by omega))
      simp only [recoupref21_Same.l0]
      rw [if_pos (by omega), if_pos (by omega), if_pos (by omega), rdL a1 n ha, rdL b1 n hb, if_pos (by omega)]
      rfl
    · have e : decide (a1[n] :: a1.drop (n + 1) = b1[n] :: b1.drop (n + 1)) = false := by
        simp only [decide_eq_false_iff_not, List.cons.injEq, not_and]
        intro h; exact absurd (by rw [h]) c
      rw [e]
      refine Ev.step (fun k => ?_) (Ev.now _)
      simp only [recoupref21_Same.l0]
      rw [if_pos (by omega), if_pos (by omega), if_pos (by omega), rdL a1 n ha, rdL b1 n hb, if_neg (by omega)]
theorem rsame_ev (a0 : List Int) (a1 : List (List S64)) (a2 : List Int) (b0 : List Int) (b1 : List (List S64)) (b2 : List Int) (h0 : a0.length ≤ 9223372036854775807) (h1 : ∀ x ∈ a1, x.length ≤ 9223372036854775807) (h2 : a2.length ≤ 9223372036854775807) (hn : a1.length ≤ 9223372036854775807) :
    Ev (fun k => recoupref21_Same.f k a0 a1 a2 b0 b1 b2) (sameB a0 a1 a2 b0 b1 b2) := by
  have hj : Ev (fun k => recoupref21_Same.j0 k true a0 a1 a2 b0 b1 b2) false := Ev.step (fun k => by simp only [recoupref21_Same.j0, if_true]) (Ev.now _)
  unfold recoupref21_Same.f sameB
  refine Ev.bind (ints_ev a0 b0 h0) ?_
  by_cases c0 : a0 = b0
  · simp only [decide_eq_true c0, if_true, Bool.true_and]
    refine Ev.bind (ints_ev a2 b2 h2) ?_
    by_cases c2 : a2 = b2
    · simp only [decide_eq_true c2, if_true, Bool.and_true]
      by_cases c : a1.length = b1.length
      · refine Ev.step (fun k => ?_) (rsame_l0 a0 a1 a2 b0 b1 b2 c hn h1 a1.length 0 (by omega))
        simp only [recoupref21_Same.j0]
        rw [if_neg (by simp [c])]
        rfl
      · have e : decide (a1 = b1) = false := by
          simp only [decide_eq_false_iff_not]
          intro h; exact c (by rw [h])
        rw [e]
        refine Ev.step (fun k => ?_) (Ev.now _)
        simp only [recoupref21_Same.j0]
        rw [if_pos (by simp; omega)]
    · simp only [decide_eq_false c2, Bool.and_false, Bool.false_eq_true, if_false]
      exact hj
  · simp only [decide_eq_false c0, Bool.false_and, Bool.false_eq_true, if_false]
    exact hj
theorem sameB_refl (a0 : List Int) (a1 : List (List S64)) (a2 : List Int) : sameB a0 a1 a2 a0 a1 a2 = true := by simp [sameB]

theorem anchored_ev : Ev (fun k => recouplaw21_anchored.f k) true := Ev.of (fun k => recouplaw21_anchored.mono k) (k := 30) (by decide +kernel)

/-- What the reading of a flow tells. -/
def FlowI (x : S25) : Prop :=
  (x.f0.length * 8 ≤ 140737488351232 ∧ ∀ n ∈ x.f0, (Lit.int .i64 n).wf = true) ∧
  (x.f1.length * 24 ≤ 140737488351232 ∧ ∀ l ∈ x.f1, l.length * 16 ≤ 140737488351232 ∧ ∀ y ∈ l, (Lit.int .i64 y.f0).wf = true ∧ (Lit.int .u8 y.f1).wf = true) ∧
  (x.f2.length * 8 ≤ 140737488351232 ∧ ∀ n ∈ x.f2, (Lit.int .i64 n).wf = true)
end Go.Proofs.Ytfnhnniecclleaa.Spec
