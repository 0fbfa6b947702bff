/- RegsSames: for every two programs, the program's Same answers as the reference's, a program is the Same as itself, and the fixed flow's program is as the document says. No condition. -/
import Derived.Test.YtlflfpkjbjbldaaPAx10
namespace Go.Proofs.Ytlflfpkjbjbldaa.Sames
open Go.RowKit Go.Proofs.Ytlflfpkjbjbldaa.PA Go.Proofs.YtlflfpkjbjbldaaW.PrintWords Go.Proofs.YtlflfpkjbjbldaaW.PrintLast
set_option linter.unusedVariables false
theorem w64 {x : Int} (h0 : -9223372036854775808 ≤ x) (h1 : x < 9223372036854775808) : wrap64 x = x := by unfold wrap64; omega
theorem i1 (i : Nat) : ((i : Int) + 1) = ((i + 1 : Nat) : Int) := by omega
theorem rdS (l : List S38) (i : Nat) (h : i < l.length) : rd_T38 l (i : Int) = l[i] := by simp [rd_T38, h]
def eqS (a b : S38) : Bool := !(!(a.f0 == b.f0) || (!(a.f1 == b.f1) || (!(a.f2 == b.f2) || (!(a.f3 == b.f3)))))
theorem eqS_refl (a : S38) : eqS a a = true := by simp [eqS]
def eqL : List S38 → List S38 → Bool
  | a :: r, b :: s => if eqS a b = true then eqL r s else false
  | _, _ => true
theorem eqL_refl : ∀ l : List S38, eqL l l = true
  | [] => rfl
  | a :: r => by simp [eqL, eqS_refl, eqL_refl r]
def sameB (a b : List S38) (x1 x2 x3 y1 y2 y3 : Int) : Bool := if a.length = b.length then (if eqL a b = true then (if x1 = y1 then (if x2 = y2 then x3 == y3 else false) else false) else false) else false
theorem sameB_refl (a : List S38) (x1 x2 x3 : Int) : sameB a a x1 x2 x3 x1 x2 x3 = true := by simp [sameB, eqL_refl]
theorem step_l0 (a b : List S38) (hl : a.length = b.length) (hm : a.length ≤ 9223372036854775807) (d : Nat) : ∀ i : Nat, i + d = a.length → Ev (fun k => api_Step.l0 k a b (a.length : Int) (i : Int)) (eqL (a.drop i) (b.drop i)) := by
  induction d with
  | zero =>
    intro i h
    refine Ev.step (fun k => ?_) (Ev.now _)
    simp only [api_Step.l0]
    rw [if_neg (by omega), List.drop_eq_nil_of_le (by omega), eqL]
    intro _ _ _ _ h1; cases h1
  | succ d ih =>
    intro i h
    have hi : i < a.length := by omega
    have hib : i < b.length := by omega
    rw [List.drop_eq_getElem_cons hi, List.drop_eq_getElem_cons hib, eqL]
    cases he : eqS a[i] b[i]
    · refine Ev.step (fun k => ?_) (Ev.now _)
      simp only [api_Step.l0]
      unfold eqS at he
      rw [Bool.not_eq_false'] at he
      rw [if_pos (by omega), if_pos (by omega), if_pos (by omega), if_pos (by omega), rdS a i hi, rdS b i hib, if_pos he]; rfl
    · refine Ev.step (fun k => ?_) (ih (i + 1) (by omega))
      simp only [api_Step.l0]
      unfold eqS at he
      rw [Bool.not_eq_true'] at he
      rw [if_pos (by omega), if_pos (by omega), if_pos (by omega), if_pos (by omega), rdS a i hi, rdS b i hib, if_neg (by rw [he]; decide), w64 (by omega) (by omega), i1]
theorem same_ev (a b : List S38) (x1 x2 x3 y1 y2 y3 : Int) (hm : a.length ≤ 9223372036854775807) : Ev (fun k => regs_Same.f k a x1 x2 x3 b y1 y2 y3) (sameB a b x1 x2 x3 y1 y2 y3) := by
  unfold regs_Same.f
  have hs : Ev (fun k => api_Step.f k a b) (if a.length = b.length then eqL a b else false) := by
    unfold api_Step.f
    by_cases h : a.length = b.length
    · rw [if_pos h]
      have := step_l0 a b h hm a.length 0 (by omega)
      simpa [h] using this
    · rw [if_neg h]
      refine Ev.congr (fun k => if_neg (by omega)) (Ev.now _)
  refine Ev.bind hs ?_
  unfold sameB
  by_cases h : a.length = b.length
  · simp only [if_pos h]
    cases he : eqL a b
    · simp; exact Ev.now _
    · simp only [if_true]
      by_cases h1 : x1 = y1
      · simp only [if_pos h1]
        by_cases h2 : x2 = y2
        · simp only [if_pos h2]; exact Ev.now _
        · simp only [if_neg h2]; exact Ev.now _
      · simp only [if_neg h1]; exact Ev.now _
  · simp only [if_neg h]; simp; exact Ev.now _
theorem rsame_l0 (a b : List S38) (x1 x2 x3 y1 y2 y3 : Int) (hl : a.length = b.length) (hm : a.length ≤ 9223372036854775807) (d : Nat) : ∀ i : Nat, i + d = a.length → Ev (fun k => recoupref23_Same.l0 k (i : Int) a x1 x2 x3 b y1 y2 y3) (eqL (a.drop i) (b.drop i)) := by
  induction d with
  | zero =>
    intro i h
    refine Ev.step (fun k => ?_) (Ev.now _)
    simp only [recoupref23_Same.l0]
    rw [if_neg (by omega), List.drop_eq_nil_of_le (by omega), eqL]
    intro _ _ _ _ h1; cases h1
  | succ d ih =>
    intro i h
    have hi : i < a.length := by omega
    have hib : i < b.length := by omega
    rw [List.drop_eq_getElem_cons hi, List.drop_eq_getElem_cons hib, eqL]
    cases he : eqS a[i] b[i]
    · refine Ev.step (fun k => ?_) (Ev.now _)
      simp only [recoupref23_Same.l0]
      unfold eqS at he
      rw [Bool.not_eq_false'] at he
      rw [if_pos (by omega), if_pos (by omega), if_pos (by omega), rdS a i hi, rdS b i hib, if_pos he]; rfl
    · refine Ev.step (fun k => ?_) (ih (i + 1) (by omega))
      simp only [recoupref23_Same.l0]
      unfold eqS at he
      rw [Bool.not_eq_true'] at he
      rw [if_pos (by omega), if_pos (by omega), if_pos (by omega), rdS a i hi, rdS b i hib, if_neg (by rw [he]; decide), w64 (by omega) (by omega), i1]
theorem rsame_ev (a b : List S38) (x1 x2 x3 y1 y2 y3 : Int) (hm : a.length ≤ 9223372036854775807) : Ev (fun k => recoupref23_Same.f k a x1 x2 x3 b y1 y2 y3) (sameB a b x1 x2 x3 y1 y2 y3) := by
  unfold recoupref23_Same.f sameB
  have no : Ev (fun k => recoupref23_Same.j0 k true a x1 x2 x3 b y1 y2 y3) false := Ev.step (fun k => by simp only [recoupref23_Same.j0, if_true]) (Ev.now _)
  by_cases h : a.length = b.length
  · have hI : (a.length : Int) = (b.length : Int) := by omega
    have go : Ev (fun k => recoupref23_Same.j0 k false a x1 x2 x3 b y1 y2 y3) (eqL a b) := by
      refine Ev.step (f := fun k => recoupref23_Same.l0 k 0 a x1 x2 x3 b y1 y2 y3) (fun k => by simp [recoupref23_Same.j0]) ?_
      have := rsame_l0 a b x1 x2 x3 y1 y2 y3 h hm a.length 0 (by omega)
      simpa using this
    simp only [if_pos hI, if_pos h]
    by_cases h1 : x1 = y1
    · simp only [if_pos h1]
      by_cases h2 : x2 = y2
      · simp only [if_pos h2]
        by_cases h3 : x3 = y3
        · subst h3
          simp only [bne_self_eq_false, beq_self_eq_true]
          cases he : eqL a b <;> (rw [he] at go; simpa [h1, h2] using go)
        · rw [show (x3 != y3) = true from bne_iff_ne.2 h3]
          have : (x3 == y3) = false := beq_eq_false_iff_ne.2 h3
          rw [this]
          cases eqL a b <;> simpa using no
      · simp only [if_neg h2]; cases eqL a b <;> simpa using no
    · simp only [if_neg h1]; cases eqL a b <;> simpa using no
  · have hI : ¬ (a.length : Int) = (b.length : Int) := by omega
    simp only [if_neg hI, if_neg h]; exact no
/-! the fixed flow -/
instance : DecidableEq S38 := fun a b => match a, b with
  | ⟨a0, a1, a2, a3⟩, ⟨b0, b1, b2, b3⟩ => if h : a0 = b0 ∧ a1 = b1 ∧ a2 = b2 ∧ a3 = b3 then isTrue (by rw [h.1, h.2.1, h.2.2.1, h.2.2.2]) else isFalse (by simpa using h)
instance : DecidableEq S62 := fun a b => match a, b with
  | ⟨a0, a1⟩, ⟨b0, b1⟩ => if h : a0 = b0 ∧ a1 = b1 then isTrue (by rw [h.1, h.2]) else isFalse (by simpa using h)
theorem trim_fix : flow_Trim.f 40 [4] [[⟨0, 3⟩]] [1] = some ([4], [[⟨0, 3⟩]], [1], 0) := by decide +kernel
theorem last_fix : regs_last.f [4] [[⟨0, 3⟩]] [1] = some [0, 1] := by decide +kernel
theorem good_fix : gtB [4] [[⟨0, 3⟩]] [1] = true := by decide +kernel
theorem give_fix : (giveS [4] [[⟨0, 3⟩]] [1] [0, 1]).ok = true ∧ (giveS [4] [[⟨0, 3⟩]] [1] [0, 1]).steps = [⟨2, 0, 4, 0⟩, ⟨1, 1, 0, 0⟩, ⟨3, 1, 0, 3⟩, ⟨4, 0, 1, 0⟩] ∧ (giveS [4] [[⟨0, 3⟩]] [1] [0, 1]).regs = 2 ∧ (giveS [4] [[⟨0, 3⟩]] [1] [0, 1]).reads = 16 := by decide +kernel
theorem give_ev : Ev (fun k => regs_Give.f k [4] [[⟨0, 3⟩]] [1]) ([⟨2, 0, 4, 0⟩, ⟨1, 1, 0, 0⟩, ⟨3, 1, 0, 3⟩, ⟨4, 0, 1, 0⟩], 2, 1, 16, 0) := by
  refine Ev.of (k := 40) (fun k => regs_Give.mono _ _ _ k) ?_
  unfold regs_Give.f
  rw [trim_fix, Option.bind_some]
  simp only [if_true]
  rw [if_pos ((gtB_iff _ _ _).1 good_fix), last_fix, Option.bind_some, if_pos give_fix.1, give_fix.2.1, give_fix.2.2.1, give_fix.2.2.2]
  rfl
theorem anchored_ev : Ev (fun k => recouplaw23_anchored.f k) true := by
  unfold recouplaw23_anchored.f
  refine Ev.bind give_ev ?_
  simp only [if_true]
  refine Ev.bind (rsame_ev _ _ _ _ _ _ _ _ (by decide)) ?_
  exact Ev.now _
end Go.Proofs.Ytlflfpkjbjbldaa.Sames
namespace Go.Proofs.Ytlflfpkjbjbldaa.Pure
open Go.RowKit Go.Proofs.Ytlflfpkjbjbldaa.PA Go.Proofs.YtlflfpkjbjbldaaW.PrintWords Go.Proofs.YtlflfpkjbjbldaaW.PrintLast Go.Proofs.Ytlflfpkjbjbldaa.Sames
theorem RegsSames : ∀ (x0 x1 : S30), ((x0.f0.length * 32 ≤ 140737488351232 ∧ ∀ y ∈ x0.f0, ((Lit.int .u8 y.f0).wf = true ∧ (Lit.int .i64 y.f1).wf = true ∧ (Lit.int .i64 y.f2).wf = true ∧ (Lit.int .u8 y.f3).wf = true)) ∧ (Lit.int .i64 x0.f1).wf = true ∧ (Lit.int .i64 x0.f2).wf = true ∧ (Lit.int .u64 x0.f3).wf = true) →
    ((x1.f0.length * 32 ≤ 140737488351232 ∧ ∀ y ∈ x1.f0, ((Lit.int .u8 y.f0).wf = true ∧ (Lit.int .i64 y.f1).wf = true ∧ (Lit.int .i64 y.f2).wf = true ∧ (Lit.int .u8 y.f3).wf = true)) ∧ (Lit.int .i64 x1.f1).wf = true ∧ (Lit.int .i64 x1.f2).wf = true ∧ (Lit.int .u64 x1.f3).wf = true) →
    ∃ k, recouplaw23_RegsSames.f k x0.f0 x0.f1 x0.f2 x0.f3 x1.f0 x1.f1 x1.f2 x1.f3 = some true := by
  intro x0 x1 h0 h1
  have hl : x0.f0.length ≤ 9223372036854775807 := by have := h0.1.1; omega
  refine Ev.rounds ?_
  unfold recouplaw23_RegsSames.f
  refine Ev.bind (same_ev _ _ _ _ _ _ _ _ hl) (Ev.bind (rsame_ev _ _ _ _ _ _ _ _ hl) ?_)
  simp only [beq_self_eq_true, if_true]
  refine Ev.bind (same_ev _ _ _ _ _ _ _ _ hl) ?_
  simp only [sameB_refl, if_true]
  exact Ev.bind anchored_ev (Ev.now _)
end Go.Proofs.Ytlflfpkjbjbldaa.Pure
