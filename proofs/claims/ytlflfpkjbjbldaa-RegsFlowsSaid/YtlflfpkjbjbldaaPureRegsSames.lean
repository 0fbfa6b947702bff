/- RegsSames: for every two programs, the program's Same answers as the reference's, a program is the Same as itself, and the fixed flow's program is as the document says. No condition. -/
import Derived.Test.YtlflfpkjbjbldaaPAx10
namespace Go.Proofs.Ytlflfpkjbjbldaa.Sames
open Go.RowKit Go.Proofs.Ytlflfpkjbjbldaa.PA Go.Proofs.YtlflfpkjbjbldaaW.PrintWords Go.Proofs.YtlflfpkjbjbldaaW.PrintLast
set_option linter.unusedVariables false
theorem w64 {x : Int} (h0 : -9223372036854775808 ≤ x) (h1 : x < 9223372036854775808) : wrap64 x = x := by unfold wrap64; omega
theorem i1 (i : Nat) : ((i : Int) + 1) = ((i + 1 : Nat) : Int) := by omega
theorem rdS (l : List S38) (i : Nat) (h : i < l.length) : rd_T38 l (i : Int) = l[i] := by simp [rd_T38, h]
def eqS (a b : S38) : Bool := !(!(a.f0 == b.f0) || (!(a.f1 == b.f1) || (!(a.f2 == b.f2) || (!(a.f3 == b.f3)))))
def eqL : List S38 → List S38 → Bool
  | a :: r, b :: s => if eqS a b = true then eqL r s else false
  | _, _ => true
def sameB (a b : List S38) (x1 x2 x3 y1 y2 y3 : Int) : Bool := if a.length = b.length then (if eqL a b = true then (if x1 = y1 then (if x2 = y2 then x3 == y3 else false) else false) else false) else false
theorem rsame_l0 (a b : List S38) (x1 x2 x3 y1 y2 y3 : Int) (hl : a.length = b.length) (hm : a.length ≤ 9223372036854775807) (d : Nat) : ∀ i : Nat, i + d = a.length → Ev (fun k => recoupref23_Same.l0 k (i : Int) a x1 x2 x3 b y1 y2 y3) (eqL (a.drop i) (b.drop i)) := by
  induction d with
  | zero =>
    intro i h
    refine Ev.step (fun k => ?_) (Ev.now _)
    simp only [recoupref23_Same.l0]
    rw [if_neg (by omega), List.drop_eq_nil_of_le (by omega), eqL]
    intro _ _ _ _ h1; cases h1
  | succ d ih =>
    intro i h
    have hi : i < a.length := by omega
    have hib : i < b.length := by omega
    rw [List.drop_eq_getElem_cons hi, List.drop_eq_getElem_cons hib, eqL]
    cases he : eqS a[i] b[i]
    · refine Ev.step (fun k => ?_) (Ev.now _)
      simp only [recoupref23_Same.l0]
      unfold eqS at he
      rw [Bool.not_eq_false'] at he
      rw [if_pos (by omega), if_pos (by omega), if_pos (by omega), rdS a i hi, rdS b i hib, if_pos he]; rfl
    · refine Ev.step (fun k => ?_) (ih (i + 1) (by omega))
      simp only [recoupref23_Same.l0]
      unfold eqS at he
      rw [Bool.not_eq_true'] at he
      rw [if_pos (by omega), if_pos (by omega), if_pos (by omega), rdS a i hi, rdS b i hib, if_neg (by rw [he]; decide), w64 (by omega) (by omega), i1]
theorem rsame_ev (a b : List S38) (x1 x2 x3 y1 y2 y3 : Int) (hm : a.length ≤ 9223372036854775807) : Ev (fun k => recoupref23_Same.f k a x1 x2 x3 b y1 y2 y3) (sameB a b x1 x2 x3 y1 y2 y3) := by
  unfold recoupref23_Same.f sameB
  have no : Ev (fun k => recoupref23_Same.j0 k true a x1 x2 x3 b y1 y2 y3) false := Ev.step (fun k => by simp only [recoupref23_Same.j0, if_true]) (Ev.now _)
  by_cases h : a.length = b.length
  · have hI : (a.length : Int) = (b.length : Int) := by omega
    have go : Ev (fun k => recoupref23_Same.j0 k false a x1 x2 x3 b y1 y2 y3) (eqL a b) := by
      refine Ev.step (f := fun k => recoupref23_Same.l0 k 0 a x1 x2 x3 b y1 y2 y3) (fun k => by simp [recoupref23_Same.j0]) ?_
      have := rsame_l0 a b x1 x2 x3 y1 y2 y3 h hm a.length 0 (by omega)
      simpa using this
    simp only [if_pos hI, if_pos h]
    by_cases h1 : x1 = y1
    · simp only [if_pos h1]
      by_cases h2 : x2 = y2
      · simp only [if_pos h2]
        by_cases h3 : x3 = y3
        · subst h3
          simp only [bne_self_eq_false, beq_self_eq_true]
          cases he : eqL a b <;> (rw [he] at go; simpa [h1, h2] using go)
        · rw [show (x3 != y3) = true from bne_iff_ne.2 h3]
          have : (x3 == y3) = false := beq_eq_false_iff_ne.2 h3
          rw [this]
          cases eqL a b <;> simpa using no
      · simp only [if_neg h2]; cases eqL a b <;> simpa using no
    · simp only [if_neg h1]; cases eqL a b <;> simpa using no
  · have hI : ¬ (a.length : Int) = (b.length : Int) := by omega
    simp only [if_neg hI, if_neg h]; exact no
/-! the fixed flow -/
instance : DecidableEq S38 := fun a b => match a, b with
  | ⟨a0, a1, a2, a3⟩, ⟨b0, b1, b2, b3⟩ => if h : a0 = b0 ∧ a1 = b1 ∧ a2 = b2 ∧ a3 = b3 then isTrue (by rw [h.1, h.2.1, h.2.2.1, h.2.2.2]) else isFalse (by simpa using h)
instance : DecidableEq S62 := fun a b => match a, b with
  | ⟨a0, a1⟩, ⟨b0, b1⟩ => if h : a0 = b0 ∧ a1 = b1 then isTrue (by rw [h.1, h.2]) else isFalse (by simpa using h)
theorem trim_fix : flow_Trim.f 40 [4] [[⟨0, 3⟩]] [1] = some ([4], [[⟨0, 3⟩]], [1], 0) := by decide +kernel
theorem last_fix : regs_last.f [4] [[⟨0, 3⟩]] [1] = some [0, 1] := by decide +kernel
theorem good_fix : gtB [4] [[⟨0, 3⟩]] [1] = true := by decide +kernel
theorem give_fix : (giveS [4] [[⟨0, 3⟩]] [1] [0, 1]).ok = true ∧ (giveS [4] [[⟨0, 3⟩]] [1] [0, 1]).steps = [⟨2, 0, 4, 0⟩, ⟨1, 1, 0, 0⟩, ⟨3, 1, 0, 3⟩, ⟨4, 0, 1, 0⟩] ∧ (giveS [4] [[⟨0, 3⟩]] [1] [0, 1]).regs = 2 ∧ (giveS [4] [[⟨0, 3⟩]] [1] [0, 1]).reads = 16 := by decide +kernel
theorem give_ev : Ev (fun k => regs_Give.f k [4] [[⟨0, 3⟩]] [1]) ([⟨2, 0, 4, 0⟩, ⟨1, 1, 0, 0⟩, ⟨3, 1, 0, 3⟩, ⟨4, 0, 1, 0⟩], 2, 1, 16, 0) := by
  refine Ev.of (k := 40) (fun k => regs_Give.mono _ _ _ k) ?_
  unfold regs_Give.f
  rw [trim_fix, Option.bind_some]
  simp only [if_true]
  rw [if_pos ((gtB_iff _ _ _).1 good_fix), last_fix, Option.bind_some, if_pos give_fix.1, give_fix.2.1, give_fix.2.2.1, give_fix.2.2.2]
  rfl
theorem anchored_ev : Ev (fun k => recouplaw23_anchored.f k) true := by
  unfold recouplaw23_anchored.f
  refine Ev.bind give_ev ?_
  simp only [if_true]
  refine Ev.bind (rsame_ev _ _ _ _ _ _ _ _ (by decide)) ?_
  exact Ev.now _
end Go.Proofs.Ytlflfpkjbjbldaa.Sames
namespace Go.Proofs.Ytlflfpkjbjbldaa.Pure
open Go.RowKit Go.Proofs.Ytlflfpkjbjbldaa.PA Go.Proofs.YtlflfpkjbjbldaaW.PrintWords Go.Proofs.YtlflfpkjbjbldaaW.PrintLast Go.Proofs.Ytlflfpkjbjbldaa.Sames
end Go.Proofs.Ytlflfpkjbjbldaa.Pure
