/- What a flow's values are, one by one. -/
import Derived.Test.YtlflfpkjbjbldaaLessB
namespace Go.Proofs.Ytlflfpkjbjbldaa.Spec
open Go.RowKit Go.Proofs.Ytlflfpkjbjbldaa.PA Go.Proofs.YtlflfpkjbjbldaaW.PrintWords Go.Proofs.YtlflfpkjbjbldaaW.PrintLast Go.Proofs.YtlflfpkjbjbldaaW.PrintMore
set_option linter.unusedVariables false
theorem runF_pre (L : Nat) : ∀ (N : List (List S62)) (P : List (List Int)) (u : Nat), u < P.length → rd_L13 (runF L P N) (u : Int) = rd_L13 P (u : Int)
  | [], _, _, _ => rfl
  | x :: r, P, u, h => by
    rw [runF, runF_pre L r _ u (by simp; omega), rd9_left _ _ _ h]
theorem rowF_congr (A B : List (List Int)) : ∀ (l : List S62) (acc : List Int), (∀ t ∈ l, rd_L13 A t.f0 = rd_L13 B t.f0) → rowF A acc l = rowF B acc l
  | [], _, _ => rfl
  | t :: r, acc, h => by
    rw [rowF, rowF, h t (by simp)]
    exact rowF_congr A B r _ (fun x hx => h x (by simp [hx]))
theorem runF_row (L : Nat) : ∀ (N : List (List S62)) (P : List (List Int)) (j : Nat) (hj : j < N.length), (∀ t ∈ N[j], 0 ≤ t.f0 ∧ t.f0 < ((P.length + j : Nat) : Int)) → rd_L13 (runF L P N) ((P.length + j : Nat) : Int) = rowF (runF L P N) (List.replicate L 0) N[j]
  | x :: r, P, 0, _, h => by
    simp only [List.getElem_cons_zero, Nat.add_zero] at h ⊢
    rw [runF, runF_pre L r _ P.length (by simp), rd9_last _ _ _ rfl]
    refine rowF_congr _ _ x _ (fun t ht => ?_)
    have := h t ht
    have e : t.f0 = (t.f0.toNat : Int) := by omega
    rw [e, runF_pre L r _ t.f0.toNat (by simp; omega), rd9_left _ _ _ (by omega)]
  | x :: r, P, j + 1, hj, h => by
    have e : P.length + (j + 1) = (P ++ [rowF P (List.replicate L 0) x]).length + j := by simp; omega
    rw [e] at h ⊢
    simp only [List.getElem_cons_succ] at h ⊢
    rw [runF]
    exact runF_row L r _ j (by simpa using hj) h
end Go.Proofs.Ytlflfpkjbjbldaa.Spec
