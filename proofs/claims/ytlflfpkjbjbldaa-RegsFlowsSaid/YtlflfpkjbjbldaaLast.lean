/- What the row of last uses says. -/
import Derived.Test.YtlflfpkjbjbldaaFew
namespace Go.Proofs.Ytlflfpkjbjbldaa.Spec
open Go.RowKit Go.Proofs.Ytlflfpkjbjbldaa.PA Go.Proofs.YtlflfpkjbjbldaaW.PrintWords Go.Proofs.YtlflfpkjbjbldaaW.PrintLast Go.Proofs.YtlflfpkjbjbldaaW.PrintMore
set_option linter.unusedVariables false
set_option linter.unusedSectionVars false
theorem getD_set (a : List Int) (k : Nat) (x : Int) (hk : k < a.length) (u : Nat) : (a.set k x).getD u 0 = if u = k then x else a.getD u 0 := by
  simp only [List.getD_eq_getElem?_getD, List.getElem?_set]
  by_cases e : k = u
  · subst e; simp [hk]
  · rw [if_neg e, if_neg (fun h => e h.symm)]
theorem setAll_spec (i : Int) : ∀ (l : List S62) (a b : List Int), setAll i l a = some b → (∀ u, a.getD u 0 ≤ i) → (∀ u, a.getD u 0 ≤ b.getD u 0) ∧ (∀ u, b.getD u 0 ≤ i) ∧ ∀ t ∈ l, i ≤ b.getD t.f0.toNat 0
  | [], a, b, h, ha => by
    obtain rfl := Option.some.inj (show some a = some b from h)
    exact ⟨fun u => Int.le_refl _, ha, fun t ht => by cases ht⟩
  | t :: r, a, b, h, ha => by
    rw [setAll] at h
    split at h
    · rename_i h0
      split at h
      · rename_i h1
        have hk : t.f0.toNat < a.length := by omega
        obtain ⟨p, q, z⟩ := setAll_spec i r _ b h (fun u => by rw [getD_set a _ i hk]; have := ha u; split <;> omega)
        refine ⟨fun u => ?_, q, fun x hx => ?_⟩
        · have e := p u
          rw [getD_set a _ i hk] at e
          have := ha u
          split at e <;> omega
        · rcases List.mem_cons.1 hx with rfl | hx
          · have e := p x.f0.toNat
            rw [getD_set a _ i hk, if_pos rfl] at e; exact e
          · exact z x hx
      · cases h
    · cases h
theorem lastN_spec : ∀ (l : List (List S62)) (i : Int) (a b : List Int), lastN i l a = some b → (∀ u, a.getD u 0 ≤ i) → (∀ u, a.getD u 0 ≤ b.getD u 0) ∧ (∀ u, b.getD u 0 ≤ i + l.length) ∧ ∀ j (h : j < l.length), ∀ t ∈ l[j], i + j ≤ b.getD t.f0.toNat 0
  | [], i, a, b, h, ha => by
    obtain rfl := Option.some.inj (show some a = some b from h)
    exact ⟨fun u => Int.le_refl _, fun u => by have := ha u; rw [List.length_nil]; omega, fun j hj => absurd hj (by simp)⟩
  | x :: r, i, a, b, h, ha => by
    rw [lastN] at h
    obtain ⟨a1, h1, h2⟩ := Option.bind_eq_some_iff.1 h
    obtain ⟨p, q, z⟩ := setAll_spec i x a a1 h1 ha
    obtain ⟨p2, q2, z2⟩ := lastN_spec r (i + 1) a1 b h2 (fun u => by have := q u; omega)
    refine ⟨fun u => Int.le_trans (p u) (p2 u), fun u => by have := q2 u; simp only [List.length_cons]; omega, fun j hj t ht => ?_⟩
    cases j with
    | zero =>
      have := z t (by simpa using ht)
      have := p2 t.f0.toNat
      show i + ((0 : Nat) : Int) ≤ _
      omega
    | succ j =>
      have := z2 j (by simpa using hj) t (by simpa using ht)
      simp only [Int.natCast_add, Int.cast_ofNat_Int] at *
      omega
theorem lastO_spec (n : Int) : ∀ (l : List Int) (a b : List Int), lastO n l a = some b → (∀ u, a.getD u 0 ≤ n) → (∀ u, a.getD u 0 ≤ b.getD u 0) ∧ ∀ v ∈ l, n ≤ b.getD v.toNat 0
  | [], a, b, h, ha => by
    obtain rfl := Option.some.inj (show some a = some b from h)
    exact ⟨fun u => Int.le_refl _, fun t ht => by cases ht⟩
  | v :: r, a, b, h, ha => by
    rw [lastO] at h
    split at h
    · split at h
      · have hk : v.toNat < a.length := by omega
        obtain ⟨p, z⟩ := lastO_spec n r _ b h (fun u => by rw [getD_set a _ n hk]; have := ha u; split <;> omega)
        refine ⟨fun u => ?_, fun x hx => ?_⟩
        · have e := p u
          rw [getD_set a _ n hk] at e
          have := ha u
          split at e <;> omega
        · rcases List.mem_cons.1 hx with rfl | hx
          · have e := p x.toNat
            rw [getD_set a _ n hk, if_pos rfl] at e; exact e
          · exact z x hx
      · cases h
    · cases h
theorem last_spec {ins : List Int} {nodes : List (List S62)} {outs us : List Int} (h : regs_last.f ins nodes outs = some us) : (∀ j (h : j < nodes.length), ∀ t ∈ nodes[j], (j : Int) ≤ us.getD t.f0.toNat 0) ∧ ∀ v ∈ outs, (nodes.length : Int) ≤ us.getD v.toNat 0 := by
  unfold regs_last.f at h
  split at h
  · obtain ⟨a, h1, h2⟩ := Option.bind_eq_some_iff.1 h
    obtain ⟨p, q, z⟩ := lastN_spec nodes 0 _ a h1 (fun u => by
      rw [List.getD_eq_getElem?_getD, List.getElem?_replicate]; split <;> simp)
    obtain ⟨p2, z2⟩ := lastO_spec _ outs a us h2 (fun u => by have := q u; omega)
    refine ⟨fun j hj t ht => ?_, z2⟩
    have := z j hj t ht
    have := p2 t.f0.toNat
    omega
  · cases h
end Go.Proofs.Ytlflfpkjbjbldaa.Spec
