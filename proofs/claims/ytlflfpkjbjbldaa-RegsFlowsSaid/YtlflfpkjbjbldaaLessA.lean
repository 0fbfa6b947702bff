/- FlowLess' plain law: what Trim leaves may be, is its own Trim, costs no more and runs alike. -/
import Derived.Test.YtlflfpkjbjbldaaTrim
namespace Go.Proofs.Ytlflfpkjbjbldaa.Spec
open Go.RowKit Go.Proofs.Ytlflfpkjbjbldaa.PA Go.Proofs.YtlflfpkjbjbldaaW.PrintWords Go.Proofs.YtlflfpkjbjbldaaW.PrintLast Go.Proofs.YtlflfpkjbjbldaaW.PrintMore
set_option linter.unusedVariables false
set_option linter.unusedSimpArgs false
set_option linter.unusedSectionVars false
theorem mayIns_pos : ∀ (l : List Int) (last : Int), mayIns last l = true → ∀ v ∈ l, last < v
  | [], _, _, v, h => by cases h
  | b :: r, last, h, v, hv => by
    unfold mayIns at h
    by_cases c : b ≤ last
    · rw [if_pos c] at h; cases h
    · rw [if_neg c] at h
      by_cases c2 : b ≥ 64
      · rw [if_pos c2] at h; cases h
      · rw [if_neg c2] at h
        rcases List.mem_cons.1 hv with rfl | hv
        · omega
        · have := mayIns_pos r b h v hv; omega
theorem mayIns_snoc (b : Int) (hb : b < 64) : ∀ (l : List Int) (last : Int), mayIns last l = true → (∀ v ∈ l, v < b) → last < b → mayIns last (l ++ [b]) = true
  | [], last, _, _, h => by
    show mayIns last [b] = true
    unfold mayIns
    rw [if_neg (by omega), if_neg (by omega)]; rfl
  | x :: r, last, h, hv, hl => by
    unfold mayIns at h
    show mayIns last (x :: (r ++ [b])) = true
    unfold mayIns
    by_cases c1 : x ≤ last
    · rw [if_pos c1] at h; cases h
    · rw [if_neg c1] at h ⊢
      by_cases c2 : x ≥ 64
      · rw [if_pos c2] at h; cases h
      · rw [if_neg c2] at h ⊢
        exact mayIns_snoc b hb r x h (fun v hv' => hv v (by simp [hv'])) (hv x (by simp))
theorem rank_mono (h : List Bool) (a : Nat) : ∀ d, rank h a ≤ rank h (a + d)
  | 0 => Nat.le_refl _
  | d + 1 => by rw [← Nat.add_assoc, rank]; have := rank_mono h a d; split <;> omega
theorem rank_le_of (h : List Bool) {a b : Nat} (hab : a ≤ b) : rank h a ≤ rank h b := by
  obtain ⟨d, rfl⟩ := Nat.le.dest hab; exact rank_mono h a d
theorem rank_lt (h : List Bool) {a b : Nat} (hm : mb h a = true) (hab : a < b) : rank h a < rank h b := by
  have := rank_le_of h (show a + 1 ≤ b from hab); rw [rank, if_pos hm] at this; omega
theorem fIns_rank (ins : List Int) (h : List Bool) : ∀ v, v ≤ ins.length → (fIns ins h v).length = rank h v
  | 0, _ => rfl
  | v + 1, hv => by
    have ih := fIns_rank ins h v (by omega)
    rw [fIns, rank]
    by_cases hm : mb h v = true
    · rw [if_pos hm, if_pos (by omega), if_pos hm, List.length_append, List.length_singleton, ih]
    · rw [if_neg hm, if_neg hm, ih]
theorem fNodes_rank (ins : List Int) (nodes : List (List S62)) (h : List Bool) : ∀ d, (fNodes ins nodes h (ins.length + d)).length + rank h ins.length = rank h (ins.length + d)
  | 0 => by rw [Nat.add_zero, fNodes_lo h _ (Nat.le_refl _)]; simp
  | d + 1 => by
    have ih := fNodes_rank ins nodes h d
    rw [← Nat.add_assoc, fNodes, rank]
    by_cases hm : mb h (ins.length + d) = true
    · rw [if_pos hm, if_neg (by omega), if_pos hm, List.length_append, List.length_singleton]; omega
    · rw [if_neg hm, if_neg hm, ih]
theorem fIns_get (ins : List Int) (h : List Bool) : ∀ v, v ≤ ins.length → ∀ u, u < v → mb h u = true → (fIns ins h v)[rank h u]? = some (rd ins u)
  | 0, _, u, hu, _ => by omega
  | v + 1, hv, u, hu, hm => by
    have ih := fIns_get ins h v (by omega)
    have hl := fIns_rank ins h v (by omega)
    rw [fIns]
    by_cases hmv : mb h v = true
    · rw [if_pos hmv, if_pos (by omega)]
      by_cases e : u = v
      · subst e
        rw [List.getElem?_append_right (by omega), hl]; simp
      · have := rank_lt h hm (show u < v by omega)
        rw [List.getElem?_append_left (by omega)]
        exact ih u (by omega) hm
    · rw [if_neg hmv]
      by_cases e : u = v
      · subst e; exact absurd hm hmv
      · exact ih u (by omega) hm
/-! it may be -/
theorem mayIns_lt : ∀ (l : List Int) (last : Int), mayIns last l = true → ∀ i j (hij : i < j) (hj : j < l.length), l[i]'(by omega) < l[j]
  | [], _, _, i, j, _, hj => absurd hj (by simp)
  | b :: r, last, h, i, j, hij, hj => by
    unfold mayIns at h
    by_cases c : b ≤ last
    · rw [if_pos c] at h; cases h
    · rw [if_neg c] at h
      by_cases c2 : b ≥ 64
      · rw [if_pos c2] at h; cases h
      · rw [if_neg c2] at h
        cases j with
        | zero => omega
        | succ j =>
          cases i with
          | zero => exact mayIns_pos r b h _ (List.getElem_mem (by simpa using hj))
          | succ i => exact mayIns_lt r b h i j (by omega) (by simpa using hj)
theorem mayIns_hi : ∀ (l : List Int) (last : Int), mayIns last l = true → ∀ v ∈ l, v < 64
  | [], _, _, v, h => by cases h
  | b :: r, last, h, v, hv => by
    unfold mayIns at h
    by_cases c : b ≤ last
    · rw [if_pos c] at h; cases h
    · rw [if_neg c] at h
      by_cases c2 : b ≥ 64
      · rw [if_pos c2] at h; cases h
      · rw [if_neg c2] at h
        rcases List.mem_cons.1 hv with rfl | hv
        · omega
        · exact mayIns_hi r b h v hv
theorem fIns_mem (ins : List Int) (h : List Bool) : ∀ v, ∀ x ∈ fIns ins h v, ∃ u, u < v ∧ u < ins.length ∧ mb h u = true ∧ x = rd ins u
  | 0, x, hx => by cases hx
  | v + 1, x, hx => by
    rw [fIns] at hx
    by_cases hm : mb h v = true
    · rw [if_pos hm] at hx
      by_cases hv : v < ins.length
      · rw [if_pos hv] at hx
        rcases List.mem_append.1 hx with hx | hx
        · obtain ⟨u, h0, h1, h2, h3⟩ := fIns_mem ins h v x hx
          exact ⟨u, by omega, h1, h2, h3⟩
        · exact ⟨v, by omega, hv, hm, List.mem_singleton.1 hx⟩
      · rw [if_neg hv] at hx
        obtain ⟨u, h0, h1, h2, h3⟩ := fIns_mem ins h v x hx
        exact ⟨u, by omega, h1, h2, h3⟩
    · rw [if_neg hm] at hx
      obtain ⟨u, h0, h1, h2, h3⟩ := fIns_mem ins h v x hx
      exact ⟨u, by omega, h1, h2, h3⟩
theorem fIns_may (ins : List Int) (h : List Bool) (hi : mayIns (-1) ins = true) : ∀ v, v ≤ ins.length → mayIns (-1) (fIns ins h v) = true
  | 0, _ => rfl
  | v + 1, hv => by
    have ih := fIns_may ins h hi v (by omega)
    rw [fIns]
    by_cases hm : mb h v = true
    · rw [if_pos hm, if_pos (by omega), rd_get ins v (by omega)]
      refine mayIns_snoc _ (mayIns_hi ins _ hi _ (List.getElem_mem _)) _ _ ih (fun x hx => ?_) (mayIns_pos ins _ hi _ (List.getElem_mem _))
      obtain ⟨u, h0, h1, h2, rfl⟩ := fIns_mem ins h v x hx
      rw [rd_get ins u h1]
      exact mayIns_lt ins _ hi u v h0 (by omega)
    · rw [if_neg hm]; exact ih
theorem termsOk_map (h : List Bool) (own own' : Int) : ∀ (l : List S62) (last last' : Int), -1 ≤ last → termsOk own last l = true → (∀ t ∈ l, mb h t.f0.toNat = true ∧ (rank h t.f0.toNat : Int) < own') → (∀ t ∈ l, last < t.f0 → last' < (rank h t.f0.toNat : Int)) → termsOk own' last' (fRow h l) = true
  | [], _, _, _, _, _, _ => rfl
  | t :: r, last, last', h0, ht, hm, hl => by
    rw [termsOk] at ht
    by_cases c1 : t.f0 ≤ last
    · rw [if_pos c1] at ht; cases ht
    · rw [if_neg c1] at ht
      by_cases c2 : t.f0 ≥ own
      · rw [if_pos c2] at ht; cases ht
      · rw [if_neg c2] at ht
        by_cases c3 : t.f1 = 0
        · rw [if_pos c3] at ht; cases ht
        · rw [if_neg c3] at ht
          have h1 := hl t (by simp) (by omega)
          have h2 := hm t (by simp)
          show termsOk own' last' (⟨(rank h t.f0.toNat : Int), t.f1⟩ :: fRow h r) = true
          rw [termsOk]
          rw [if_neg (show ¬ (rank h t.f0.toNat : Int) ≤ last' by omega), if_neg (show ¬ (rank h t.f0.toNat : Int) ≥ own' by omega), if_neg c3]
          refine termsOk_map h own own' r t.f0 _ (by omega) ht (fun x hx => hm x (by simp [hx])) (fun x hx hlt => ?_)
          have := rank_lt h (a := t.f0.toNat) (b := x.f0.toNat) h2.1 (by omega)
          show (rank h t.f0.toNat : Int) < (rank h x.f0.toNat : Int)
          omega
theorem nodesOk_snoc (n0 : Nat) (x : List S62) : ∀ (l : List (List S62)) (i : Nat), nodesOk n0 i l = true → termsOk ((n0 : Int) + (i + l.length : Nat)) (-1) x = true → nodesOk n0 i (l ++ [x]) = true
  | [], i, _, h => by
    show nodesOk n0 i [x] = true
    rw [nodesOk, if_pos (by simpa using h)]; rfl
  | y :: r, i, h, hx => by
    rw [nodesOk] at h
    show nodesOk n0 i (y :: (r ++ [x])) = true
    rw [nodesOk]
    by_cases c : termsOk ((n0 : Int) + i) (-1) y = true
    · rw [if_pos c] at h ⊢
      exact nodesOk_snoc n0 x r (i + 1) h (by rw [show i + 1 + r.length = i + (y :: r).length from by simp; omega]; exact hx)
    · rw [if_neg c] at h; cases h
section
variable {ins : List Int} {nodes : List (List S62)} {outs : List Int} {W : List Bool} (hmay : mayB ins nodes outs = true) (hF : Final (ins := ins) (nodes := nodes) (outs := outs) W)
include hmay hF
theorem may_parts : mayIns (-1) ins = true ∧ nodesOk ins.length 0 nodes = true := by
  have h := hmay
  unfold mayB at h
  simp only [Bool.and_eq_true] at h
  exact ⟨h.1.1.1.1, h.1.2⟩
theorem term_mk (n : Nat) (hn : n < nodes.length) (hm : mb W (ins.length + n) = true) : ∀ t ∈ nodes[n], mb W t.f0.toNat = true ∧ t.f0.toNat < ins.length + n ∧ 0 ≤ t.f0 := by
  intro t ht
  have hg := good_of_may hmay
  have h0 := hg.term n hn t ht
  refine ⟨(mb_iff _ _).2 (hF.closed _ ((mb_iff _ _).1 hm) _ ?_), by omega, h0.1⟩
  unfold kids
  rw [if_neg (by omega), Nat.add_sub_cancel_left, List.getD_eq_getElem?_getD, List.getElem?_eq_getElem hn]
  exact List.mem_map.2 ⟨t, ht, rfl⟩
theorem fNodes_may : ∀ d, d ≤ nodes.length → nodesOk (rank W ins.length) 0 (fNodes ins nodes W (ins.length + d)) = true
  | 0, _ => by rw [Nat.add_zero, fNodes_lo W _ (Nat.le_refl _)]; rfl
  | d + 1, hd => by
    have ih := fNodes_may d (by omega)
    have hl := fNodes_rank ins nodes W d
    rw [← Nat.add_assoc, fNodes]
    by_cases hm : mb W (ins.length + d) = true
    · rw [if_pos hm, if_neg (by omega), Nat.add_sub_cancel_left, rdL nodes d (by omega)]
      refine nodesOk_snoc _ _ _ 0 ih ?_
      have ht := nodesOk_spec ins.length nodes 0 (may_parts hmay hF).2 d (by omega)
      have hk := term_mk hmay hF d (by omega) hm
      refine termsOk_map W _ _ nodes[d] (-1) (-1) (by omega) ht (fun t htm => ⟨(hk t htm).1, ?_⟩) (fun t htm _ => by omega)
      have := rank_lt W (hk t htm).1 (hk t htm).2.1
      omega
    · rw [if_neg hm]; exact ih
theorem out_mk : ∀ o ∈ outs, mb W o.toNat = true ∧ o.toNat < ins.length + nodes.length ∧ 0 ≤ o := fun o ho => by
  have := (good_of_may hmay).outs o ho
  exact ⟨(mb_iff _ _).2 (hF.outM o ho), by omega, by omega⟩
theorem less_may : mayB (fIns ins W ins.length) (fNodes ins nodes W (ins.length + nodes.length)) (fOuts outs W) = true := by
  have hg := good_of_may hmay
  have h2 := hg.nN
  have h3 := hg.nO
  have hl := fNodes_rank ins nodes W nodes.length
  have hr := rank_le W (ins.length + nodes.length)
  have hi := fIns_rank ins W ins.length (Nat.le_refl _)
  have hu : rank W (ins.length + nodes.length) ≤ rank W ins.length + nodes.length := by
    have : ∀ d, rank W (ins.length + d) ≤ rank W ins.length + d := fun d => by
      induction d with
      | zero => exact Nat.le_refl _
      | succ d ih => rw [← Nat.add_assoc, rank]; split <;> omega
    exact this _
  unfold mayB
  rw [fIns_may ins W (may_parts hmay hF).1 _ (Nat.le_refl _), hi, fNodes_may hmay hF _ (Nat.le_refl _), decide_eq_true (show (fNodes ins nodes W (ins.length + nodes.length)).length ≤ 4096 by omega), decide_eq_true (show (fOuts outs W).length ≤ 64 by rw [fOuts, List.length_map]; omega)]
  simp only [Bool.and_self, Bool.true_and, Bool.and_true, Bool.not_eq_true', List.any_eq_false, Bool.or_eq_true, decide_eq_true_eq, not_or]
  intro v hv
  obtain ⟨o, ho, rfl⟩ := List.mem_map.1 hv
  have := out_mk hmay hF o ho
  have := rank_lt W this.1 this.2.1
  omega
/-! once more -/
end
end Go.Proofs.Ytlflfpkjbjbldaa.Spec
