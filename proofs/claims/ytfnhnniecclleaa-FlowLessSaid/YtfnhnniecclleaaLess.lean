/- FlowLess' plain law: what Trim leaves may be, is its own Trim, costs no more and runs alike. -/
import Derived.Test.YtfnhnniecclleaaOf
import Derived.Test.YtfnhnniecclleaaPAx25
namespace Go.Proofs.Ytfnhnniecclleaa.Spec
open Go.RowKit Go.Proofs.Ytfnhnniecclleaa.PA Go.Proofs.YtfnhnniecclleaaW.PrintWords Go.Proofs.YtfnhnniecclleaaW.PrintLast Go.Proofs.YtfnhnniecclleaaW.PrintMore
set_option linter.unusedVariables false
set_option linter.unusedSimpArgs false
set_option linter.unusedSectionVars false
theorem rank_mono (h : List Bool) (a : Nat) : ∀ d, rank h a ≤ rank h (a + d)
  | 0 => Nat.le_refl _
  | d + 1 => by rw [← Nat.add_assoc, rank]; have := rank_mono h a d; split <;> omega
theorem rank_le_of (h : List Bool) {a b : Nat} (hab : a ≤ b) : rank h a ≤ rank h b := by
  obtain ⟨d, rfl⟩ := Nat.le.dest hab; exact rank_mono h a d
theorem rank_lt (h : List Bool) {a b : Nat} (hm : mb h a = true) (hab : a < b) : rank h a < rank h b := by
  have := rank_le_of h (show a + 1 ≤ b from hab); rw [rank, if_pos hm] at this; omega
theorem rank_surj (h : List Bool) : ∀ b k, k < rank h b → ∃ u, u < b ∧ mb h u = true ∧ rank h u = k
  | 0, k, hk => by simp [rank] at hk
  | b + 1, k, hk => by
    rw [rank] at hk
    split at hk
    · by_cases e : k = rank h b
      · exact ⟨b, by omega, by assumption, e.symm⟩
      · obtain ⟨u, hu, hm, hr⟩ := rank_surj h b k (by omega)
        exact ⟨u, by omega, hm, hr⟩
    · obtain ⟨u, hu, hm, hr⟩ := rank_surj h b k (by omega)
      exact ⟨u, by omega, hm, hr⟩
theorem fIns_rank (ins : List Int) (h : List Bool) : ∀ v, v ≤ ins.length → (fIns ins h v).length = rank h v
  | 0, _ => rfl
  | v + 1, hv => by
    have ih := fIns_rank ins h v (by omega)
    rw [fIns, rank]
    by_cases hm : mb h v = true
    · rw [if_pos hm, if_pos (by omega), if_pos hm, List.length_append, List.length_singleton, ih]
    · rw [if_neg hm, if_neg hm, ih]
theorem fNodes_rank (ins : List Int) (nodes : List (List S64)) (h : List Bool) : ∀ d, (fNodes ins nodes h (ins.length + d)).length + rank h ins.length = rank h (ins.length + d)
  | 0 => by rw [Nat.add_zero, fNodes_lo h _ (Nat.le_refl _)]; simp
  | d + 1 => by
    have ih := fNodes_rank ins nodes h d
    rw [← Nat.add_assoc, fNodes, rank]
    by_cases hm : mb h (ins.length + d) = true
    · rw [if_pos hm, if_neg (by omega), if_pos hm, List.length_append, List.length_singleton]; omega
    · rw [if_neg hm, if_neg hm, ih]
theorem fIns_get (ins : List Int) (h : List Bool) : ∀ v, v ≤ ins.length → ∀ u, u < v → mb h u = true → (fIns ins h v)[rank h u]? = some (rd ins u)
  | 0, _, u, hu, _ => by omega
  | v + 1, hv, u, hu, hm => by
    have ih := fIns_get ins h v (by omega)
    have hl := fIns_rank ins h v (by omega)
    rw [fIns]
    by_cases hmv : mb h v = true
    · rw [if_pos hmv, if_pos (by omega)]
      by_cases e : u = v
      · subst e
        rw [List.getElem?_append_right (by omega), hl]; simp
      · have := rank_lt h hm (show u < v by omega)
        rw [List.getElem?_append_left (by omega)]
        exact ih u (by omega) hm
    · rw [if_neg hmv]
      by_cases e : u = v
      · subst e; exact absurd hm hmv
      · exact ih u (by omega) hm
theorem fNodes_get (ins : List Int) (nodes : List (List S64)) (h : List Bool) : ∀ d u, ins.length ≤ u → u < ins.length + d → mb h u = true → (fNodes ins nodes h (ins.length + d))[rank h u - rank h ins.length]? = some (fRow h (rd_L4 nodes ((u - ins.length : Nat) : Int)))
  | 0, u, h0, h1, _ => by omega
  | d + 1, u, h0, h1, hm => by
    have ih := fNodes_get ins nodes h d
    have hl := fNodes_rank ins nodes h d
    rw [← Nat.add_assoc, fNodes]
    by_cases hmv : mb h (ins.length + d) = true
    · rw [if_pos hmv, if_neg (by omega)]
      by_cases e : u = ins.length + d
      · subst e
        rw [List.getElem?_append_right (by omega), show rank h (ins.length + d) - rank h ins.length - (fNodes ins nodes h (ins.length + d)).length = 0 from by omega]; simp
      · have := rank_lt h hm (show u < ins.length + d by omega)
        have := rank_le_of h h0
        rw [List.getElem?_append_left (by omega)]
        exact ih u h0 (by omega) hm
    · rw [if_neg hmv]
      by_cases e : u = ins.length + d
      · subst e; exact absurd hm hmv
      · exact ih u h0 (by omega) hm
/-! it may be -/
theorem mayIns_lt : ∀ (l : List Int) (last : Int), mayIns last l = true → ∀ i j (hij : i < j) (hj : j < l.length), l[i]'(by omega) < l[j]
  | [], _, _, i, j, _, hj => absurd hj (by simp)
  | b :: r, last, h, i, j, hij, hj => by
    unfold mayIns at h
    by_cases c : b ≤ last
    · rw [if_pos c] at h; cases h
    · rw [if_neg c] at h
      by_cases c2 : b ≥ 64
      · rw [if_pos c2] at h; cases h
      · rw [if_neg c2] at h
        cases j with
        | zero => omega
        | succ j =>
          cases i with
          | zero => exact mayIns_pos r b h _ (List.getElem_mem (by simpa using hj))
          | succ i => exact mayIns_lt r b h i j (by omega) (by simpa using hj)
theorem mayIns_hi : ∀ (l : List Int) (last : Int), mayIns last l = true → ∀ v ∈ l, v < 64
  | [], _, _, v, h => by cases h
  | b :: r, last, h, v, hv => by
    unfold mayIns at h
    by_cases c : b ≤ last
    · rw [if_pos c] at h; cases h
    · rw [if_neg c] at h
      by_cases c2 : b ≥ 64
      · rw [if_pos c2] at h; cases h
      · rw [if_neg c2] at h
        rcases List.mem_cons.1 hv with rfl | hv
        · omega
        · exact mayIns_hi r b h v hv
theorem fIns_mem (ins : List Int) (h : List Bool) : ∀ v, ∀ x ∈ fIns ins h v, ∃ u, u < v ∧ u < ins.length ∧ mb h u = true ∧ x = rd ins u
  | 0, x, hx => by cases hx
  | v + 1, x, hx => by
    rw [fIns] at hx
    by_cases hm : mb h v = true
    · rw [if_pos hm] at hx
      by_cases hv : v < ins.length
      · rw [if_pos hv] at hx
        rcases List.mem_append.1 hx with hx | hx
        · obtain ⟨u, h0, h1, h2, h3⟩ := fIns_mem ins h v x hx
          exact ⟨u, by omega, h1, h2, h3⟩
        · exact ⟨v, by omega, hv, hm, List.mem_singleton.1 hx⟩
      · rw [if_neg hv] at hx
        obtain ⟨u, h0, h1, h2, h3⟩ := fIns_mem ins h v x hx
        exact ⟨u, by omega, h1, h2, h3⟩
    · rw [if_neg hm] at hx
      obtain ⟨u, h0, h1, h2, h3⟩ := fIns_mem ins h v x hx
      exact ⟨u, by omega, h1, h2, h3⟩
theorem fIns_may (ins : List Int) (h : List Bool) (hi : mayIns (-1) ins = true) : ∀ v, v ≤ ins.length → mayIns (-1) (fIns ins h v) = true
  | 0, _ => rfl
  | v + 1, hv => by
    have ih := fIns_may ins h hi v (by omega)
    rw [fIns]
    by_cases hm : mb h v = true
    · rw [if_pos hm, if_pos (by omega), rd_get ins v (by omega)]
      refine mayIns_snoc _ (mayIns_hi ins _ hi _ (List.getElem_mem _)) _ _ ih (fun x hx => ?_) (mayIns_pos ins _ hi _ (List.getElem_mem _))
      obtain ⟨u, h0, h1, h2, rfl⟩ := fIns_mem ins h v x hx
      rw [rd_get ins u h1]
      exact mayIns_lt ins _ hi u v h0 (by omega)
    · rw [if_neg hm]; exact ih
theorem termsOk_map (h : List Bool) (own own' : Int) : ∀ (l : List S64) (last last' : Int), -1 ≤ last → termsOk own last l = true → (∀ t ∈ l, mb h t.f0.toNat = true ∧ (rank h t.f0.toNat : Int) < own') → (∀ t ∈ l, last < t.f0 → last' < (rank h t.f0.toNat : Int)) → termsOk own' last' (fRow h l) = true
  | [], _, _, _, _, _, _ => rfl
  | t :: r, last, last', h0, ht, hm, hl => by
    rw [termsOk] at ht
    by_cases c1 : t.f0 ≤ last
    · rw [if_pos c1] at ht; cases ht
    · rw [if_neg c1] at ht
      by_cases c2 : t.f0 ≥ own
      · rw [if_pos c2] at ht; cases ht
      · rw [if_neg c2] at ht
        by_cases c3 : t.f1 = 0
        · rw [if_pos c3] at ht; cases ht
        · rw [if_neg c3] at ht
          have h1 := hl t (by simp) (by omega)
          have h2 := hm t (by simp)
          show termsOk own' last' (⟨(rank h t.f0.toNat : Int), t.f1⟩ :: fRow h r) = true
          rw [termsOk]
          rw [if_neg (show ¬ (rank h t.f0.toNat : Int) ≤ last' by omega), if_neg (show ¬ (rank h t.f0.toNat : Int) ≥ own' by omega), if_neg c3]
          refine termsOk_map h own own' r t.f0 _ (by omega) ht (fun x hx => hm x (by simp [hx])) (fun x hx hlt => ?_)
          have := rank_lt h (a := t.f0.toNat) (b := x.f0.toNat) h2.1 (by omega)
          show (rank h t.f0.toNat : Int) < (rank h x.f0.toNat : Int)
          omega
theorem nodesOk_snoc (n0 : Nat) (x : List S64) : ∀ (l : List (List S64)) (i : Nat), nodesOk n0 i l = true → termsOk ((n0 : Int) + (i + l.length : Nat)) (-1) x = true → nodesOk n0 i (l ++ [x]) = true
  | [], i, _, h => by
    show nodesOk n0 i [x] = true
    rw [nodesOk, if_pos (by simpa using h)]; rfl
  | y :: r, i, h, hx => by
    rw [nodesOk] at h
    show nodesOk n0 i (y :: (r ++ [x])) = true
    rw [nodesOk]
    by_cases c : termsOk ((n0 : Int) + i) (-1) y = true
    · rw [if_pos c] at h ⊢
      exact nodesOk_snoc n0 x r (i + 1) h (by rw [show i + 1 + r.length = i + (y :: r).length from by simp; omega]; exact hx)
    · rw [if_neg c] at h; cases h
section
variable {ins : List Int} {nodes : List (List S64)} {outs : List Int} {W : List Bool} (hmay : mayB ins nodes outs = true) (hF : Final (ins := ins) (nodes := nodes) (outs := outs) W)
include hmay hF
theorem may_parts : mayIns (-1) ins = true ∧ nodesOk ins.length 0 nodes = true := by
  have h := hmay
  unfold mayB at h
  simp only [Bool.and_eq_true] at h
  exact ⟨h.1.1.1.1, h.1.2⟩
theorem term_mk (n : Nat) (hn : n < nodes.length) (hm : mb W (ins.length + n) = true) : ∀ t ∈ nodes[n], mb W t.f0.toNat = true ∧ t.f0.toNat < ins.length + n ∧ 0 ≤ t.f0 := by
  intro t ht
  have hg := good_of_may hmay
  have h0 := hg.term n hn t ht
  refine ⟨(mb_iff _ _).2 (hF.closed _ ((mb_iff _ _).1 hm) _ ?_), by omega, h0.1⟩
  unfold kids
  rw [if_neg (by omega), Nat.add_sub_cancel_left, List.getD_eq_getElem?_getD, List.getElem?_eq_getElem hn]
  exact List.mem_map.2 ⟨t, ht, rfl⟩
theorem fNodes_may : ∀ d, d ≤ nodes.length → nodesOk (rank W ins.length) 0 (fNodes ins nodes W (ins.length + d)) = true
  | 0, _ => by rw [Nat.add_zero, fNodes_lo W _ (Nat.le_refl _)]; rfl
  | d + 1, hd => by
    have ih := fNodes_may d (by omega)
    have hl := fNodes_rank ins nodes W d
    rw [← Nat.add_assoc, fNodes]
    by_cases hm : mb W (ins.length + d) = true
    · rw [if_pos hm, if_neg (by omega), Nat.add_sub_cancel_left, rdL nodes d (by omega)]
      refine nodesOk_snoc _ _ _ 0 ih ?_
      have ht := nodesOk_spec ins.length nodes 0 (may_parts hmay hF).2 d (by omega)
      have hk := term_mk hmay hF d (by omega) hm
      refine termsOk_map W _ _ nodes[d] (-1) (-1) (by omega) ht (fun t htm => ⟨(hk t htm).1, ?_⟩) (fun t htm _ => by omega)
      have := rank_lt W (hk t htm).1 (hk t htm).2.1
      omega
    · rw [if_neg hm]; exact ih
theorem out_mk : ∀ o ∈ outs, mb W o.toNat = true ∧ o.toNat < ins.length + nodes.length ∧ 0 ≤ o := fun o ho => by
  have := (good_of_may hmay).outs o ho
  exact ⟨(mb_iff _ _).2 (hF.outM o ho), by omega, by omega⟩
theorem less_may : mayB (fIns ins W ins.length) (fNodes ins nodes W (ins.length + nodes.length)) (fOuts outs W) = true := by
  have hg := good_of_may hmay
  have h2 := hg.nN
  have h3 := hg.nO
  have hl := fNodes_rank ins nodes W nodes.length
  have hr := rank_le W (ins.length + nodes.length)
  have hi := fIns_rank ins W ins.length (Nat.le_refl _)
  have hu : rank W (ins.length + nodes.length) ≤ rank W ins.length + nodes.length := by
    have : ∀ d, rank W (ins.length + d) ≤ rank W ins.length + d := fun d => by
      induction d with
      | zero => exact Nat.le_refl _
      | succ d ih => rw [← Nat.add_assoc, rank]; split <;> omega
    exact this _
  unfold mayB
  rw [fIns_may ins W (may_parts hmay hF).1 _ (Nat.le_refl _), hi, fNodes_may hmay hF _ (Nat.le_refl _), decide_eq_true (show (fNodes ins nodes W (ins.length + nodes.length)).length ≤ 4096 by omega), decide_eq_true (show (fOuts outs W).length ≤ 64 by rw [fOuts, List.length_map]; omega)]
  simp only [Bool.and_self, Bool.true_and, Bool.and_true, Bool.not_eq_true', List.any_eq_false, Bool.or_eq_true, decide_eq_true_eq, not_or]
  intro v hv
  obtain ⟨o, ho, rfl⟩ := List.mem_map.1 hv
  have := out_mk hmay hF o ho
  have := rank_lt W this.1 this.2.1
  omega
/-! once more -/
theorem kids_T (u : Nat) (hu : u < ins.length + nodes.length) (hm : mb W u = true) : kids (fIns ins W ins.length).length (fNodes ins nodes W (ins.length + nodes.length)) (rank W u) = (kids ins.length nodes u).map (rank W) := by
  rw [fIns_rank ins W ins.length (Nat.le_refl _)]
  by_cases c : u < ins.length
  · have := rank_lt W hm c
    unfold kids
    rw [if_pos this, if_pos c]; rfl
  · have := rank_le_of W (show ins.length ≤ u by omega)
    unfold kids
    rw [if_neg (by omega), if_neg c, List.getD_eq_getElem?_getD, fNodes_get ins nodes W nodes.length u (by omega) hu hm, rdL nodes _ (by omega), List.getD_eq_getElem?_getD, List.getElem?_eq_getElem (by omega)]
    simp only [Option.getD_some, fRow, List.map_map]
    apply List.map_congr_left
    intro t _
    simp
theorem all_T {V : List Bool} (hV : Final (ins := fIns ins W ins.length) (nodes := fNodes ins nodes W (ins.length + nodes.length)) (outs := fOuts outs W) V) : ∀ k, k < rank W (ins.length + nodes.length) → mb V k = true := by
  intro k hk
  obtain ⟨u, hu, hm, rfl⟩ := rank_surj W _ k hk
  have := hF.least (fun u => u < ins.length + nodes.length ∧ mb W u = true ∧ Mk V (rank W u)) (fun u hu c hc => ?_) (fun o ho => ?_) u ((mb_iff _ _).1 hm)
  · exact (mb_iff _ _).2 this.2.2
  · have hcl := kids_lt (good_of_may hmay) u c hu.1 hc
    refine ⟨by omega, (mb_iff _ _).2 (hF.closed u ((mb_iff _ _).1 hu.2.1) c hc), hV.closed _ hu.2.2 _ ?_⟩
    rw [kids_T hmay hF u hu.1 hu.2.1]
    exact List.mem_map.2 ⟨c, hc, rfl⟩
  · have h := out_mk hmay hF o ho
    refine ⟨h.2.1, h.1, ?_⟩
    have := hV.outM (rank W o.toNat : Int) (List.mem_map.2 ⟨o, ho, rfl⟩)
    simpa using this
end
theorem rank_all {V : List Bool} {n : Nat} (h : ∀ k, k < n → mb V k = true) : ∀ v, v ≤ n → rank V v = v
  | 0, _ => rfl
  | v + 1, hv => by rw [rank, if_pos (h v (by omega)), rank_all h v (by omega)]
theorem fRow_all {V : List Bool} {n : Nat} (h : ∀ k, k < n → mb V k = true) : ∀ (l : List S64), (∀ t ∈ l, 0 ≤ t.f0 ∧ t.f0 < (n : Int)) → fRow V l = l
  | [], _ => rfl
  | t :: r, ht => by
    have h0 := ht t (by simp)
    show (⟨(rank V t.f0.toNat : Int), t.f1⟩ : S64) :: fRow V r = t :: r
    rw [fRow_all h r (fun x hx => ht x (by simp [hx])), rank_all h _ (by omega), Int.toNat_of_nonneg h0.1]
theorem fIns_all (ins : List Int) {V : List Bool} : ∀ v, v ≤ ins.length → (∀ k, k < v → mb V k = true) → fIns ins V v = ins.take v
  | 0, _, _ => rfl
  | v + 1, hv, h => by
    rw [fIns, if_pos (h v (by omega)), if_pos (by omega), fIns_all ins v (by omega) (fun k hk => h k (by omega)), rd_get ins v (by omega), List.take_succ_eq_append_getElem (by omega)]
theorem fNodes_all {ins : List Int} {nodes : List (List S64)} {outs : List Int} (hg : Good ins nodes outs) {V : List Bool} (h : ∀ k, k < ins.length + nodes.length → mb V k = true) : ∀ d, d ≤ nodes.length → fNodes ins nodes V (ins.length + d) = nodes.take d
  | 0, _ => by rw [Nat.add_zero, fNodes_lo V _ (Nat.le_refl _)]; rfl
  | d + 1, hd => by
    rw [← Nat.add_assoc, fNodes, if_pos (h _ (by omega)), if_neg (by omega), fNodes_all hg h d (by omega), Nat.add_sub_cancel_left, rdL nodes d (by omega), List.take_succ_eq_append_getElem (by omega), fRow_all h]
    intro t ht
    have := hg.term d (by omega) t ht
    omega
theorem fOuts_all {V : List Bool} {n : Nat} (h : ∀ k, k < n → mb V k = true) : ∀ (l : List Int), (∀ o ∈ l, 0 ≤ o ∧ o < (n : Int)) → fOuts l V = l
  | [], _ => rfl
  | o :: r, ho => by
    have h0 := ho o (by simp)
    show (rank V o.toNat : Int) :: fOuts r V = o :: r
    rw [fOuts_all h r (fun x hx => ho x (by simp [hx])), rank_all h _ (by omega), Int.toNat_of_nonneg h0.1]
/-! costs -/
def prodT : List S64 → Nat
  | [] => 0
  | t :: r => if t.f1 = 1 then prodT r else prodT r + 1
def prodN : List (List S64) → Nat
  | [] => 0
  | l :: r => prodT l + prodN r
def sumN : List (List S64) → Nat
  | [] => 0
  | l :: r => (l.length - 1) + sumN r
theorem prodT_le : ∀ l, prodT l ≤ l.length
  | [] => Nat.le_refl _
  | t :: r => by rw [prodT]; have := prodT_le r; simp only [List.length_cons]; split <;> omega
theorem costT_eq : ∀ (l : List S64) (y : Int), 0 ≤ y → y + l.length < 9223372036854775808 → costT y l = y + prodT l
  | [], y, _, _ => by simp [costT, prodT]
  | t :: r, y, h0, h1 => by
    simp only [List.length_cons] at h1
    rw [costT, prodT]
    by_cases c : t.f1 = 1
    · rw [if_pos c, if_pos c, costT_eq r y h0 (by omega)]
    · rw [if_neg c, if_neg c, w64 (by omega) (by omega), costT_eq r (y + 1) (by omega) (by omega)]; omega
theorem costN_eq : ∀ (l : List (List S64)) (x y : Int), (∀ n ∈ l, n.length ≤ 4160) → 0 ≤ x → 0 ≤ y → x + 4160 * l.length < 9223372036854775808 → y + 4160 * l.length < 9223372036854775808 → costN x y l = (x + sumN l, y + prodN l, 0)
  | [], x, y, _, _, _, _, _ => by simp [costN, sumN, prodN]
  | n :: r, x, y, h, h0, h1, h2, h3 => by
    have hn := h n (by simp)
    simp only [List.length_cons] at h2 h3
    have hp := prodT_le n
    have hmx : mx (wrap64 ((n.length : Int) - 1)) 0 = ((n.length - 1 : Nat) : Int) := by
      rw [w64 (by omega) (by omega)]; unfold mx; split <;> omega
    rw [costN, hmx, costT_eq n y h1 (by omega), w64 (by omega) (by omega), costN_eq r _ _ (fun z hz => h z (by simp [hz])) (by omega) (by omega) (by omega) (by omega), sumN, prodN]
    simp only [Prod.mk.injEq, and_true]
    constructor <;> omega
theorem sumN_snoc (x : List S64) : ∀ l, sumN (l ++ [x]) = sumN l + (x.length - 1)
  | [] => by simp [sumN]
  | y :: r => by show (y.length - 1) + sumN (r ++ [x]) = _; rw [sumN_snoc x r, sumN]; omega
theorem prodN_snoc (x : List S64) : ∀ l, prodN (l ++ [x]) = prodN l + prodT x
  | [] => by simp [prodN]
  | y :: r => by show prodT y + prodN (r ++ [x]) = _; rw [prodN_snoc x r, prodN]; omega
theorem prodT_row (h : List Bool) : ∀ l, prodT (fRow h l) = prodT l
  | [] => rfl
  | t :: r => by show prodT ((⟨(rank h t.f0.toNat : Int), t.f1⟩ : S64) :: fRow h r) = _; rw [prodT, prodT, prodT_row h r]
theorem cost_less (ins : List Int) (nodes : List (List S64)) (h : List Bool) : ∀ d, d ≤ nodes.length → sumN (fNodes ins nodes h (ins.length + d)) ≤ sumN (nodes.take d) ∧ prodN (fNodes ins nodes h (ins.length + d)) ≤ prodN (nodes.take d)
  | 0, _ => by rw [Nat.add_zero, fNodes_lo h _ (Nat.le_refl _)]; exact ⟨Nat.zero_le _, Nat.zero_le _⟩
  | d + 1, hd => by
    have ih := cost_less ins nodes h d (by omega)
    rw [← Nat.add_assoc, fNodes, List.take_succ_eq_append_getElem (by omega : d < nodes.length), sumN_snoc, prodN_snoc]
    by_cases hm : mb h (ins.length + d) = true
    · rw [if_pos hm, if_neg (by omega), Nat.add_sub_cancel_left, rdL nodes d (by omega), sumN_snoc, prodN_snoc, prodT_row, show (fRow h nodes[d]).length = nodes[d].length from List.length_map _]
      omega
    · rw [if_neg hm]; omega
/-! runs -/
theorem runF_snoc (L : Nat) (x : List S64) : ∀ (l : List (List S64)) (V : List (List Int)), runF L V (l ++ [x]) = runF L V l ++ [rowF (runF L V l) (List.replicate L 0) x]
  | [], V => rfl
  | y :: r, V => by show runF L _ (r ++ [x]) = _; rw [runF_snoc L x r, runF]
theorem rowF_T (h : List Bool) (V VT : List (List Int)) : ∀ (l : List S64) (acc : List Int), (∀ t ∈ l, rd_L9 VT (rank h t.f0.toNat : Int) = rd_L9 V t.f0) → rowF VT acc (fRow h l) = rowF V acc l
  | [], _, _ => rfl
  | t :: r, acc, ht => by
    show rowF VT acc ((⟨(rank h t.f0.toNat : Int), t.f1⟩ : S64) :: fRow h r) = _
    rw [rowF, rowF, ht t (by simp)]
    exact rowF_T h V VT r _ (fun x hx => ht x (by simp [hx]))
theorem rd9_left (A : List (List Int)) (x : List Int) (i : Nat) (h : i < A.length) : rd_L9 (A ++ [x]) (i : Int) = rd_L9 A (i : Int) := by
  rw [rd9 _ i (by simp; omega), rd9 _ i h, List.getElem_append_left h]
theorem rd9_last (A : List (List Int)) (x : List Int) (i : Nat) (h : i = A.length) : rd_L9 (A ++ [x]) (i : Int) = x := by
  subst h; simp [rd_L9]
section
variable {ins : List Int} {nodes : List (List S64)} {outs : List Int} {W : List Bool} (hmay : mayB ins nodes outs = true) (hF : Final (ins := ins) (nodes := nodes) (outs := outs) W) (bl : List (List Int)) (S : Nat)
include hmay hF
theorem run_T : ∀ d, d ≤ nodes.length → ∀ u, u < ins.length + d → mb W u = true → rd_L9 (runF S (pickB bl (fIns ins W ins.length)) (fNodes ins nodes W (ins.length + d))) (rank W u : Int) = rd_L9 (runF S (pickB bl ins) (nodes.take d)) (u : Int)
  | 0, _, u, hu, hm => by
    rw [Nat.add_zero, fNodes_lo W _ (Nat.le_refl _), List.take_zero, runF, runF]
    have hg := fIns_get ins W ins.length (Nat.le_refl _) u (by omega) hm
    have hl := fIns_rank ins W ins.length (Nat.le_refl _)
    have hr := rank_lt W hm (show u < ins.length by omega)
    rw [rd9 _ _ (by rw [pickB, List.length_map]; omega), rd9 _ _ (by rw [pickB, List.length_map]; omega)]
    simp only [pickB, List.getElem_map]
    rw [List.getElem?_eq_getElem (by omega)] at hg
    rw [Option.some.inj hg, rd_get ins u (by omega)]
  | d + 1, hd, u, hu, hm => by
    have ih := run_T d (by omega)
    have hl := fNodes_rank ins nodes W d
    have hi := fIns_rank ins W ins.length (Nat.le_refl _)
    have l1 := runF_len S (nodes.take d) (pickB bl ins)
    have l2 := runF_len S (fNodes ins nodes W (ins.length + d)) (pickB bl (fIns ins W ins.length))
    rw [pickB, List.length_map, List.length_take, Nat.min_eq_left (by omega)] at l1
    rw [pickB, List.length_map, hi] at l2
    rw [← Nat.add_assoc, fNodes, List.take_succ_eq_append_getElem (by omega : d < nodes.length), runF_snoc]
    by_cases hmv : mb W (ins.length + d) = true
    · have hk := term_mk hmay hF d (by omega) hmv
      rw [if_pos hmv, if_neg (by omega), Nat.add_sub_cancel_left, rdL nodes d (by omega), runF_snoc, rowF_T W (runF S (pickB bl ins) (nodes.take d))]
      · by_cases e : u = ins.length + d
        · subst e
          rw [rd9_last _ _ _ (by unfold pickB; omega), rd9_last _ _ _ (by unfold pickB; omega)]
        · have := rank_lt W hm (show u < ins.length + d by omega)
          rw [rd9_left _ _ _ (by unfold pickB; omega), rd9_left _ _ _ (by unfold pickB; omega)]
          exact ih u (by omega) hm
      · intro t ht
        have := hk t ht
        have e := ih t.f0.toNat this.2.1 this.1
        rw [Int.toNat_of_nonneg this.2.2] at e
        exact e
    · rw [if_neg hmv]
      have e : u ≠ ins.length + d := fun e => by subst e; exact absurd hm hmv
      rw [rd9_left _ _ _ (by unfold pickB; omega)]
      exact ih u (by omega) hm
theorem out_T : outF (runF S (pickB bl (fIns ins W ins.length)) (fNodes ins nodes W (ins.length + nodes.length))) (fOuts outs W) = outF (runF S (pickB bl ins) nodes) outs := by
  unfold outF fOuts
  rw [List.map_map]
  apply List.map_congr_left
  intro o ho
  have h := out_mk hmay hF o ho
  have e := run_T hmay hF bl S nodes.length (Nat.le_refl _) o.toNat h.2.1 h.1
  rw [List.take_length, Int.toNat_of_nonneg h.2.2] at e
  exact e
end
theorem fNodes_mem {ins : List Int} {nodes : List (List S64)} (h : List Bool) : ∀ d, d ≤ nodes.length → ∀ l ∈ fNodes ins nodes h (ins.length + d), ∃ l0 ∈ nodes, l = fRow h l0
  | 0, _, l, hl => by rw [Nat.add_zero, fNodes_lo h _ (Nat.le_refl _)] at hl; cases hl
  | d + 1, hd, l, hl => by
    rw [← Nat.add_assoc, fNodes] at hl
    by_cases hm : mb h (ins.length + d) = true
    · rw [if_pos hm, if_neg (by omega), Nat.add_sub_cancel_left, rdL nodes d (by omega)] at hl
      rcases List.mem_append.1 hl with hl | hl
      · exact fNodes_mem h d (by omega) l hl
      · exact ⟨nodes[d], List.getElem_mem _, List.mem_singleton.1 hl⟩
    · rw [if_neg hm] at hl
      exact fNodes_mem h d (by omega) l hl
theorem less_flowI {ins : List Int} {nodes : List (List S64)} {outs : List Int} {W : List Bool} (hmay : mayB ins nodes outs = true) (hF : Final (ins := ins) (nodes := nodes) (outs := outs) W) (hf1 : ∀ l ∈ nodes, ∀ t ∈ l, 0 ≤ t.f1 ∧ t.f1 < 256) :
    FlowI ⟨fIns ins W ins.length, fNodes ins nodes W (ins.length + nodes.length), fOuts outs W⟩ := by
  have hmT := less_may hmay hF
  have hgT := good_of_may hmT
  have n0 := hgT.n0
  have nN := hgT.nN
  refine flowI_mk n0 (fun v hv => ?_) nN (fun l hl => ?_) hgT.nO (fun v hv => ?_)
  · have h1 := mayIns_pos _ _ (may_parts hmay hF).1
    have h2 := mayIns_hi _ _ (may_parts hmay hF).1
    obtain ⟨u, h0, hu, hm, rfl⟩ := fIns_mem ins W _ v hv
    rw [rd_get ins u hu]
    have := h1 _ (List.getElem_mem hu)
    have := h2 _ (List.getElem_mem hu)
    omega
  · obtain ⟨n, hn, e⟩ := List.getElem_of_mem hl
    have ht := hgT.term n hn
    have hlen := hgT.tlen n hn
    rw [e] at ht hlen
    refine ⟨hlen, fun t htm => ⟨by have := ht t htm; omega, ?_⟩⟩
    obtain ⟨l0, hl0, rfl⟩ := fNodes_mem W nodes.length (Nat.le_refl _) l hl
    obtain ⟨t0, ht0, rfl⟩ := List.mem_map.1 htm
    exact hf1 l0 hl0 t0 ht0
  · have := hgT.outs v hv
    omega
theorem flowLess {x : S25} {bl : List (List Int)} (h : FlowI x) (hb : BlI bl) : ∃ k, recouplaw21_FlowLess.f k x.f0 x.f1 x.f2 bl = some true := by
  refine Ev.rounds ?_
  have hrm := rmay_ev x.f0 x.f1 x.f2 (by have := h.1.1; omega) (fun l hl => by have := (h.2.1.2 l hl).1; omega)
  by_cases c : mayB x.f0 x.f1 x.f2 = true
  · have hg := good_of_may c
    obtain ⟨W, hF, hT⟩ := flow_Trim_ev hg c
    rw [c] at hrm
    have hrs := runs_of h hb.1 (bli_bytes hb) c
    have hmT := less_may c hF
    have hgT := good_of_may hmT
    have hIT := less_flowI c hF hrs.f1
    have hi := fIns_rank x.f0 W x.f0.length (Nat.le_refl _)
    have hl := fNodes_rank x.f0 x.f1 W x.f1.length
    obtain ⟨V, hV, hT2⟩ := flow_Trim_ev hgT hmT
    have hall := all_T c hF hV
    have hlT : ∀ l ∈ fNodes x.f0 x.f1 W (x.f0.length + x.f1.length), l.length ≤ 4160 := fun l hl => by
      obtain ⟨n, hn, e⟩ := List.getElem_of_mem hl
      have hlen := hgT.tlen n hn
      rw [e] at hlen
      exact hlen
    have hlF : ∀ l ∈ x.f1, l.length ≤ 4160 := fun l hl => by
      obtain ⟨n, hn, e⟩ := List.getElem_of_mem hl
      have hlen := hg.tlen n hn
      rw [e] at hlen
      exact hlen
    have e1 : fIns (fIns x.f0 W x.f0.length) V (fIns x.f0 W x.f0.length).length = fIns x.f0 W x.f0.length := by
      rw [fIns_all _ _ (Nat.le_refl _) (fun k hk => hall k (by omega)), List.take_length]
    have e2 : fNodes (fIns x.f0 W x.f0.length) (fNodes x.f0 x.f1 W (x.f0.length + x.f1.length)) V ((fIns x.f0 W x.f0.length).length + (fNodes x.f0 x.f1 W (x.f0.length + x.f1.length)).length) = fNodes x.f0 x.f1 W (x.f0.length + x.f1.length) := by
      rw [fNodes_all hgT (fun k hk => hall k (by omega)) _ (Nat.le_refl _), List.take_length]
    have e3 : fOuts (fOuts x.f2 W) V = fOuts x.f2 W := fOuts_all hall _ (fun o ho => by
      have := hgT.outs o ho
      omega)
    rw [e1, e2, e3] at hT2
    have hN := hg.nN
    have hNT := hgT.nN
    have hc1 := flow_Cost_ev x.f0 x.f1 x.f2 (by omega) (fun l hl => by have := hlF l hl; omega)
    have hc2 := flow_Cost_ev (fIns x.f0 W x.f0.length) (fNodes x.f0 x.f1 W (x.f0.length + x.f1.length)) (fOuts x.f2 W) (by omega) (fun l hl => by have := hlT l hl; omega)
    rw [costB, if_pos c, costN_eq x.f1 0 0 hlF (by omega) (by omega) (by omega) (by omega)] at hc1
    rw [costB, if_pos hmT, costN_eq _ 0 0 hlT (by omega) (by omega) (by omega) (by omega)] at hc2
    have hcl := cost_less x.f0 x.f1 W x.f1.length (Nat.le_refl _)
    rw [List.take_length] at hcl
    have hn0 := hgT.n0
    have hnO := hgT.nO
    have hrmT := rmay_ev (fIns x.f0 W x.f0.length) (fNodes x.f0 x.f1 W (x.f0.length + x.f1.length)) (fOuts x.f2 W) (by omega) (fun l hl => by have := hlT l hl; omega)
    rw [hmT] at hrmT
    have hsame := rsame_ev (fIns x.f0 W x.f0.length) (fNodes x.f0 x.f1 W (x.f0.length + x.f1.length)) (fOuts x.f2 W) (fIns x.f0 W x.f0.length) (fNodes x.f0 x.f1 W (x.f0.length + x.f1.length)) (fOuts x.f2 W) (by omega) (fun l hl => by have := hlT l hl; omega) (by omega) (by omega)
    rw [sameB_refl] at hsame
    have hlen : (fOuts x.f2 W).length = x.f2.length := List.length_map _
    refine Ev.congr (fun k => rfl) (Ev.bind hT (Ev.bind hrm ?_))
    simp only [if_true]
    refine Ev.bind hT2 (Ev.bind hc1 (Ev.bind hc2 ?_))
    simp only [if_true]
    refine Ev.bind hrmT ?_
    simp only [if_true]
    refine Ev.bind hsame ?_
    simp only [if_true]
    have n1 : ¬ ((0 : Int) + (sumN (fNodes x.f0 x.f1 W (x.f0.length + x.f1.length)) : Int) > 0 + (sumN x.f1 : Int)) := by omega
    have n2 : ¬ ((0 : Int) + (prodN (fNodes x.f0 x.f1 W (x.f0.length + x.f1.length)) : Int) > 0 + (prodN x.f1 : Int)) := by omega
    simp only [n1, n2, if_false, hlen, bne_self_eq_false]
    have hR1 := flow_Run_ev h hb.1 (bli_bytes hb)
    have hR2 := flow_Run_ev hIT hb.1 (bli_bytes hb)
    refine Ev.step (f := fun k => (flow_Run.f k x.f0 x.f1 x.f2 bl).bind fun bt730 => ((flow_Run.f k (fIns x.f0 W x.f0.length) (fNodes x.f0 x.f1 W (x.f0.length + x.f1.length)) (fOuts x.f2 W) bl).bind fun bt734 => ((recouplaw21_anchored.f k).bind fun t738 => (if t738 = true then (if bt730.2 = 0 then (if bt734.2 = 0 then ((recoupref21_Blocks.f k bt730.1 bt734.1).bind fun t739 => (some t739)) else (some false)) else (some true)) else (some false))))) (fun k => ?_) (Ev.bind hR1 (Ev.bind hR2 (Ev.bind anchored_ev ?_)))
    · simp only [recouplaw21_FlowLess.j0]
      rw [if_neg (by simp)]
    simp only [if_true]
    by_cases e0 : (runB x.f0 x.f1 x.f2 bl).2 = 0
    · simp only [e0, if_true]
      have eR : runB x.f0 x.f1 x.f2 bl = runV x.f0 x.f1 x.f2 bl := by unfold runB; rw [if_pos c]
      rw [eR] at e0
      obtain ⟨ha, hany, hv⟩ := runV_ok e0
      have hanyT : (fIns x.f0 W x.f0.length).any (fun v => decide (v ≥ (bl.length : Int))) = false := List.any_eq_false.2 (fun v hv => by
        obtain ⟨u, h0, hu, hm, rfl⟩ := fIns_mem x.f0 W _ v hv
        rw [rd_get x.f0 u hu]
        exact List.any_eq_false.1 hany _ (List.getElem_mem hu))
      have eT : runB (fIns x.f0 W x.f0.length) (fNodes x.f0 x.f1 W (x.f0.length + x.f1.length)) (fOuts x.f2 W) bl = ((runB x.f0 x.f1 x.f2 bl).1, 0) := by
        rw [eR, hv]
        unfold runB runV frontV
        rw [if_pos hmT, if_pos ha, hanyT, if_neg (by simp), out_T c hF bl]
      rw [eT]
      simp only [if_true]
      exact Ev.bind (blocks_refl _ (by have := runB_len (ins := x.f0) (nodes := x.f1) (outs := x.f2) bl; omega)) (Ev.now _)
    · simp only [e0, if_false]
      exact Ev.now _
  · have hc : mayB x.f0 x.f1 x.f2 = false := by simpa using c
    rw [hc] at hrm
    have hf := flow_May_ev x.f0 x.f1 x.f2 (fun l hl => by have := (h.2.1.2 l hl).1; omega)
    rw [hc] at hf
    refine Ev.congr (fun k => rfl) (Ev.bind (a := (([] : List Int), ([] : List (List (S64))), ([] : List Int), 2)) (Ev.congr (fun k => rfl) (Ev.bind hf (Ev.now _))) (Ev.bind hrm (Ev.bind anchored_ev (Ev.now _))))
end Go.Proofs.Ytfnhnniecclleaa.Spec
