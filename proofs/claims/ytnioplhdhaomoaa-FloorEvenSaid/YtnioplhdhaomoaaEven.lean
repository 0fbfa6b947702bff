/- FloorEven's plain law: each block is in its home's set alone; rows and spreads are even. -/
import Derived.Test.YtnioplhdhaomoaaSet
import Derived.Test.YtnioplhdhaomoaaHomes
import Derived.Test.YtnioplhdhaomoaaPAx4
namespace Go.Proofs.Ytnioplhdhaomoaa.Spec
open Go.RowKit Go.Proofs.Ytnioplhdhaomoaa.PA Go.Proofs.YtnioplhdhaomoaaW.PrintWords Go.Proofs.YtnioplhdhaomoaaW.PrintLast Go.Proofs.YtnioplhdhaomoaaW.PrintMore
set_option linter.unusedVariables false
set_option linter.unusedSimpArgs false
/-! how many -/
def cnt (p : Nat → Bool) : Nat → Nat
  | 0 => 0
  | n + 1 => cnt p n + if p n = true then 1 else 0
theorem cnt_congr (p q : Nat → Bool) : ∀ n, (∀ b, b < n → p b = q b) → cnt p n = cnt q n
  | 0, _ => rfl
  | n + 1, h => by rw [cnt, cnt, cnt_congr p q n (fun b hb => h b (by omega)), h n (by omega)]
theorem cnt_le (p : Nat → Bool) : ∀ n, cnt p n ≤ n
  | 0 => Nat.le_refl _
  | n + 1 => by have := cnt_le p n; rw [cnt]; split <;> omega
theorem cnt_mod (D d : Nat) (hd : d < D) : ∀ B, cnt (fun b => decide (b % D = d)) B = (B + (D - 1 - d)) / D
  | 0 => by rw [cnt, Nat.zero_add, Nat.div_eq_of_lt (by omega)]
  | B + 1 => by
    have hr := Nat.mod_lt B (show 0 < D by omega)
    rw [cnt, cnt_mod D d hd B, show B + 1 + (D - 1 - d) = B + (D - 1 - d) + 1 from by omega, Nat.succ_div]
    congr 1
    have e : (B + (D - 1 - d) + 1) % D = (B % D + (D - d)) % D := by rw [Nat.mod_add_mod]; congr 1; omega
    by_cases c : B % D = d
    · have : D ∣ B + (D - 1 - d) + 1 := Nat.dvd_of_mod_eq_zero (by rw [e, show B % D + (D - d) = D from by omega, Nat.mod_self])
      rw [if_pos (by simpa using c), if_pos this]
    · have : ¬ D ∣ B + (D - 1 - d) + 1 := fun h => by
        have h0 := Nat.mod_eq_zero_of_dvd h
        rw [e] at h0
        by_cases c2 : d ≤ B % D
        · rw [show B % D + (D - d) = D + (B % D - d) from by omega, Nat.add_mod_left, Nat.mod_eq_of_lt (by omega)] at h0
          omega
        · rw [Nat.mod_eq_of_lt (by omega)] at h0
          omega
      rw [if_neg (by simpa using c), if_neg this]
theorem even_mod (D d B : Nat) (hd : d < D) : B / D ≤ cnt (fun b => decide (b % D = d)) B ∧ cnt (fun b => decide (b % D = d)) B ≤ B / D + 1 := by
  rw [cnt_mod D d hd B]
  constructor
  · exact Nat.div_le_div_right (by omega)
  · have h := Nat.div_le_div_right (c := D) (show B + (D - 1 - d) ≤ B + D by omega)
    rw [Nat.add_div_right B (by omega)] at h
    exact h
theorem cnt_lt (B D x : Nat) (hD : 0 < D) : ∀ n, cnt (fun b => decide (b * D < x * B)) n = min n ((x * B + (D - 1)) / D)
  | 0 => by simp [cnt]
  | n + 1 => by
    rw [cnt, cnt_lt B D x hD n]
    have h : n * D < x * B ↔ n + 1 ≤ (x * B + (D - 1)) / D := by
      rw [Nat.le_div_iff_mul_le hD, Nat.succ_mul]
      omega
    by_cases c : n * D < x * B
    · have := h.1 c
      rw [if_pos (by simpa using c)]; omega
    · have : ¬ n + 1 ≤ (x * B + (D - 1)) / D := fun hh => c (h.2 hh)
      rw [if_neg (by simpa using c)]; omega
theorem cnt_step (f : Nat → Nat) (d : Nat) : ∀ n, cnt (fun b => decide (f b < d + 1)) n = cnt (fun b => decide (f b < d)) n + cnt (fun b => decide (f b = d)) n
  | 0 => rfl
  | n + 1 => by
    rw [cnt, cnt, cnt, cnt_step f d n]
    by_cases c1 : f n < d
    · simp only [c1, decide_true, if_true, show f n < d + 1 from by omega, show ¬ f n = d from by omega, decide_false, Bool.false_eq_true, if_false]; omega
    · by_cases c2 : f n = d
      · simp only [c2, decide_true, if_true, show d < d + 1 from by omega, show ¬ d < d from by omega, decide_false, Bool.false_eq_true, if_false]; omega
      · simp only [c1, c2, show ¬ f n < d + 1 from by omega, decide_false, Bool.false_eq_true, if_false]; omega
theorem even_div (D d B : Nat) (hd : d < D) (hB : 0 < B) : B / D ≤ cnt (fun b => decide (b * D / B = d)) B ∧ cnt (fun b => decide (b * D / B = d)) B ≤ B / D + 1 := by
  have hD : 0 < D := by omega
  have hc : ∀ x, cnt (fun b => decide (b * D / B < x)) B = min B ((x * B + (D - 1)) / D) := fun x => by
    rw [← cnt_lt B D x hD B]
    exact cnt_congr _ _ B (fun b _ => decide_eq_decide.2 (Nat.div_lt_iff_lt_mul hB))
  have hs := cnt_step (fun b => b * D / B) d B
  rw [hc, hc] at hs
  have hle : ∀ x, x ≤ D → (x * B + (D - 1)) / D ≤ B := fun x hx => by
    have h1 : x * B + (D - 1) < D * (B + 1) := by
      have := Nat.mul_le_mul_right B hx
      rw [Nat.mul_succ]; omega
    have := Nat.div_lt_of_lt_mul h1
    omega
  have h1 := hle (d + 1) (by omega)
  have h2 := hle d (by omega)
  rw [Nat.min_eq_right h1, Nat.min_eq_right h2, show (d + 1) * B + (D - 1) = (d * B + (D - 1)) + B from by rw [Nat.succ_mul]; omega, Nat.add_div hD] at hs
  have h3 : (if D ≤ (d * B + (D - 1)) % D + B % D then 1 else 0) ≤ 1 := by split <;> omega
  omega
/-! a list's places of a number, as a set -/
def blkV (x : Int) : List Int → Nat → BitVec 64 → BitVec 64
  | [], _, v => v
  | h :: r, i, v => blkV x r (i + 1) (if h = x then v ||| one i else v)
theorem blkF_vi (x : Int) : ∀ (l : List Int) (i : Nat) (v : BitVec 64), i + l.length ≤ 64 → blkF x l i (vi v) = vi (blkV x l i v)
  | [], i, v, _ => rfl
  | h :: r, i, v, hl => by
    simp only [List.length_cons] at hl
    rw [blkF, blkV, shl_vi i (by omega), or_vi]
    by_cases c : h = x
    · rw [if_pos c, if_pos c, blkF_vi x r (i + 1) _ (by omega)]
    · rw [if_neg c, if_neg c, blkF_vi x r (i + 1) _ (by omega)]
theorem blkV_bit (x : Int) : ∀ (l : List Int) (i : Nat) (v : BitVec 64) (j : Nat), j < 64 → (blkV x l i v).getLsbD j = (v.getLsbD j || (decide (i ≤ j) && decide (l[j - i]? = some x)))
  | [], i, v, j, _ => by simp [blkV]
  | h :: r, i, v, j, hj => by
    rw [blkV, blkV_bit x r (i + 1) _ j hj]
    by_cases e : i = j
    · subst e
      rw [decide_eq_false (by omega : ¬ i + 1 ≤ i), decide_eq_true (Nat.le_refl i)]
      by_cases c : h = x
      · rw [if_pos c, BitVec.getLsbD_or, one_bit i i hj]; simp [c]
      · rw [if_neg c]; simp [c]
    · have e1 : (if h = x then v ||| one i else v).getLsbD j = v.getLsbD j := by
        by_cases c : h = x
        · rw [if_pos c, BitVec.getLsbD_or, one_bit i j hj, decide_eq_false e, Bool.or_false]
        · rw [if_neg c]
      rw [e1]
      by_cases c : i ≤ j
      · rw [decide_eq_true c, decide_eq_true (by omega : i + 1 ≤ j), show j - i = (j - (i + 1)) + 1 from by omega, List.getElem?_cons_succ]
      · rw [decide_eq_false c, decide_eq_false (by omega : ¬ i + 1 ≤ j)]; simp
def blk (l : List Int) (x : Int) : BitVec 64 := blkV x l 0 0#64
theorem blk_bit (l : List Int) (x : Int) (j : Nat) (hj : j < 64) : (blk l x).getLsbD j = decide (l[j]? = some x) := by
  unfold blk
  rw [blkV_bit x l 0 _ j hj, Nat.sub_zero]; simp
theorem blocksV_vi (l : List Int) (x : Int) (h : l.length ≤ 64) : blocksV l x = (vi (blk l x), 0) := by
  unfold blocksV
  rw [if_neg (by omega)]
  have := blkF_vi x l 0 0#64 (by omega)
  rw [vi_zero] at this
  rw [this]; rfl
theorem listV_cnt (v : BitVec 64) : ∀ n, (listV v n).length = cnt (fun i => v.getLsbD i) n
  | 0 => rfl
  | n + 1 => by
    rw [listV_succ, cnt]
    by_cases c : v.getLsbD n = true
    · rw [if_pos c, if_pos c, List.length_append, listV_cnt v n]; rfl
    · rw [if_neg c, if_neg c, listV_cnt v n]; rfl
/-- How many of a list are a number. -/
def nOf (l : List Int) (x : Int) : Nat := cnt (fun i => decide (l[i]? = some x)) 64
theorem nOf_list (l : List Int) (x : Int) : (listV (blk l x) 64).length = nOf l x := by
  rw [listV_cnt]
  exact cnt_congr _ _ 64 (fun i hi => blk_bit l x i hi)
theorem nOf_le (l : List Int) (x : Int) : nOf l x ≤ 64 := cnt_le _ 64
def sumN (l : List Int) : Nat → Nat
  | 0 => 0
  | d + 1 => sumN l d + nOf l (d : Int)
theorem cnt_cut (p : Nat → Bool) (m : Nat) : ∀ n, m ≤ n → (∀ b, m ≤ b → p b = false) → cnt p n = cnt p m
  | 0, h, _ => by rw [Nat.le_zero.1 h]
  | n + 1, h, hp => by
    by_cases e : m = n + 1
    · rw [e]
    · rw [cnt, cnt_cut p m n (by omega) hp, hp n (by omega)]; rfl
theorem sum_cnt (l : List Int) (hl : l.length ≤ 64) (g : Nat → Nat) (hg : ∀ i (h : i < l.length), l[i] = (g i : Int)) : ∀ D, sumN l D = cnt (fun i => decide (i < l.length) && decide (g i < D)) 64
  | 0 => by
    rw [sumN]
    have : ∀ n, cnt (fun i => decide (i < l.length) && decide (g i < 0)) n = 0 := fun n => by
      induction n with
      | zero => rfl
      | succ n ih => rw [cnt, ih]; simp
    rw [this]
  | D + 1 => by
    rw [sumN, sum_cnt l hl g hg D]
    have : ∀ n, cnt (fun i => decide (i < l.length) && decide (g i < D + 1)) n = cnt (fun i => decide (i < l.length) && decide (g i < D)) n + cnt (fun i => decide (l[i]? = some (D : Int))) n := fun n => by
      induction n with
      | zero => rfl
      | succ n ih =>
        rw [cnt, cnt, cnt, ih]
        by_cases c : n < l.length
        · have e : (l[n]? = some (D : Int)) ↔ g n = D := by
            rw [List.getElem?_eq_getElem c, hg n c, Option.some.injEq]; omega
          simp only [c, decide_true, Bool.true_and, e]
          by_cases c1 : g n < D
          · simp only [c1, show g n < D + 1 from by omega, show ¬ g n = D from by omega, decide_true, decide_false, if_true, Bool.false_eq_true, if_false]; omega
          · by_cases c2 : g n = D
            · simp only [c2, show D < D + 1 from by omega, show ¬ D < D from by omega, decide_true, decide_false, if_true, Bool.false_eq_true, if_false]; omega
            · simp only [c1, c2, show ¬ g n < D + 1 from by omega, decide_false, Bool.false_eq_true, if_false]; omega
        · rw [List.getElem?_eq_none (by omega)]
          simp only [c, decide_false, Bool.false_and, Bool.false_eq_true, if_false, reduceCtorEq]; omega
    rw [this]; rfl
theorem sum_all (l : List Int) (hl : l.length ≤ 64) (g : Nat → Nat) (hg : ∀ i (h : i < l.length), l[i] = (g i : Int)) (D : Nat) (hD : ∀ i, i < l.length → g i < D) : sumN l D = l.length := by
  rw [sum_cnt l hl g hg D, cnt_cut _ l.length 64 hl (fun b hb => by simp; omega)]
  have : ∀ n, n ≤ l.length → cnt (fun i => decide (i < l.length) && decide (g i < D)) n = n := fun n => by
    induction n with
    | zero => exact fun _ => rfl
    | succ n ih =>
      intro h
      rw [cnt, ih (by omega), decide_eq_true (by omega : n < l.length), decide_eq_true (hD n (by omega))]; rfl
  exact this _ (Nat.le_refl _)
theorem nOf_map (g : Nat → Nat) (B x : Nat) (hB : B ≤ 64) (l : List Int) (hl : l.length = B) (hg : ∀ i (h : i < l.length), l[i] = (g i : Int)) : nOf l (x : Int) = cnt (fun b => decide (g b = x)) B := by
  unfold nOf
  rw [cnt_cut _ B 64 hB (fun b hb => by rw [List.getElem?_eq_none (by omega)]; rfl)]
  exact cnt_congr _ _ B (fun b hb => decide_eq_decide.2 (by rw [List.getElem?_eq_getElem (by omega), hg b (by omega), Option.some.injEq]; omega))
/-! the law's loops -/
theorem even_l1 (l : List Int) (hl : l.length ≤ 64) (x5 x6 x7 : Int) (y x11 : Int) (a0 a1 a2 a3 : Int) (l4 : List Int) (R : Bool)
    (hR : Ev (fun k => recouplaw15_FloorEven.l0 k l (wrap64 (x5 + x11)) (mn x6 x11) (mx x7 x11) (wrap64 (y + 1)) a0 a1 a2 a3 l4) R) (d : Nat) : ∀ (i : Nat), i + d = l.length →
    Ev (fun k => recouplaw15_FloorEven.l1 k l x5 x6 x7 y (vi (blk l y)) x11 (i : Int) a0 a1 a2 a3 l4) R := by
  induction d with
  | zero =>
    intro i h
    refine Ev.step (fun k => ?_) hR
    simp only [recouplaw15_FloorEven.l1]
    rw [if_neg (by omega)]
  | succ d ih =>
    intro i h
    have hi : i < l.length := by omega
    refine Ev.step (fun k => ?_) (ih (i + 1) (by omega))
    simp only [recouplaw15_FloorEven.l1]
    rw [if_pos (by omega), has_f _ i (by omega), blk_bit l y i (by omega)]
    simp only [Option.bind_some]
    have e : (decide (l[i]? = some y) != (rd l (i : Int) == y)) = false := by
      rw [List.getElem?_eq_getElem hi, rd_get l i hi]
      by_cases c : l[i] = y
      · simp [c]
      · simp [c]
    rw [if_pos (by omega), e, if_neg (by simp), w64 (by omega) (by omega), i1]
theorem even_l0 (l : List Int) (hl : l.length ≤ 64) (D : Nat) (hD : D ≤ 64) (a0 a1 a3 : Int) (l4 : List Int) (hs : (sumN l D : Int) = a1) (q : Nat) (hq : q ≤ 64) (hev : a0 ≤ 2 → ∀ x : Nat, x < D → q ≤ nOf l (x : Int) ∧ nOf l (x : Int) ≤ q + 1) (d : Nat) : ∀ (i : Nat) (least most : Int), i + d = D → (0 ≤ least ∧ least ≤ 64 ∧ 0 ≤ most ∧ most ≤ 65) → (a0 ≤ 2 → (q : Int) ≤ least ∧ most ≤ (q : Int) + 1) → (sumN l i ≤ 64 * i) →
    Ev (fun k => recouplaw15_FloorEven.l0 k l (sumN l i : Int) least most (i : Int) a0 a1 (D : Int) a3 l4) true := by
  induction d with
  | zero =>
    intro i least most h hb he hsb
    obtain rfl : i = D := by omega
    refine Ev.step (fun k => ?_) (Ev.now _)
    simp only [recouplaw15_FloorEven.l0]
    rw [if_neg (by omega)]
    simp only [recouplaw15_anchored.f, Option.bind_some, if_true]
    rw [if_pos hs]
    by_cases c : a0 > 2
    · rw [if_pos c]
    · rw [if_neg c, w64 (by omega) (by omega), decide_eq_true (by have := he (by omega); omega)]
  | succ d ih =>
    intro i least most h hb he hsb
    have hn := nOf_le l (i : Int)
    have hnx := ih (i + 1) (mn least (nOf l (i : Int) : Int)) (mx most (nOf l (i : Int) : Int)) (by omega) (by unfold mn mx; split <;> split <;> omega) (fun h2 => by
      have h3 := he h2
      have h4 := hev h2 i (by omega)
      unfold mn mx; split <;> split <;> omega) (by rw [sumN]; omega)
    have h1 := even_l1 l hl (sumN l i : Int) least most (i : Int) (nOf l (i : Int) : Int) a0 a1 (D : Int) a3 l4 true (by
      rw [w64 (x := (sumN l i : Int) + _) (by omega) (by omega), w64 (x := (i : Int) + 1) (by omega) (by omega), i1, show (sumN l i : Int) + (nOf l (i : Int) : Int) = ((sumN l (i + 1) : Nat) : Int) from by rw [sumN]; omega]
      exact hnx) l.length 0 (by omega)
    refine Ev.step (f := fun k => (floor_Blocks.f k l (i : Int)).bind fun bt154 => ((recoupref06_List.f k bt154.1).bind fun t156 => (if bt154.2 = 0 then (recouplaw15_FloorEven.l1 k l (sumN l i : Int) least most (i : Int) bt154.1 (t156.length : Int) 0 a0 a1 (D : Int) a3 l4) else (some false)))) (fun k => ?_) ?_
    · simp only [recouplaw15_FloorEven.l0]
      rw [if_pos (by omega)]
    · have hbk := blocks_ev l (i : Int)
      rw [blocksV_vi l _ hl] at hbk
      refine Ev.bind hbk (Ev.bind (list_ev _) ?_)
      simp only [if_true, nOf_list]
      exact h1
theorem home_nat (a0 a1 a2 a3 : Int) (l4 : List Int) (hok : Ok4 a0 a1 a2 a3 l4) : ∃ g : Nat → Nat, (∀ b : Nat, (b : Int) < a1 → homeF a0 a1 a2 a3 l4 (b : Int) = (g b : Int) ∧ (g b : Int) < a2) ∧ (a0 = 1 → ∀ b, g b = b % a2.toNat) ∧ (a0 = 2 → ∀ b, g b = b * a2.toNat / a1.toNat) := by
  have h1 : 1 ≤ a1 ∧ a1 ≤ 64 ∧ 1 ≤ a2 ∧ a2 ≤ 64 ∧ 1 ≤ a0 ∧ a0 ≤ 4 := hok.1
  obtain ⟨D, rfl⟩ : ∃ D : Nat, (D : Int) = a2 := ⟨a2.toNat, by omega⟩
  obtain ⟨B, rfl⟩ : ∃ B : Nat, (B : Int) = a1 := ⟨a1.toNat, by omega⟩
  by_cases c1 : a0 = 1
  · refine ⟨fun b => b % D, fun b hb => ⟨?_, ?_⟩, fun _ b => by rw [Int.toNat_natCast], fun h => by omega⟩
    · unfold homeF
      rw [if_pos c1, Int.tmod_eq_emod_of_nonneg (by omega), Int.natCast_emod]
    · have := Nat.mod_lt b (show 0 < D by omega)
      show ((b % D : Nat) : Int) < (D : Int)
      generalize b % D = z at this ⊢
      omega
  · by_cases c2 : a0 = 2
    · have hbd : ∀ b : Nat, (b : Int) < (B : Int) → b * D ≤ 64 * 64 := fun b hb => Nat.mul_le_mul (by omega) (by omega)
      refine ⟨fun b => b * D / B, fun b hb => ⟨?_, ?_⟩, fun h => by omega, fun _ b => by rw [Int.toNat_natCast, Int.toNat_natCast]⟩
      · have hm := hbd b hb
        have hdv := Nat.div_le_self (b * D) B
        unfold homeF
        rw [if_neg c1, if_pos c2, ← Int.natCast_mul, w64 (x := ((b * D : Nat) : Int)) (by omega) (by omega), Int.tdiv_eq_ediv_of_nonneg (by omega), ← Int.natCast_ediv]
        show wrap64 ((b * D / B : Nat) : Int) = ((b * D / B : Nat) : Int)
        generalize b * D / B = z at hdv ⊢
        exact w64 (by omega) (by omega)
      · have : b * D / B < D := (Nat.div_lt_iff_lt_mul (by omega)).2 (by
          rw [Nat.mul_comm D B]
          exact Nat.mul_lt_mul_of_pos_right (by omega) (by omega))
        show ((b * D / B : Nat) : Int) < (D : Int)
        generalize b * D / B = z at this ⊢
        omega
    · by_cases c3 : a0 = 3
      · have h3 : 1 ≤ a3 ∧ a3 ≤ 2147483647 := by
          rcases hok.2.1 with h | h
          · exact h.2
          · exact absurd c3 h.1
        obtain ⟨S, rfl⟩ : ∃ S : Nat, (S : Int) = a3 := ⟨a3.toNat, by omega⟩
        refine ⟨fun b => b * S % D, fun b hb => ⟨?_, ?_⟩, fun h => by omega, fun h => by omega⟩
        · have hm : b * S ≤ 64 * 2147483647 := Nat.mul_le_mul (by omega) (by omega)
          unfold homeF
          rw [if_neg c1, if_neg c2, if_pos c3, ← Int.natCast_mul, w64 (x := ((b * S : Nat) : Int)) (by omega) (by omega), Int.tmod_eq_emod_of_nonneg (by omega), Int.natCast_emod]
        · have := Nat.mod_lt (b * S) (show 0 < D by omega)
          show ((b * S % D : Nat) : Int) < (D : Int)
          generalize b * S % D = z at this ⊢
          omega
      · have hp : (l4.length : Int) = (B : Int) ∧ ∀ v ∈ l4, 0 ≤ v ∧ v < (D : Int) := by
          rcases hok.2.2 with h | h
          · exact absurd (by omega : a0 = 4) h.1
          · exact ⟨h.2.1, inR_mem _ l4 h.2.2⟩
        refine ⟨fun b => (rd l4 (b : Int)).toNat, fun b hb => ?_, fun h => by omega, fun h => by omega⟩
        have hil : b < l4.length := by omega
        have hv := hp.2 _ (List.getElem_mem hil)
        unfold homeF
        rw [if_neg c1, if_neg c2, if_neg c3]
        show rd l4 (b : Int) = (((rd l4 (b : Int)).toNat : Nat) : Int) ∧ (((rd l4 (b : Int)).toNat : Nat) : Int) < (D : Int)
        rw [rd_get l4 b hil]
        omega
theorem floorEven (a0 a1 a2 a3 : Int) (l4 : List Int) (hl : l4.length ≤ 17592186043904) : ∃ k, recouplaw15_FloorEven.f k a0 a1 a2 a3 l4 = some true := by
  refine Ev.rounds (Ev.congr (fun k => rfl) (Ev.bind (homes_ev a0 a1 a2 a3 l4 hl) ?_))
  unfold homesV
  by_cases c : Ok4 a0 a1 a2 a3 l4
  · have h1 : 1 ≤ a1 ∧ a1 ≤ 64 ∧ 1 ≤ a2 ∧ a2 ≤ 64 ∧ 1 ≤ a0 ∧ a0 ≤ 4 := c.1
    obtain ⟨g, hg, hg1, hg2⟩ := home_nat a0 a1 a2 a3 l4 c
    obtain ⟨D, rfl⟩ : ∃ D : Nat, (D : Int) = a2 := ⟨a2.toNat, by omega⟩
    obtain ⟨B, rfl⟩ : ∃ B : Nat, (B : Int) = a1 := ⟨a1.toNat, by omega⟩
    rw [Int.toNat_natCast, Int.toNat_natCast] at *
    have hlen : (homesL a0 (B : Int) (D : Int) a3 l4 B).length = B := homesL_len _ _ _ _ _ B
    have hget : ∀ i (h : i < (homesL a0 (B : Int) (D : Int) a3 l4 B).length), (homesL a0 (B : Int) (D : Int) a3 l4 B)[i] = (g i : Int) := fun i h => by
      simp only [homesL, List.getElem_map, List.getElem_range]
      exact (hg i (by omega)).1
    have hsum := sum_all _ (by omega) g hget D (fun i hi => by have := (hg i (by omega)).2; omega)
    have hevn : a0 ≤ 2 → ∀ x : Nat, x < D → B / D ≤ nOf (homesL a0 (B : Int) (D : Int) a3 l4 B) (x : Int) ∧ nOf (homesL a0 (B : Int) (D : Int) a3 l4 B) (x : Int) ≤ B / D + 1 := fun h2 x hx => by
      rw [nOf_map g B x (by omega) _ hlen hget]
      by_cases c1 : a0 = 1
      · rw [cnt_congr _ (fun b => decide (b % D = x)) B (fun b _ => by rw [hg1 c1 b])]
        exact even_mod D x B hx
      · rw [cnt_congr _ (fun b => decide (b * D / B = x)) B (fun b _ => by rw [hg2 (by omega) b])]
        exact even_div D x B hx (by omega)
    have hq : B / D ≤ 64 := Nat.le_trans (Nat.div_le_self B D) (by omega)
    generalize B / D = q at hq hevn
    have h0 := even_l0 (homesL a0 (B : Int) (D : Int) a3 l4 B) (by omega) D (by omega) a0 (B : Int) a3 l4 (by rw [hsum, hlen]) q hq hevn D 0 64 0 (by omega) (by omega) (by omega) (by simp [sumN])
    simp only [c, if_true, hlen]
    refine Ev.step (fun k => ?_) h0
    rw [if_neg (by omega), decide_eq_false (by omega)]
    simp only [recouplaw15_FloorEven.j0, Bool.false_eq_true, if_false]
    rfl
  · simp only [c, if_false]
    refine Ev.congr (fun k => ?_) (Ev.now _)
    rw [if_neg (by omega)]
    simp [recouplaw15_anchored.f]
end Go.Proofs.Ytnioplhdhaomoaa.Spec
