/- FloorParted's plain law: aisles part the domains; near is near the other way round. -/
import Derived.Test.YtnioplhdhaomoaaSet
import Derived.Test.YtnioplhdhaomoaaPAx7
namespace Go.Proofs.Ytnioplhdhaomoaa.Spec
open Go.RowKit Go.Proofs.Ytnioplhdhaomoaa.PA Go.Proofs.YtnioplhdhaomoaaW.PrintWords Go.Proofs.YtnioplhdhaomoaaW.PrintLast Go.Proofs.YtnioplhdhaomoaaW.PrintMore
set_option linter.unusedVariables false
set_option linter.unusedSimpArgs false
def aisleV (m i : Nat) : BitVec 64 := those (fun z => reEq z ((st i).zr, (st i).zi)) m
def nearV (r : Int) (m i : Nat) : BitVec 64 := those (fun z => nearB r z ((st i).zr, (st i).zi)) m
theorem zAt_nat (i : Nat) : zAt (i : Int) = ((st i).zr, (st i).zi) := by unfold zAt; rw [Int.toNat_natCast]
theorem aisle_f (m i : Nat) (hm : m ≤ 64) (hi : i < m) : floor_Aisle.f (m : Int) (i : Int) = some (vi (aisleV m i), 0) := by
  unfold floor_Aisle.f thoseF
  rw [if_neg (by omega), Int.toNat_natCast, zAt_nat, those_vi _ m hm]; rfl
theorem near_f (r : Int) (hr : 0 ≤ r) (m i : Nat) (hm : m ≤ 64) (hi : i < m) : floor_Near.f (m : Int) (i : Int) r = some (vi (nearV r m i), 0) := by
  unfold floor_Near.f thoseF
  rw [if_neg (by omega), if_neg (by omega), Int.toNat_natCast, zAt_nat, those_vi _ m hm]; rfl
theorem aisle_bit (m i j : Nat) (hi : i < 64) (hj : j < 64) : (aisleV m i).getLsbD j = (decide (j < m) && decide ((cl j).1 = (cl i).1)) := by
  unfold aisleV
  rw [those_bit _ _ _ hj, re_st j i hj hi]
theorem near_bit (r : Int) (m i j : Nat) (hi : i < 64) (hj : j < 64) : (nearV r m i).getLsbD j = (decide (j < m) && decide (sz ((cl j).1 - (cl i).1) + sz ((cl j).2 - (cl i).2) ≤ r)) := by
  unfold nearV
  rw [those_bit _ _ _ hj, near_st r j i hj hi]
theorem near_back (r : Int) (m i j : Nat) (hm : m ≤ 64) (hi : i < m) (hj : j < m) : (nearV r m i).getLsbD j = (nearV r m j).getLsbD i := by
  rw [near_bit r m i j (by omega) (by omega), near_bit r m j i (by omega) (by omega), decide_eq_true hi, decide_eq_true hj, sz_swap (cl j).1, sz_swap (cl j).2]
theorem aisle_same (m i j : Nat) (hm : m ≤ 64) (hi : i < m) (hj : j < 64) (h : (aisleV m i).getLsbD j = true) : j < m ∧ aisleV m j = aisleV m i := by
  rw [aisle_bit m i j (by omega) hj] at h
  simp only [Bool.and_eq_true, decide_eq_true_eq] at h
  refine ⟨h.1, ext64 fun k hk => ?_⟩
  rw [aisle_bit m j k hj hk, aisle_bit m i k (by omega) hk, h.2]
def sumV (m : Nat) : Nat → BitVec 64
  | 0 => 0#64
  | i + 1 => sumV m i ||| aisleV m i
theorem sum_bit (m j : Nat) (hj : j < 64) : ∀ i, i ≤ 64 → ((sumV m i).getLsbD j = true ↔ ∃ i', i' < i ∧ (aisleV m i').getLsbD j = true)
  | 0, _ => by simp [sumV]
  | i + 1, h => by
    rw [sumV, BitVec.getLsbD_or, Bool.or_eq_true, sum_bit m j hj i (by omega)]
    constructor
    · rintro (⟨i', h0, h1⟩ | h1)
      · exact ⟨i', by omega, h1⟩
      · exact ⟨i, by omega, h1⟩
    · rintro ⟨i', h0, h1⟩
      by_cases e : i' = i
      · subst e; exact .inr h1
      · exact .inl ⟨i', by omega, h1⟩
theorem sum_full (m : Nat) (hm : m ≤ 64) : sumV m m = full m := ext64 fun j hj => by
  rw [full_bit m j hj, Bool.eq_iff_iff, sum_bit m j hj m hm, decide_eq_true_eq]
  constructor
  · rintro ⟨i, hi, h⟩
    exact (aisle_same m i j hm hi hj h).1
  · intro h
    exact ⟨j, h, by rw [aisle_bit m j j hj hj, decide_eq_true h]; simp⟩
theorem within (m i : Nat) (hi : i < 64) : aisleV m i &&& ~~~(full m) = 0#64 := ext64 fun j hj => by
  rw [BitVec.getLsbD_and, BitVec.getLsbD_not, full_bit m j hj, aisle_bit m i j hi hj]
  by_cases c : j < m <;> simp [c]
theorem part_l0 (a1 a2 : Int) (m D : Nat) (hm1 : 1 ≤ m) (hm : m ≤ 64) (hD : D < m) (r : Int) (hr : 0 ≤ r) (ha1 : Int.tmod (wrap64 a1) (m : Int) = (D : Int)) (ha2 : wrap64 a2 = r) (d : Nat) : ∀ (i : Nat), i + d = m →
    Ev (fun k => recouplaw15_FloorParted.l0 k a1 a2 (m : Int) (vi (full m)) (vi (sumV m i)) (i : Int)) true := by
  induction d with
  | zero =>
    intro i h
    obtain rfl : i = m := by omega
    refine Ev.step (fun k => ?_) (Ev.now _)
    simp only [recouplaw15_FloorParted.l0]
    rw [if_neg (by omega), sum_full i hm]
    simp [recouplaw15_anchored.f]
  | succ d ih =>
    intro i h
    have hi : i < m := by omega
    have hb : (aisleV m i).getLsbD i = true := by rw [aisle_bit m i i (by omega) (by omega), decide_eq_true hi]; simp
    have hz : (Go.bits .andNot .u64 (vi (aisleV m i)) (vi (full m)) != 0) = false := by
      rw [andNot_vi, within m i (by omega), vi_zero]; rfl
    refine Ev.step (f := fun k => recouplaw15_FloorParted.j1 k a1 a2 (m : Int) (vi (full m)) (vi (sumV m i)) (i : Int) (vi (aisleV m i)) false) (fun k => ?_) ?_
    · simp only [recouplaw15_FloorParted.l0]
      rw [if_pos (by omega), aisle_f m i hm hi]
      simp only [Option.bind_some, if_true]
      rw [has_f _ i (by omega), hb, hz]
      simp only [Option.bind_some, if_true]
    have hin := listV_in (aisleV m i) i (by omega) hb
    have hne : 0 < (listV (aisleV m i) 64).length := by
      cases e : listV (aisleV m i) 64 with
      | nil => rw [e] at hin; cases hin
      | cons x y => simp
    have hmem : rd (listV (aisleV m i) 64) 0 ∈ listV (aisleV m i) 64 := by
      unfold rd
      rw [show (0 : Int).toNat = 0 from rfl, List.getD_eq_getElem?_getD, List.getElem?_eq_getElem hne]
      exact List.getElem_mem _
    obtain ⟨j, hj, hjb, hje⟩ := listV_mem _ hmem
    obtain ⟨hjm, hsame⟩ := aisle_same m i j hm hi hj hjb
    refine Ev.step (f := fun k => (recoupref06_List.f k (vi (aisleV m i))).bind fun t187 => (if 0 < (t187.length : Int) then ((floor_Aisle.f (m : Int) (rd t187 0)).bind fun bt191 => (if bt191.2 = 0 then (recouplaw15_FloorParted.j2 k a1 a2 (m : Int) (vi (full m)) (vi (sumV m i)) (i : Int) (vi (aisleV m i)) (vi (aisleV m i) != bt191.1)) else (recouplaw15_FloorParted.j2 k a1 a2 (m : Int) (vi (full m)) (vi (sumV m i)) (i : Int) (vi (aisleV m i)) true))) else (none))) (fun k => ?_) (Ev.bind (list_ev _) ?_)
    · simp only [recouplaw15_FloorParted.j1, Bool.false_eq_true, if_false]
    rw [hje, aisle_f m j hm hjm, hsame]
    have hne' : (0 : Int) < ((listV (aisleV m i) 64).length : Int) := by omega
    simp only [hne', Option.bind_some, if_true, bne_self_eq_false]
    refine Ev.step (fun k => ?_) (ih (i + 1) (by omega))
    simp only [recouplaw15_FloorParted.j2, Bool.false_eq_true, if_false]
    rw [ha2, ha1, near_f r hr m i hm hi]
    simp only [Option.bind_some]
    rw [if_neg (by omega : ¬ (m : Int) = 0), near_f r hr m D hm hD]
    simp only [Option.bind_some, if_true]
    rw [has_f _ D (by omega), has_f _ i (by omega)]
    simp only [Option.bind_some]
    rw [near_back r m i D hm hi hD, if_neg (by simp), or_vi, w64 (by omega) (by omega), i1]
    rfl
theorem wf_u8 {y : Int} (h : (Lit.int .u8 y).wf = true) : 0 ≤ y ∧ y < 256 := by
  have h2 : 0 ≤ y ∧ y ≤ 255 := by simpa [Lit.wf, IntKind.min, IntKind.max, IntKind.bits, IntKind.signed] using h
  omega
theorem floorParted (a0 a1 a2 : Int) (h0 : 0 ≤ a0 ∧ a0 < 256) (h1 : 0 ≤ a1 ∧ a1 < 256) (h2 : 0 ≤ a2 ∧ a2 < 256) : ∃ k, recouplaw15_FloorParted.f k a0 a1 a2 = some true := by
  obtain ⟨x, rfl⟩ : ∃ x : Nat, (x : Int) = a0 := ⟨a0.toNat, by omega⟩
  obtain ⟨y, rfl⟩ : ∃ y : Nat, (y : Int) = a1 := ⟨a1.toNat, by omega⟩
  have e0 : wrap64 (Int.tmod (wrap64 (x : Int)) 64 + 1) = ((x % 64 + 1 : Nat) : Int) := by
    rw [w64 (x := (x : Int)) (by omega) (by omega), Int.tmod_eq_emod_of_nonneg (by omega), w64 (by omega) (by omega)]
    omega
  have e1 : Int.tmod (wrap64 (y : Int)) ((x % 64 + 1 : Nat) : Int) = ((y % (x % 64 + 1) : Nat) : Int) := by
    rw [w64 (x := (y : Int)) (by omega) (by omega), Int.tmod_eq_emod_of_nonneg (by omega), Int.natCast_emod]
  refine Ev.rounds (Ev.congr (fun k => rfl) ?_)
  unfold recouplaw15_FloorParted.f
  rw [e0]
  exact Ev.bind (full_ev _ (by omega)) (part_l0 (y : Int) a2 (x % 64 + 1) (y % (x % 64 + 1)) (by omega) (by omega) (Nat.mod_lt _ (by omega)) a2 h2.1 e1 (w64 (by omega) (by omega)) (x % 64 + 1) 0 (by omega))
end Go.Proofs.Ytnioplhdhaomoaa.Spec
