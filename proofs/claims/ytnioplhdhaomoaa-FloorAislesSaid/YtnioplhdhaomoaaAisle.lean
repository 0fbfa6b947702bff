/- FloorAisles' plain law: the reference's walked cells are the spiral's; the sets are made of the same tests. -/
import Derived.Test.YtnioplhdhaomoaaPAx6
namespace Go.Proofs.Ytnioplhdhaomoaa.Spec
open Go.RowKit Go.Proofs.Ytnioplhdhaomoaa.PA Go.Proofs.YtnioplhdhaomoaaW.PrintWords Go.Proofs.YtnioplhdhaomoaaW.PrintLast Go.Proofs.YtnioplhdhaomoaaW.PrintMore
set_option linter.unusedVariables false
set_option linter.unusedSimpArgs false
theorem w64 {x : Int} (h0 : -9223372036854775808 ≤ x) (h1 : x < 9223372036854775808) : wrap64 x = x := by unfold wrap64; omega
theorem u64 {x : Int} (h0 : 0 ≤ x) (h1 : x < 18446744073709551616) : IntKind.u64.wrap x = x := by
  show x % 18446744073709551616 = x
  omega
theorem i1 (i : Nat) : ((i : Int) + 1) = ((i + 1 : Nat) : Int) := by omega
theorem cell_all : ∀ i : Nat, i < 64 → recoupref15_Cell.f 100 (i : Int) = some (cl i) := by decide +kernel
theorem cell_ev (i : Nat) (h : i < 64) : Ev (fun k => recoupref15_Cell.f k (i : Int)) (cl i) := Ev.of (fun k => recoupref15_Cell.mono _ k) (cell_all i h)
theorem cl_bd (i : Nat) (h : i < 64) : -4 ≤ (cl i).1 ∧ (cl i).1 ≤ 4 ∧ -4 ≤ (cl i).2 ∧ (cl i).2 ≤ 4 := by
  have h1 := cl_in _ (cl_mem i h)
  have a := r4_bd h1.1
  have b := r4_bd h1.2
  exact ⟨a.1, a.2, b.1, b.2⟩
theorem drop_end (N i : Nat) (h : N ≤ i) : (zsl N).drop i = [] := List.drop_eq_nil_of_le (by rw [zsl_len]; exact h)
theorem raisle_l0 (N D : Nat) (hN : N ≤ 64) (hD : D < N) (d : Nat) : ∀ (i : Nat) (s : Int), i + d = N → Ev (fun k => recoupref15_Aisle.l0 k (N : Int) s (cl D).1 (i : Int)) (setF (fun z => reEq z ((st D).zr, (st D).zi)) ((zsl N).drop i) i s, 0) := by
  induction d with
  | zero =>
    intro i s h
    rw [drop_end N i (by omega), setF]
    refine Ev.step (fun k => ?_) (Ev.now _)
    simp only [recoupref15_Aisle.l0]
    rw [if_neg (by omega)]
  | succ d ih =>
    intro i s h
    rw [zsl_drop N i (by omega), setF, re_st i D (by omega) (by omega)]
    refine Ev.step (f := fun k => (recoupref15_Cell.f k (i : Int)).bind fun bt => (if bt.1 = (cl D).1 then (recoupref15_Aisle.l0 k (N : Int) (Go.bits .or .u64 s (shl .u64 1 (i : Int))) (cl D).1 ((i + 1 : Nat) : Int)) else (recoupref15_Aisle.l0 k (N : Int) s (cl D).1 ((i + 1 : Nat) : Int)))) (fun k => ?_) (Ev.bind (cell_ev i (by omega)) ?_)
    · simp only [recoupref15_Aisle.l0]
      rw [if_pos (by omega)]
      congr 1
      funext bt
      rw [u64 (by omega) (by omega), w64 (by omega) (by omega), i1, if_pos (show (0 : Int) ≤ (i : Int) by omega)]
    · by_cases c : (cl i).1 = (cl D).1
      · simp only [c, if_true, decide_true]
        exact ih (i + 1) _ (by omega)
      · simp only [c, if_false, decide_false]
        exact ih (i + 1) _ (by omega)
theorem raisle_ev (n d : Int) : Ev (fun k => recoupref15_Aisle.f k n d) (thoseF reEq n d) := by
  have hj : Ev (fun k => recoupref15_Aisle.j0 k n d true) (0, 2) := Ev.step (fun k => by simp only [recoupref15_Aisle.j0, if_true]) (Ev.now _)
  unfold thoseF
  by_cases c : n < 1 ∨ n > 64 ∨ d < 0 ∨ d ≥ n
  · rw [if_pos c]
    refine Ev.congr (fun k => ?_) hj
    unfold recoupref15_Aisle.f
    by_cases c1 : n < 1
    · rw [if_pos c1]
    · by_cases c2 : n > 64
      · rw [if_neg c1, if_pos c2]
      · by_cases c3 : d < 0
        · rw [if_neg c1, if_neg c2, if_pos c3]
        · rw [if_neg c1, if_neg c2, if_neg c3, decide_eq_true (by omega)]
  · rw [if_neg c]
    obtain ⟨N, rfl⟩ : ∃ N : Nat, (N : Int) = n := ⟨n.toNat, by omega⟩
    obtain ⟨D, rfl⟩ : ∃ D : Nat, (D : Int) = d := ⟨d.toNat, by omega⟩
    have ez : zAt (D : Int) = ((st D).zr, (st D).zi) := by unfold zAt; rw [Int.toNat_natCast]
    rw [ez, Int.toNat_natCast]
    have h0 := raisle_l0 N D (by omega) (by omega) N 0 0 (by omega)
    rw [List.drop_zero] at h0
    refine Ev.step (f := fun k => (recoupref15_Cell.f k (D : Int)).bind fun bt => recoupref15_Aisle.l0 k (N : Int) 0 bt.1 0) (fun k => ?_) (Ev.bind (cell_ev D (by omega)) h0)
    unfold recoupref15_Aisle.f
    rw [if_neg (by omega), if_neg (by omega), if_neg (by omega), decide_eq_false (by omega)]
    simp only [recoupref15_Aisle.j0, Bool.false_eq_true, if_false]
theorem size_f (x : Int) (h0 : -1000 ≤ x) (h1 : x ≤ 1000) : recoupref15_size.f x = some (sz x) := by
  unfold recoupref15_size.f sz
  by_cases c : x < 0
  · rw [if_pos c, if_pos c, w64 (by omega) (by omega)]
  · rw [if_neg c, if_neg c]
theorem sz_bd (x : Int) (h0 : -1000 ≤ x) (h1 : x ≤ 1000) : 0 ≤ sz x ∧ sz x ≤ 1000 := by unfold sz; split <;> omega
theorem sz_swap (x y : Int) : sz (x - y) = sz (y - x) := by unfold sz; split <;> split <;> omega
theorem near_st (r : Int) (i j : Nat) (hi : i < 64) (hj : j < 64) : nearB r ((st i).zr, (st i).zi) ((st j).zr, (st j).zi) = decide (sz ((cl i).1 - (cl j).1) + sz ((cl i).2 - (cl j).2) ≤ r) := by
  unfold nearB
  rw [apart_st i j hi hj]; rfl
theorem rnear_l0 (r : Int) (N D : Nat) (hN : N ≤ 64) (hD : D < N) (d : Nat) : ∀ (i : Nat) (s : Int), i + d = N → Ev (fun k => recoupref15_Near.l0 k (N : Int) r s (cl D).1 (cl D).2 (i : Int)) (setF (fun z => nearB r z ((st D).zr, (st D).zi)) ((zsl N).drop i) i s, 0) := by
  induction d with
  | zero =>
    intro i s h
    rw [drop_end N i (by omega), setF]
    refine Ev.step (fun k => ?_) (Ev.now _)
    simp only [recoupref15_Near.l0]
    rw [if_neg (by omega)]
  | succ d ih =>
    intro i s h
    have b1 := cl_bd i (by omega)
    have b2 := cl_bd D (by omega)
    rw [zsl_drop N i (by omega), setF, near_st r i D (by omega) (by omega)]
    refine Ev.step (f := fun k => (recoupref15_Cell.f k (i : Int)).bind fun bt => ((recoupref15_size.f (wrap64 ((cl D).1 - bt.1))).bind fun t171 => ((recoupref15_size.f (wrap64 ((cl D).2 - bt.2))).bind fun t172 => (if (wrap64 (t171 + t172)) ≤ r then (recoupref15_Near.l0 k (N : Int) r (Go.bits .or .u64 s (shl .u64 1 (i : Int))) (cl D).1 (cl D).2 ((i + 1 : Nat) : Int)) else (recoupref15_Near.l0 k (N : Int) r s (cl D).1 (cl D).2 ((i + 1 : Nat) : Int)))))) (fun k => ?_) (Ev.bind (cell_ev i (by omega)) ?_)
    · simp only [recoupref15_Near.l0]
      rw [if_pos (by omega), u64 (by omega) (by omega), w64 (x := (i : Int) + 1) (by omega) (by omega), i1, if_pos (show (0 : Int) ≤ (i : Int) by omega)]
    · have z1 := sz_bd ((cl i).1 - (cl D).1) (by omega) (by omega)
      have z2 := sz_bd ((cl i).2 - (cl D).2) (by omega) (by omega)
      rw [w64 (x := (cl D).1 - (cl i).1) (by omega) (by omega), w64 (x := (cl D).2 - (cl i).2) (by omega) (by omega), size_f _ (by omega) (by omega), size_f _ (by omega) (by omega)]
      simp only [Option.bind_some]
      rw [sz_swap (cl D).1, sz_swap (cl D).2, w64 (by omega) (by omega)]
      by_cases c : sz ((cl i).1 - (cl D).1) + sz ((cl i).2 - (cl D).2) ≤ r
      · simp only [c, if_true, decide_true]
        exact ih (i + 1) _ (by omega)
      · simp only [c, if_false, decide_false]
        exact ih (i + 1) _ (by omega)
theorem rnear_ev (n d r : Int) : Ev (fun k => recoupref15_Near.f k n d r) (if r < 0 then (0, 2) else thoseF (nearB r) n d) := by
  have hj : Ev (fun k => recoupref15_Near.j0 k n d r true) (0, 2) := Ev.step (fun k => by simp only [recoupref15_Near.j0, if_true]) (Ev.now _)
  refine Ev.congr (fun k => rfl) (Ev.bind (raisle_ev n d) ?_)
  by_cases c : n < 1 ∨ n > 64 ∨ d < 0 ∨ d ≥ n
  · have e1 : thoseF reEq n d = (0, 2) := if_pos c
    have e2 : thoseF (nearB r) n d = (0, 2) := if_pos c
    rw [e1, e2]
    simp only [ite_self]
    exact hj
  · have e1 : thoseF reEq n d = (setF (fun z => reEq z (zAt d)) (zsl n.toNat) 0 0, 0) := if_neg c
    have e2 : thoseF (nearB r) n d = (setF (fun z => nearB r z (zAt d)) (zsl n.toNat) 0 0, 0) := if_neg c
    rw [e1, e2]
    simp only [if_true]
    by_cases c2 : r < 0
    · rw [if_pos c2, decide_eq_true c2]; exact hj
    · rw [if_neg c2, decide_eq_false c2]
      obtain ⟨N, rfl⟩ : ∃ N : Nat, (N : Int) = n := ⟨n.toNat, by omega⟩
      obtain ⟨D, rfl⟩ : ∃ D : Nat, (D : Int) = d := ⟨d.toNat, by omega⟩
      have ez : zAt (D : Int) = ((st D).zr, (st D).zi) := by unfold zAt; rw [Int.toNat_natCast]
      rw [ez, Int.toNat_natCast]
      have h0 := rnear_l0 r N D (by omega) (by omega) N 0 0 (by omega)
      rw [List.drop_zero] at h0
      refine Ev.step (f := fun k => (recoupref15_Cell.f k (D : Int)).bind fun bt => recoupref15_Near.l0 k (N : Int) r 0 bt.1 bt.2 0) (fun k => ?_) (Ev.bind (cell_ev D (by omega)) h0)
      simp only [recoupref15_Near.j0, Bool.false_eq_true, if_false]
theorem floorAisles (n d r : Int) : ∃ k, recouplaw15_FloorAisles.f k n d r = some true := by
  refine Ev.rounds (Ev.congr (f := fun k => (recoupref15_Aisle.f k n d).bind fun bt175 => ((recoupref15_Near.f k n d r).bind fun bt179 => (if (thoseF reEq n d).1 = bt175.1 then (if (thoseF reEq n d).2 = bt175.2 then (if (if r < 0 then ((0 : Int), (2 : Int)) else thoseF (nearB r) n d).1 = bt179.1 then (some ((if r < 0 then ((0 : Int), (2 : Int)) else thoseF (nearB r) n d).2 == bt179.2)) else (some false)) else (some false)) else (some false)))) (fun k => rfl) (Ev.bind (raisle_ev n d) (Ev.bind (rnear_ev n d r) ?_)))
  simp only [if_true, beq_self_eq_true]
  exact Ev.now _
end Go.Proofs.Ytnioplhdhaomoaa.Spec
