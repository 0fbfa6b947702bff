/- flow.Of's plain law: what it makes of a matrix, that it may be, and that its matrix is the one it was made of. -/
import Derived.Test.YtfnhnniecclleaaApp
import Derived.Test.YtfnhnniecclleaaPAx0
import Derived.Test.YtfnhnniecclleaaPAx3
import Derived.Test.YtfnhnniecclleaaPAx6
import Derived.Test.YtfnhnniecclleaaPAx7
import Derived.Test.YtfnhnniecclleaaPAx14
import Derived.Test.YtfnhnniecclleaaPAx16
import Derived.Test.YtfnhnniecclleaaPAx17
import Derived.Test.YtfnhnniecclleaaPAx2
import Derived.Test.YtfnhnniecclleaaPAx13
import Derived.Test.YtfnhnniecclleaaPAx21
namespace Go.Proofs.Ytfnhnniecclleaa.Spec
open Go.RowKit Go.Proofs.Ytfnhnniecclleaa.PA Go.Proofs.YtfnhnniecclleaaW.PrintWords Go.Proofs.YtfnhnniecclleaaW.PrintLast Go.Proofs.YtfnhnniecclleaaW.PrintMore
set_option linter.unusedVariables false
set_option linter.unusedSimpArgs false
set_option linter.unusedSectionVars false
def rightB (r c : Int) (d : List Int) : Bool := decide (0 ≤ r) && decide (r ≤ 64) && decide (0 ≤ c) && decide (c ≤ 64) && decide ((d.length : Int) = r * c)
theorem rright_ev (r c : Int) (d : List Int) : recoupref03_Right.f r c d = some (rightB r c d) := by
  unfold recoupref03_Right.f rightB
  by_cases h1 : r ≥ 0
  · by_cases h2 : r ≤ 64
    · by_cases h3 : c ≥ 0
      · by_cases h4 : c ≤ 64
        · rw [if_pos h1, if_pos h2, if_pos h3, if_pos h4, decide_eq_true (show 0 ≤ r from h1), decide_eq_true h2, decide_eq_true (show 0 ≤ c from h3), decide_eq_true h4]
          obtain ⟨a, rfl⟩ : ∃ a : Nat, (a : Int) = r := ⟨r.toNat, by omega⟩
          obtain ⟨b, rfl⟩ : ∃ b : Nat, (b : Int) = c := ⟨c.toNat, by omega⟩
          have hm : a * b ≤ 64 * 64 := Nat.mul_le_mul (by omega) (by omega)
          rw [← Int.natCast_mul, w64 (by omega) (by omega)]
          simp only [Bool.true_and]
          rfl
        · rw [if_pos h1, if_pos h2, if_pos h3, if_neg h4, decide_eq_false h4]; simp
      · rw [if_pos h1, if_pos h2, if_neg h3, decide_eq_false (show ¬ 0 ≤ c from h3)]; simp
    · rw [if_pos h1, if_neg h2, decide_eq_false h2]; simp
  · rw [if_neg h1, decide_eq_false (show ¬ 0 ≤ r from h1)]; simp
def chop (c : Nat) : Nat → List Int → List (List Int)
  | 0, _ => []
  | r + 1, d => d.take c :: chop c r (d.drop c)
theorem chop_len (c : Nat) : ∀ (r : Nat) (d : List Int), (chop c r d).length = r
  | 0, _ => rfl
  | r + 1, d => by rw [chop, List.length_cons, chop_len c r]
theorem chop_ok (c : Nat) : ∀ (r : Nat) (d : List Int), d.length = r * c → byteL d → OkB c (chop c r d)
  | 0, _, _, _ => fun x hx => by cases hx
  | r + 1, d, h, hb => fun x hx => by
    rw [Nat.succ_mul] at h
    rcases List.mem_cons.1 (show x ∈ d.take c :: chop c r (d.drop c) from hx) with rfl | hx
    · exact ⟨by rw [List.length_take]; omega, fun y hy => hb y (List.mem_of_mem_take hy)⟩
    · exact chop_ok c r (d.drop c) (by rw [List.length_drop]; omega) (fun y hy => hb y (List.mem_of_mem_drop hy)) x hx
theorem chop_flat (c : Nat) : ∀ (r : Nat) (d : List Int), d.length = r * c → flatN (chop c r d) = d
  | 0, d, h => by
    have : d = [] := List.eq_nil_of_length_eq_zero (by omega)
    subst this; rfl
  | r + 1, d, h => by
    rw [Nat.succ_mul] at h
    have ih := chop_flat c r (d.drop c) (by rw [List.length_drop]; omega)
    unfold flatN at ih ⊢
    rw [chop, List.flatten_cons, ih, List.take_append_drop]
theorem flat_sub {c : Nat} (rows : List (List Int)) (hr : OkB c rows) (i : Nat) (hi : i < rows.length) : ((flatN rows).take ((i + 1) * c)).drop (i * c) = rows[i] := by
  have hrow := (hr _ (List.getElem_mem hi)).1
  apply List.ext_getElem?
  intro j
  rw [List.getElem?_drop, List.getElem?_take]
  by_cases h : j < c
  · rw [if_pos (by rw [Nat.succ_mul]; omega)]
    exact flat_get rows hr i j hi h
  · rw [if_neg (by rw [Nat.succ_mul]; omega), List.getElem?_eq_none (by omega)]
theorem flat_rd {c : Nat} (rows : List (List Int)) (hr : OkB c rows) (i j : Nat) (hi : i < rows.length) (hj : j < c) : rd (flatN rows) ((i * c + j : Nat) : Int) = rd rows[i] (j : Int) := by
  unfold rd
  rw [Int.toNat_natCast, Int.toNat_natCast, List.getD_eq_getElem?_getD, List.getD_eq_getElem?_getD, flat_get rows hr i j hi hj]
section
variable {r c : Nat} (rows : List (List Int)) (hr : OkB c rows) (hrl : rows.length = r) (hr64 : r ≤ 64) (hc64 : c ≤ 64)
def used (j : Nat) : Bool := rows.any fun row => decide (rd row (j : Int) ≠ 0)
def insU : Nat → List Int
  | 0 => []
  | j + 1 => if used rows j = true then insU j ++ [(j : Int)] else insU j
theorem insU_len_le : ∀ j, (insU rows j).length ≤ j
  | 0 => Nat.le_refl _
  | j + 1 => by
    have := insU_len_le j
    rw [insU]; split
    · rw [List.length_append, List.length_singleton]; omega
    · omega
def tR (row : List Int) : Nat → List S64
  | 0 => []
  | j + 1 => if rd row (j : Int) = 0 then tR row j else tR row j ++ [(⟨((insU rows j).length : Int), rd row (j : Int)⟩ : S64)]
theorem tR_len (row : List Int) : ∀ j, (tR rows row j).length ≤ j
  | 0 => Nat.le_refl _
  | j + 1 => by
    have := tR_len row j
    rw [tR]; split
    · omega
    · rw [List.length_append, List.length_singleton]; omega
theorem used_of (row : List Int) (hm : row ∈ rows) (j : Nat) (h : rd row (j : Int) ≠ 0) : used rows j = true := List.any_eq_true.2 ⟨row, hm, decide_eq_true h⟩
def ofOuts (n r : Nat) : List Int := (List.range r).map fun i => ((n + i : Nat) : Int)
def ofNodes (c : Nat) : List (List S64) := rows.map fun row => tR rows row c
include hr hrl hr64 hc64
set_option maxHeartbeats 2000000 in
theorem of_l3 (at_ : List Int) (hal : at_.length = c) (hat : ∀ j, j < c → used rows j = true → rd at_ (j : Int) = ((insU rows j).length : Int)) (i : Nat) (hi : i < rows.length) (X0 : List Int) (hX0 : X0.length ≤ 64) (X1 : List (List S64)) (hX1 : X1.length ≤ 64) (X2 : List Int) (hX2 : X2.length ≤ 64) (R : List Int × List (List S64) × List Int × Int)
    (hR : Ev (fun k => flow_Of.l2 k at_ (r : Int) ((i + 1 : Nat) : Int) (r : Int) (c : Int) (flatN rows) X0 (X1 ++ [tR rows rows[i] c]) (X2 ++ [((X0.length + i : Nat) : Int)])) R) (d : Nat) : ∀ (j : Nat), j + d = c →
    Ev (fun k => flow_Of.l3 k at_ (i : Int) (tR rows rows[i] j) (r : Int) (i : Int) rows[i] (rows[i].length : Int) (j : Int) (r : Int) (c : Int) (flatN rows) X0 X1 X2) R := by
  have hrow := hr _ (List.getElem_mem hi)
  induction d with
  | zero =>
    intro j hj
    have ej : j = c := by omega
    subst ej
    refine Ev.step (fun k => ?_) hR
    have hW_ : (wrap64 ((i : Int) + 1) = ((i + 1 : Nat) : Int)) ∧ (wrap64 ((X0.length : Int) + (i : Int)) = ((X0.length + i : Nat) : Int)) := ⟨(by rw [w64 (by omega) (by omega), i1]), (by rw [w64 (by omega) (by omega)]; omega)⟩
    obtain ⟨hw1, hw2⟩ := hW_
    simp only [flow_Of.l3, hw1, hw2]
    clear hw1 hw2
    rw [if_neg (by omega), if_pos (by omega), if_pos (by omega)]
  | succ d ih =>
    intro j hj
    have hnext := ih (j + 1) (by omega)
    have htl := tR_len rows rows[i] j
    by_cases e : rd rows[i] (j : Int) = 0
    · rw [tR, if_pos e] at hnext
      refine Ev.step (fun k => ?_) hnext
      have hw : wrap64 ((j : Int) + 1) = ((j + 1 : Nat) : Int) := by rw [w64 (by omega) (by omega), i1]
      simp only [flow_Of.l3, hw]
      clear hw
      rw [if_pos (by omega), if_pos (by omega), if_pos (by omega), if_pos e]
    · rw [tR, if_neg e] at hnext
      refine Ev.step (fun k => ?_) hnext
      have hw : wrap64 ((j : Int) + 1) = ((j + 1 : Nat) : Int) := by rw [w64 (by omega) (by omega), i1]
      simp only [flow_Of.l3, hw]
      clear hw
      rw [if_pos (by omega), if_pos (by omega), if_pos (by omega), if_neg e, if_pos (by omega), if_pos (by omega), hat j (by omega) (used_of rows rows[i] (List.getElem_mem hi) j e)]
set_option maxHeartbeats 2000000 in
theorem of_l2 (at_ : List Int) (hal : at_.length = c) (hat : ∀ j, j < c → used rows j = true → rd at_ (j : Int) = ((insU rows j).length : Int)) (X0 : List Int) (hX0 : X0.length ≤ 64) (d : Nat) : ∀ (i : Nat), i + d = r →
    Ev (fun k => flow_Of.l2 k at_ (r : Int) (i : Int) (r : Int) (c : Int) (flatN rows) X0 ((rows.take i).map fun row => tR rows row c) (ofOuts X0.length i)) (X0, ofNodes rows c, ofOuts X0.length r, 0) := by
  induction d with
  | zero =>
    intro i hi
    have ei : i = r := by omega
    subst ei
    rw [List.take_of_length_le (by omega)]
    refine Ev.step (fun k => ?_) (Ev.now _)
    simp only [flow_Of.l2]
    rw [if_neg (by omega)]
    rfl
  | succ d ih =>
    intro i hi
    have hil : i < rows.length := by omega
    have hrow := hr _ (List.getElem_mem hil)
    have hnext := ih (i + 1) (by omega)
    have e1 : (rows.take (i + 1)).map (fun row => tR rows row c) = (rows.take i).map (fun row => tR rows row c) ++ [tR rows rows[i] c] := by rw [List.take_succ_eq_append_getElem hil, List.map_append]; rfl
    have e2 : ofOuts X0.length (i + 1) = ofOuts X0.length i ++ [((X0.length + i : Nat) : Int)] := by unfold ofOuts; rw [List.range_succ, List.map_append]; rfl
    rw [e1, e2] at hnext
    have h3 := of_l3 rows hr hrl hr64 hc64 at_ hal hat i hil X0 hX0 ((rows.take i).map fun row => tR rows row c) (by simp; omega) (ofOuts X0.length i) (by simp [ofOuts]; omega) _ hnext c 0 (by omega)
    have hm1 : i * c ≤ 63 * 64 := Nat.mul_le_mul (by omega) hc64
    have hm2 : (i + 1) * c = i * c + c := Nat.succ_mul i c
    have hlen := flat_len rows hr
    have hm3 : (i + 1) * c ≤ rows.length * c := Nat.mul_le_mul_right c (by omega)
    refine Ev.step (fun k => ?_) h3
    have hW_ : (wrap64 ((i : Int) * (c : Int)) = ((i * c : Nat) : Int)) ∧ (wrap64 (wrap64 ((i : Int) + 1) * (c : Int)) = (((i + 1) * c : Nat) : Int)) := ⟨(by rw [← Int.natCast_mul, w64 (by omega) (by omega)]), (by rw [w64 (x := (i : Int) + 1) (by omega) (by omega), i1, ← Int.natCast_mul, w64 (by omega) (by omega)])⟩
    obtain ⟨hw1, hw2⟩ := hW_
    simp only [flow_Of.l2, hw1, hw2, Int.toNat_natCast, flat_sub rows hr i hil]
    clear hw1 hw2
    rw [if_pos (by omega), if_pos (by omega), if_pos (by omega), if_pos (by omega)]
    rfl
set_option maxHeartbeats 2000000 in
theorem of_l1 (at_ : List Int) (hal : at_.length = c) (j : Nat) (hj : j < c) (R : List Int × List (List S64) × List Int × Int) (X0 : List Int) (hX0 : X0.length ≤ 64) (d : Nat) : ∀ (i : Nat), i + d = r → (∀ i' (h : i' < rows.length), i' < i → rd rows[i'] (j : Int) = 0) →
    (used rows j = true → Ev (fun k => flow_Of.l0 k (at_.set j (X0.length : Int)) (c : Int) ((j + 1 : Nat) : Int) (r : Int) (c : Int) (flatN rows) (X0 ++ [(j : Int)])) R) →
    (used rows j = false → Ev (fun k => flow_Of.l0 k at_ (c : Int) ((j + 1 : Nat) : Int) (r : Int) (c : Int) (flatN rows) X0) R) →
    Ev (fun k => flow_Of.l1 k at_ (j : Int) (c : Int) (j : Int) (r : Int) (i : Int) (r : Int) (c : Int) (flatN rows) X0) R := by
  induction d with
  | zero =>
    intro i hi hz _ hR
    have hu : used rows j = false := List.any_eq_false.2 (fun row hm => by
      obtain ⟨i', h, rfl⟩ := List.getElem_of_mem hm
      simpa using hz i' h (by omega))
    refine Ev.step (fun k => ?_) (hR hu)
    have hwj : wrap64 ((j : Int) + 1) = ((j + 1 : Nat) : Int) := by rw [w64 (by omega) (by omega), i1]
    simp only [flow_Of.l1, hwj]
    clear hwj
    rw [if_neg (by omega)]
  | succ d ih =>
    intro i hi hz hT hF
    have hil : i < rows.length := by omega
    have hm1 : i * c ≤ 63 * 64 := Nat.mul_le_mul (by omega) hc64
    have hm2 : (i + 1) * c = i * c + c := Nat.succ_mul i c
    have hlen := flat_len rows hr
    have hm3 : (i + 1) * c ≤ rows.length * c := Nat.mul_le_mul_right c (by omega)
    have hrd := flat_rd rows hr i j hil hj
    by_cases e : rd rows[i] (j : Int) = 0
    · refine Ev.step (fun k => ?_) (ih (i + 1) (by omega) (fun i' h h' => by
        by_cases c0 : i' = i
        · subst c0; exact e
        · exact hz i' h (by omega)) hT hF)
      have hW_ : (wrap64 ((j : Int) + 1) = ((j + 1 : Nat) : Int)) ∧ (wrap64 (wrap64 ((i : Int) * (c : Int)) + (j : Int)) = ((i * c + j : Nat) : Int)) ∧ (wrap64 ((i : Int) + 1) = ((i + 1 : Nat) : Int)) := ⟨(by rw [w64 (by omega) (by omega), i1]), (by rw [← Int.natCast_mul, w64 (x := ((i * c : Nat) : Int)) (by omega) (by omega), w64 (by omega) (by omega)]; omega), (by rw [w64 (by omega) (by omega), i1])⟩
      obtain ⟨hwj, hw, hwi⟩ := hW_
      simp only [flow_Of.l1, hw, hrd, hwi, hwj]
      clear hw hwi hwj
      rw [if_pos (by omega), if_pos (by omega), if_pos (by omega), if_pos e]
    · refine Ev.step (fun k => ?_) (hT (used_of rows rows[i] (List.getElem_mem hil) j e))
      have hW_ : (wrap64 ((j : Int) + 1) = ((j + 1 : Nat) : Int)) ∧ (wrap64 (wrap64 ((i : Int) * (c : Int)) + (j : Int)) = ((i * c + j : Nat) : Int)) ∧ (wrap64 ((i : Int) + 1) = ((i + 1 : Nat) : Int)) := ⟨(by rw [w64 (by omega) (by omega), i1]), (by rw [← Int.natCast_mul, w64 (x := ((i * c : Nat) : Int)) (by omega) (by omega), w64 (by omega) (by omega)]; omega), (by rw [w64 (by omega) (by omega), i1])⟩
      obtain ⟨hwj, hw, hwi⟩ := hW_
      simp only [flow_Of.l1, hw, hrd, hwi, hwj]
      clear hw hwi hwj
      rw [if_pos (by omega), if_pos (by omega), if_pos (by omega), if_neg e, if_pos (by omega), if_pos (by omega), if_pos (by omega), Int.toNat_natCast]
set_option maxHeartbeats 2000000 in
theorem of_l0 (d : Nat) : ∀ (j : Nat) (at_ : List Int), j + d = c → at_.length = c → (∀ j', j' < j → used rows j' = true → rd at_ (j' : Int) = ((insU rows j').length : Int)) →
    Ev (fun k => flow_Of.l0 k at_ (c : Int) (j : Int) (r : Int) (c : Int) (flatN rows) (insU rows j)) (insU rows c, ofNodes rows c, ofOuts (insU rows c).length r, 0) := by
  have hlc := insU_len_le rows c
  induction d with
  | zero =>
    intro j at_ hj hal hat
    have ej : j = c := by omega
    subst ej
    refine Ev.step (fun k => ?_) (of_l2 rows hr hrl hr64 hc64 at_ hal hat (insU rows j) (by omega) r 0 (by omega))
    simp only [flow_Of.l0]
    rw [if_neg (by omega)]
    rfl
  | succ d ih =>
    intro j at_ hj hal hat
    have hlj := insU_len_le rows j
    refine Ev.step (fun k => ?_) (of_l1 rows hr hrl hr64 hc64 at_ hal j (by omega) _ (insU rows j) (by omega) r 0 (by omega) (fun i' h h' => absurd h' (by omega)) (fun hu => ?_) (fun hu => ?_))
    · simp only [flow_Of.l0]
      rw [if_pos (by omega)]
      rfl
    · have hnext := ih (j + 1) (at_.set j ((insU rows j).length : Int)) (by omega) (by rw [List.length_set, hal]) (fun j' h' hu' => by
        have hs : rd (at_.set j ((insU rows j).length : Int)) (j' : Int) = if j = j' then ((insU rows j).length : Int) else rd at_ (j' : Int) := by
          unfold rd
          simp only [Int.toNat_natCast]
          rw [List.getD_eq_getElem?_getD, List.getElem?_set, List.getD_eq_getElem?_getD]
          by_cases e : j = j'
          · subst e; rw [if_pos rfl, if_pos (by omega), if_pos rfl]; rfl
          · rw [if_neg e, if_neg e]
        rw [hs]
        by_cases e : j = j'
        · subst e; rw [if_pos rfl]
        · rw [if_neg e]; exact hat j' (by omega) hu')
      rw [insU, if_pos hu] at hnext
      exact hnext
    · have hnext := ih (j + 1) at_ (by omega) hal (fun j' h' hu' => by
        by_cases e : j = j'
        · subst e; rw [hu] at hu'; cases hu'
        · exact hat j' (by omega) hu')
      rw [insU, if_neg (by rw [hu]; simp)] at hnext
      exact hnext
end
def ofV (r c : Int) (d : List Int) : List Int × List (List S64) × List Int × Int :=
  if rightB r c d = true then (insU (chop c.toNat r.toNat d) c.toNat, ofNodes (chop c.toNat r.toNat d) c.toNat, ofOuts (insU (chop c.toNat r.toNat d) c.toNat).length r.toNat, 0) else ([], [], [], 3)
theorem right_is {r c : Int} {d : List Int} (h : rightB r c d = true) : ∃ a b : Nat, (a : Int) = r ∧ (b : Int) = c ∧ a ≤ 64 ∧ b ≤ 64 ∧ d.length = a * b := by
  unfold rightB at h
  simp only [Bool.and_eq_true, decide_eq_true_eq] at h
  obtain ⟨⟨⟨⟨h1, h2⟩, h3⟩, h4⟩, h5⟩ := h
  obtain ⟨a, rfl⟩ : ∃ a : Nat, (a : Int) = r := ⟨r.toNat, by omega⟩
  obtain ⟨b, rfl⟩ : ∃ b : Nat, (b : Int) = c := ⟨c.toNat, by omega⟩
  rw [← Int.natCast_mul] at h5
  exact ⟨a, b, rfl, rfl, by omega, by omega, by omega⟩
theorem flow_Of_ev (r c : Int) (d : List Int) (hb : byteL d) : Ev (fun k => flow_Of.f k r c d) (ofV r c d) := by
  have hR : matrix_Right.f r c d = some (rightB r c d) := by
    have h0 := rright_ev r c d
    unfold recoupref03_Right.f at h0
    unfold matrix_Right.f matrix_side.f
    rw [← h0]
    by_cases h1 : r ≥ 0 <;> by_cases h2 : r ≤ 64 <;> by_cases h3 : c ≥ 0 <;> by_cases h4 : c ≤ 64 <;> simp [h1, h2, h3, h4]
  refine Ev.congr (f := fun k => if rightB r c d = true then (if 0 ≤ c then (if (c : Int).toNat ≤ 35184372088832 then (flow_Of.l0 k (List.replicate (c : Int).toNat 0) c 0 r c d ([] : List Int)) else (none)) else (none)) else (some (([] : List Int), ([] : List (List (S64))), ([] : List Int), 3))) (fun k => ?_) ?_
  · simp only [flow_Of.f, hR, Option.bind_some]
  · unfold ofV
    by_cases hr : rightB r c d = true
    · obtain ⟨a, b, rfl, rfl, ha, hb2, hl⟩ := right_is hr
      simp only [hr, if_true, Int.toNat_natCast]
      have hok := chop_ok b a d hl hb
      have hfl := chop_flat b a d hl
      have h0 := of_l0 (r := a) (c := b) (chop b a d) hok (chop_len b a d) ha hb2 b 0 (List.replicate b 0) (by omega) (by simp) (fun j' h => absurd h (by omega))
      rw [hfl] at h0
      refine Ev.congr (fun k => ?_) h0
      rw [if_pos (by omega), if_pos (by omega)]
      rfl
    · simp only [hr]
      exact Ev.now _
/-! it may be -/
section
variable {c : Nat} (rows : List (List Int))
variable (hok : OkB c rows) (hc : c ≤ 64) (hr : rows.length ≤ 64)
include hok hc hr
/-! its matrix is the one it was made of -/
def part (row : List Int) (j : Nat) : List Int := (List.range c).map fun k => if k < j then rd row (k : Int) else 0
end
theorem like_refl (a b : Int) (l : List Int) : recoupref03_Like.f a b l a b l = some true := by
  unfold recoupref03_Like.f recoupref01_Same.f
  rw [if_pos rfl, if_pos rfl, strOfNums_self]; rfl
end Go.Proofs.Ytfnhnniecclleaa.Spec
