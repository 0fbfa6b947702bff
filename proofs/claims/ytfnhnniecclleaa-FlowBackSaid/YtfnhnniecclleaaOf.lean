/- flow.Of's plain law: what it makes of a matrix, that it may be, and that its matrix is the one it was made of. -/
import Derived.Test.YtfnhnniecclleaaApp
import Derived.Test.YtfnhnniecclleaaPAx23
namespace Go.Proofs.Ytfnhnniecclleaa.Spec
open Go.RowKit Go.Proofs.Ytfnhnniecclleaa.PA Go.Proofs.YtfnhnniecclleaaW.PrintWords Go.Proofs.YtfnhnniecclleaaW.PrintLast Go.Proofs.YtfnhnniecclleaaW.PrintMore
set_option linter.unusedVariables false
set_option linter.unusedSimpArgs false
set_option linter.unusedSectionVars false
def rightB (r c : Int) (d : List Int) : Bool := decide (0 ≤ r) && decide (r ≤ 64) && decide (0 ≤ c) && decide (c ≤ 64) && decide ((d.length : Int) = r * c)
theorem rright_ev (r c : Int) (d : List Int) : recoupref03_Right.f r c d = some (rightB r c d) := by
  unfold recoupref03_Right.f rightB
  by_cases h1 : r ≥ 0
  · by_cases h2 : r ≤ 64
    · by_cases h3 : c ≥ 0
      · by_cases h4 : c ≤ 64
        · rw [if_pos h1, if_pos h2, if_pos h3, if_pos h4, decide_eq_true (show 0 ≤ r from h1), decide_eq_true h2, decide_eq_true (show 0 ≤ c from h3), decide_eq_true h4]
          obtain ⟨a, rfl⟩ : ∃ a : Nat, (a : Int) = r := ⟨r.toNat, by omega⟩
          obtain ⟨b, rfl⟩ : ∃ b : Nat, (b : Int) = c := ⟨c.toNat, by omega⟩
          have hm : a * b ≤ 64 * 64 := Nat.mul_le_mul (by omega) (by omega)
          rw [← Int.natCast_mul, w64 (by omega) (by omega)]
          simp only [Bool.true_and]
          rfl
        · rw [if_pos h1, if_pos h2, if_pos h3, if_neg h4, decide_eq_false h4]; simp
      · rw [if_pos h1, if_pos h2, if_neg h3, decide_eq_false (show ¬ 0 ≤ c from h3)]; simp
    · rw [if_pos h1, if_neg h2, decide_eq_false h2]; simp
  · rw [if_neg h1, decide_eq_false (show ¬ 0 ≤ r from h1)]; simp
def chop (c : Nat) : Nat → List Int → List (List Int)
  | 0, _ => []
  | r + 1, d => d.take c :: chop c r (d.drop c)
theorem chop_len (c : Nat) : ∀ (r : Nat) (d : List Int), (chop c r d).length = r
  | 0, _ => rfl
  | r + 1, d => by rw [chop, List.length_cons, chop_len c r]
theorem chop_ok (c : Nat) : ∀ (r : Nat) (d : List Int), d.length = r * c → byteL d → OkB c (chop c r d)
  | 0, _, _, _ => fun x hx => by cases hx
  | r + 1, d, h, hb => fun x hx => by
    rw [Nat.succ_mul] at h
    rcases List.mem_cons.1 (show x ∈ d.take c :: chop c r (d.drop c) from hx) with rfl | hx
    · exact ⟨by rw [List.length_take]; omega, fun y hy => hb y (List.mem_of_mem_take hy)⟩
    · exact chop_ok c r (d.drop c) (by rw [List.length_drop]; omega) (fun y hy => hb y (List.mem_of_mem_drop hy)) x hx
theorem chop_flat (c : Nat) : ∀ (r : Nat) (d : List Int), d.length = r * c → flatN (chop c r d) = d
  | 0, d, h => by
    have : d = [] := List.eq_nil_of_length_eq_zero (by omega)
    subst this; rfl
  | r + 1, d, h => by
    rw [Nat.succ_mul] at h
    have ih := chop_flat c r (d.drop c) (by rw [List.length_drop]; omega)
    unfold flatN at ih ⊢
    rw [chop, List.flatten_cons, ih, List.take_append_drop]
theorem flat_sub {c : Nat} (rows : List (List Int)) (hr : OkB c rows) (i : Nat) (hi : i < rows.length) : ((flatN rows).take ((i + 1) * c)).drop (i * c) = rows[i] := by
  have hrow := (hr _ (List.getElem_mem hi)).1
  apply List.ext_getElem?
  intro j
  rw [List.getElem?_drop, List.getElem?_take]
  by_cases h : j < c
  · rw [if_pos (by rw [Nat.succ_mul]; omega)]
    exact flat_get rows hr i j hi h
  · rw [if_neg (by rw [Nat.succ_mul]; omega), List.getElem?_eq_none (by omega)]
theorem flat_rd {c : Nat} (rows : List (List Int)) (hr : OkB c rows) (i j : Nat) (hi : i < rows.length) (hj : j < c) : rd (flatN rows) ((i * c + j : Nat) : Int) = rd rows[i] (j : Int) := by
  unfold rd
  rw [Int.toNat_natCast, Int.toNat_natCast, List.getD_eq_getElem?_getD, List.getD_eq_getElem?_getD, flat_get rows hr i j hi hj]
section
variable {r c : Nat} (rows : List (List Int)) (hr : OkB c rows) (hrl : rows.length = r) (hr64 : r ≤ 64) (hc64 : c ≤ 64)
def used (j : Nat) : Bool := rows.any fun row => decide (rd row (j : Int) ≠ 0)
def insU : Nat → List Int
  | 0 => []
  | j + 1 => if used rows j = true then insU j ++ [(j : Int)] else insU j
theorem insU_len_le : ∀ j, (insU rows j).length ≤ j
  | 0 => Nat.le_refl _
  | j + 1 => by
    have := insU_len_le j
    rw [insU]; split
    · rw [List.length_append, List.length_singleton]; omega
    · omega
theorem insU_mem : ∀ j, ∀ v ∈ insU rows j, 0 ≤ v ∧ v < (j : Int)
  | 0, v, h => by cases h
  | j + 1, v, h => by
    rw [insU] at h
    split at h
    · rcases List.mem_append.1 h with h | h
      · have := insU_mem j v h; omega
      · rw [List.mem_singleton.1 h]; omega
    · have := insU_mem j v h; omega
theorem insU_pre : ∀ (d j : Nat), ∃ l, insU rows (j + d) = insU rows j ++ l
  | 0, j => ⟨[], by simp⟩
  | d + 1, j => by
    obtain ⟨l, hl⟩ := insU_pre d j
    rw [← Nat.add_assoc, insU, hl]
    split
    · exact ⟨l ++ [((j + d : Nat) : Int)], by rw [List.append_assoc]⟩
    · exact ⟨l, rfl⟩
theorem insU_get (j c : Nat) (hj : j < c) (hu : used rows j = true) : (insU rows c)[(insU rows j).length]? = some (j : Int) ∧ (insU rows j).length < (insU rows c).length := by
  obtain ⟨l, hl⟩ := insU_pre rows (c - (j + 1)) (j + 1)
  rw [show j + 1 + (c - (j + 1)) = c from by omega] at hl
  rw [insU, if_pos hu] at hl
  rw [hl]
  constructor
  · rw [List.append_assoc, List.getElem?_append_right (Nat.le_refl _), Nat.sub_self]; rfl
  · simp
def tR (row : List Int) : Nat → List S64
  | 0 => []
  | j + 1 => if rd row (j : Int) = 0 then tR row j else tR row j ++ [(⟨((insU rows j).length : Int), rd row (j : Int)⟩ : S64)]
theorem tR_len (row : List Int) : ∀ j, (tR rows row j).length ≤ j
  | 0 => Nat.le_refl _
  | j + 1 => by
    have := tR_len row j
    rw [tR]; split
    · omega
    · rw [List.length_append, List.length_singleton]; omega
theorem used_of (row : List Int) (hm : row ∈ rows) (j : Nat) (h : rd row (j : Int) ≠ 0) : used rows j = true := List.any_eq_true.2 ⟨row, hm, decide_eq_true h⟩
def ofOuts (n r : Nat) : List Int := (List.range r).map fun i => ((n + i : Nat) : Int)
def ofNodes (c : Nat) : List (List S64) := rows.map fun row => tR rows row c
include hr hrl hr64 hc64
set_option maxHeartbeats 2000000 in
theorem of_l3 (at_ : List Int) (hal : at_.length = c) (hat : ∀ j, j < c → used rows j = true → rd at_ (j : Int) = ((insU rows j).length : Int)) (i : Nat) (hi : i < rows.length) (X0 : List Int) (hX0 : X0.length ≤ 64) (X1 : List (List S64)) (hX1 : X1.length ≤ 64) (X2 : List Int) (hX2 : X2.length ≤ 64) (R : List Int × List (List S64) × List Int × Int)
    (hR : Ev (fun k => flow_Of.l2 k at_ (r : Int) ((i + 1 : Nat) : Int) (r : Int) (c : Int) (flatN rows) X0 (X1 ++ [tR rows rows[i] c]) (X2 ++ [((X0.length + i : Nat) : Int)])) R) (d : Nat) : ∀ (j : Nat), j + d = c →
    Ev (fun k => flow_Of.l3 k at_ (i : Int) (tR rows rows[i] j) (r : Int) (i : Int) rows[i] (rows[i].length : Int) (j : Int) (r : Int) (c : Int) (flatN rows) X0 X1 X2) R := by
  have hrow := hr _ (List.getElem_mem hi)
  induction d with
  | zero =>
    intro j hj
    have ej : j = c := by omega
    subst ej
    refine Ev.step (fun k => ?_) hR
    have hW_ : (wrap64 ((i : Int) + 1) = ((i + 1 : Nat) : Int)) ∧ (wrap64 ((X0.length : Int) + (i : Int)) = ((X0.length + i : Nat) : Int)) := ⟨(by rw [w64 (by omega) (by omega), i1]), (by rw [w64 (by omega) (by omega)]; omega)⟩
    obtain ⟨hw1, hw2⟩ := hW_
    simp only [flow_Of.l3, hw1, hw2]
    clear hw1 hw2
    rw [if_neg (by omega), if_pos (by omega), if_pos (by omega)]
  | succ d ih =>
    intro j hj
    have hnext := ih (j + 1) (by omega)
    have htl := tR_len rows rows[i] j
    by_cases e : rd rows[i] (j : Int) = 0
    · rw [tR, if_pos e] at hnext
      refine Ev.step (fun k => ?_) hnext
      have hw : wrap64 ((j : Int) + 1) = ((j + 1 : Nat) : Int) := by rw [w64 (by omega) (by omega), i1]
      simp only [flow_Of.l3, hw]
      clear hw
      rw [if_pos (by omega), if_pos (by omega), if_pos (by omega), if_pos e]
    · rw [tR, if_neg e] at hnext
      refine Ev.step (fun k => ?_) hnext
      have hw : wrap64 ((j : Int) + 1) = ((j + 1 : Nat) : Int) := by rw [w64 (by omega) (by omega), i1]
      simp only [flow_Of.l3, hw]
      clear hw
      rw [if_pos (by omega), if_pos (by omega), if_pos (by omega), if_neg e, if_pos (by omega), if_pos (by omega), hat j (by omega) (used_of rows rows[i] (List.getElem_mem hi) j e)]
set_option maxHeartbeats 2000000 in
theorem of_l2 (at_ : List Int) (hal : at_.length = c) (hat : ∀ j, j < c → used rows j = true → rd at_ (j : Int) = ((insU rows j).length : Int)) (X0 : List Int) (hX0 : X0.length ≤ 64) (d : Nat) : ∀ (i : Nat), i + d = r →
    Ev (fun k => flow_Of.l2 k at_ (r : Int) (i : Int) (r : Int) (c : Int) (flatN rows) X0 ((rows.take i).map fun row => tR rows row c) (ofOuts X0.length i)) (X0, ofNodes rows c, ofOuts X0.length r, 0) := by
  induction d with
  | zero =>
    intro i hi
    have ei : i = r := by omega
    subst ei
    rw [List.take_of_length_le (by omega)]
    refine Ev.step (fun k => ?_) (Ev.now _)
    simp only [flow_Of.l2]
    rw [if_neg (by omega)]
    rfl
  | succ d ih =>
    intro i hi
    have hil : i < rows.length := by omega
    have hrow := hr _ (List.getElem_mem hil)
    have hnext := ih (i + 1) (by omega)
    have e1 : (rows.take (i + 1)).map (fun row => tR rows row c) = (rows.take i).map (fun row => tR rows row c) ++ [tR rows rows[i] c] := by rw [List.take_succ_eq_append_getElem hil, List.map_append]; rfl
    have e2 : ofOuts X0.length (i + 1) = ofOuts X0.length i ++ [((X0.length + i : Nat) : Int)] := by unfold ofOuts; rw [List.range_succ, List.map_append]; rfl
    rw [e1, e2] at hnext
    have h3 := of_l3 rows hr hrl hr64 hc64 at_ hal hat i hil X0 hX0 ((rows.take i).map fun row => tR rows row c) (by simp; omega) (ofOuts X0.length i) (by simp [ofOuts]; omega) _ hnext c 0 (by omega)
    have hm1 : i * c ≤ 63 * 64 := Nat.mul_le_mul (by omega) hc64
    have hm2 : (i + 1) * c = i * c + c := Nat.succ_mul i c
    have hlen := flat_len rows hr
    have hm3 : (i + 1) * c ≤ rows.length * c := Nat.mul_le_mul_right c (by omega)
    refine Ev.step (fun k => ?_) h3
    have hW_ : (wrap64 ((i : Int) * (c : Int)) = ((i * c : Nat) : Int)) ∧ (wrap64 (wrap64 ((i : Int) + 1) * (c : Int)) = (((i + 1) * c : Nat) : Int)) := ⟨(by rw [← Int.natCast_mul, w64 (by omega) (by omega)]), (by rw [w64 (x := (i : Int) + 1) (by omega) (by omega), i1, ← Int.natCast_mul, w64 (by omega) (by omega)])⟩
    obtain ⟨hw1, hw2⟩ := hW_
    simp only [flow_Of.l2, hw1, hw2, Int.toNat_natCast, flat_sub rows hr i hil]
    clear hw1 hw2
    rw [if_pos (by omega), if_pos (by omega), if_pos (by omega), if_pos (by omega)]
    rfl
set_option maxHeartbeats 2000000 in
theorem of_l1 (at_ : List Int) (hal : at_.length = c) (j : Nat) (hj : j < c) (R : List Int × List (List S64) × List Int × Int) (X0 : List Int) (hX0 : X0.length ≤ 64) (d : Nat) : ∀ (i : Nat), i + d = r → (∀ i' (h : i' < rows.length), i' < i → rd rows[i'] (j : Int) = 0) →
    (used rows j = true → Ev (fun k => flow_Of.l0 k (at_.set j (X0.length : Int)) (c : Int) ((j + 1 : Nat) : Int) (r : Int) (c : Int) (flatN rows) (X0 ++ [(j : Int)])) R) →
    (used rows j = false → Ev (fun k => flow_Of.l0 k at_ (c : Int) ((j + 1 : Nat) : Int) (r : Int) (c : Int) (flatN rows) X0) R) →
    Ev (fun k => flow_Of.l1 k at_ (j : Int) (c : Int) (j : Int) (r : Int) (i : Int) (r : Int) (c : Int) (flatN rows) X0) R := by
  induction d with
  | zero =>
    intro i hi hz _ hR
    have hu : used rows j = false := List.any_eq_false.2 (fun row hm => by
      obtain ⟨i', h, rfl⟩ := List.getElem_of_mem hm
      simpa using hz i' h (by omega))
    refine Ev.step (fun k => ?_) (hR hu)
    have hwj : wrap64 ((j : Int) + 1) = ((j + 1 : Nat) : Int) := by rw [w64 (by omega) (by omega), i1]
    simp only [flow_Of.l1, hwj]
    clear hwj
    rw [if_neg (by omega)]
  | succ d ih =>
    intro i hi hz hT hF
    have hil : i < rows.length := by omega
    have hm1 : i * c ≤ 63 * 64 := Nat.mul_le_mul (by omega) hc64
    have hm2 : (i + 1) * c = i * c + c := Nat.succ_mul i c
    have hlen := flat_len rows hr
    have hm3 : (i + 1) * c ≤ rows.length * c := Nat.mul_le_mul_right c (by omega)
    have hrd := flat_rd rows hr i j hil hj
    by_cases e : rd rows[i] (j : Int) = 0
    · refine Ev.step (fun k => ?_) (ih (i + 1) (by omega) (fun i' h h' => by
        by_cases c0 : i' = i
        · subst c0; exact e
        · exact hz i' h (by omega)) hT hF)
      have hW_ : (wrap64 ((j : Int) + 1) = ((j + 1 : Nat) : Int)) ∧ (wrap64 (wrap64 ((i : Int) * (c : Int)) + (j : Int)) = ((i * c + j : Nat) : Int)) ∧ (wrap64 ((i : Int) + 1) = ((i + 1 : Nat) : Int)) := ⟨(by rw [w64 (by omega) (by omega), i1]), (by rw [← Int.natCast_mul, w64 (x := ((i * c : Nat) : Int)) (by omega) (by omega), w64 (by omega) (by omega)]; omega), (by rw [w64 (by omega) (by omega), i1])⟩
      obtain ⟨hwj, hw, hwi⟩ := hW_
      simp only [flow_Of.l1, hw, hrd, hwi, hwj]
      clear hw hwi hwj
      rw [if_pos (by omega), if_pos (by omega), if_pos (by omega), if_pos e]
    · refine Ev.step (fun k => ?_) (hT (used_of rows rows[i] (List.getElem_mem hil) j e))
      have hW_ : (wrap64 ((j : Int) + 1) = ((j + 1 : Nat) : Int)) ∧ (wrap64 (wrap64 ((i : Int) * (c : Int)) + (j : Int)) = ((i * c + j : Nat) : Int)) ∧ (wrap64 ((i : Int) + 1) = ((i + 1 : Nat) : Int)) := ⟨(by rw [w64 (by omega) (by omega), i1]), (by rw [← Int.natCast_mul, w64 (x := ((i * c : Nat) : Int)) (by omega) (by omega), w64 (by omega) (by omega)]; omega), (by rw [w64 (by omega) (by omega), i1])⟩
      obtain ⟨hwj, hw, hwi⟩ := hW_
      simp only [flow_Of.l1, hw, hrd, hwi, hwj]
      clear hw hwi hwj
      rw [if_pos (by omega), if_pos (by omega), if_pos (by omega), if_neg e, if_pos (by omega), if_pos (by omega), if_pos (by omega), Int.toNat_natCast]
set_option maxHeartbeats 2000000 in
theorem of_l0 (d : Nat) : ∀ (j : Nat) (at_ : List Int), j + d = c → at_.length = c → (∀ j', j' < j → used rows j' = true → rd at_ (j' : Int) = ((insU rows j').length : Int)) →
    Ev (fun k => flow_Of.l0 k at_ (c : Int) (j : Int) (r : Int) (c : Int) (flatN rows) (insU rows j)) (insU rows c, ofNodes rows c, ofOuts (insU rows c).length r, 0) := by
  have hlc := insU_len_le rows c
  induction d with
  | zero =>
    intro j at_ hj hal hat
    have ej : j = c := by omega
    subst ej
    refine Ev.step (fun k => ?_) (of_l2 rows hr hrl hr64 hc64 at_ hal hat (insU rows j) (by omega) r 0 (by omega))
    simp only [flow_Of.l0]
    rw [if_neg (by omega)]
    rfl
  | succ d ih =>
    intro j at_ hj hal hat
    have hlj := insU_len_le rows j
    refine Ev.step (fun k => ?_) (of_l1 rows hr hrl hr64 hc64 at_ hal j (by omega) _ (insU rows j) (by omega) r 0 (by omega) (fun i' h h' => absurd h' (by omega)) (fun hu => ?_) (fun hu => ?_))
    · simp only [flow_Of.l0]
      rw [if_pos (by omega)]
      rfl
    · have hnext := ih (j + 1) (at_.set j ((insU rows j).length : Int)) (by omega) (by rw [List.length_set, hal]) (fun j' h' hu' => by
        have hs : rd (at_.set j ((insU rows j).length : Int)) (j' : Int) = if j = j' then ((insU rows j).length : Int) else rd at_ (j' : Int) := by
          unfold rd
          simp only [Int.toNat_natCast]
          rw [List.getD_eq_getElem?_getD, List.getElem?_set, List.getD_eq_getElem?_getD]
          by_cases e : j = j'
          · subst e; rw [if_pos rfl, if_pos (by omega), if_pos rfl]; rfl
          · rw [if_neg e, if_neg e]
        rw [hs]
        by_cases e : j = j'
        · subst e; rw [if_pos rfl]
        · rw [if_neg e]; exact hat j' (by omega) hu')
      rw [insU, if_pos hu] at hnext
      exact hnext
    · have hnext := ih (j + 1) at_ (by omega) hal (fun j' h' hu' => by
        by_cases e : j = j'
        · subst e; rw [hu] at hu'; cases hu'
        · exact hat j' (by omega) hu')
      rw [insU, if_neg (by rw [hu]; simp)] at hnext
      exact hnext
end
def ofV (r c : Int) (d : List Int) : List Int × List (List S64) × List Int × Int :=
  if rightB r c d = true then (insU (chop c.toNat r.toNat d) c.toNat, ofNodes (chop c.toNat r.toNat d) c.toNat, ofOuts (insU (chop c.toNat r.toNat d) c.toNat).length r.toNat, 0) else ([], [], [], 3)
theorem right_is {r c : Int} {d : List Int} (h : rightB r c d = true) : ∃ a b : Nat, (a : Int) = r ∧ (b : Int) = c ∧ a ≤ 64 ∧ b ≤ 64 ∧ d.length = a * b := by
  unfold rightB at h
  simp only [Bool.and_eq_true, decide_eq_true_eq] at h
  obtain ⟨⟨⟨⟨h1, h2⟩, h3⟩, h4⟩, h5⟩ := h
  obtain ⟨a, rfl⟩ : ∃ a : Nat, (a : Int) = r := ⟨r.toNat, by omega⟩
  obtain ⟨b, rfl⟩ : ∃ b : Nat, (b : Int) = c := ⟨c.toNat, by omega⟩
  rw [← Int.natCast_mul] at h5
  exact ⟨a, b, rfl, rfl, by omega, by omega, by omega⟩
theorem flow_Of_ev (r c : Int) (d : List Int) (hb : byteL d) : Ev (fun k => flow_Of.f k r c d) (ofV r c d) := by
  have hR : matrix_Right.f r c d = some (rightB r c d) := by
    have h0 := rright_ev r c d
    unfold recoupref03_Right.f at h0
    unfold matrix_Right.f matrix_side.f
    rw [← h0]
    by_cases h1 : r ≥ 0 <;> by_cases h2 : r ≤ 64 <;> by_cases h3 : c ≥ 0 <;> by_cases h4 : c ≤ 64 <;> simp [h1, h2, h3, h4]
  refine Ev.congr (f := fun k => if rightB r c d = true then (if 0 ≤ c then (if (c : Int).toNat ≤ 35184372088832 then (flow_Of.l0 k (List.replicate (c : Int).toNat 0) c 0 r c d ([] : List Int)) else (none)) else (none)) else (some (([] : List Int), ([] : List (List (S64))), ([] : List Int), 3))) (fun k => ?_) ?_
  · simp only [flow_Of.f, hR, Option.bind_some]
  · unfold ofV
    by_cases hr : rightB r c d = true
    · obtain ⟨a, b, rfl, rfl, ha, hb2, hl⟩ := right_is hr
      simp only [hr, if_true, Int.toNat_natCast]
      have hok := chop_ok b a d hl hb
      have hfl := chop_flat b a d hl
      have h0 := of_l0 (r := a) (c := b) (chop b a d) hok (chop_len b a d) ha hb2 b 0 (List.replicate b 0) (by omega) (by simp) (fun j' h => absurd h (by omega))
      rw [hfl] at h0
      refine Ev.congr (fun k => ?_) h0
      rw [if_pos (by omega), if_pos (by omega)]
      rfl
    · simp only [hr]
      exact Ev.now _
/-! it may be -/
theorem mayIns_snoc (b : Int) (hb : b < 64) : ∀ (l : List Int) (last : Int), mayIns last l = true → (∀ v ∈ l, v < b) → last < b → mayIns last (l ++ [b]) = true
  | [], last, _, _, h => by
    show mayIns last [b] = true
    unfold mayIns
    rw [if_neg (by omega), if_neg (by omega)]; rfl
  | x :: r, last, h, hv, hl => by
    unfold mayIns at h
    show mayIns last (x :: (r ++ [b])) = true
    unfold mayIns
    by_cases c1 : x ≤ last
    · rw [if_pos c1] at h; cases h
    · rw [if_neg c1] at h ⊢
      by_cases c2 : x ≥ 64
      · rw [if_pos c2] at h; cases h
      · rw [if_neg c2] at h ⊢
        exact mayIns_snoc b hb r x h (fun v hv' => hv v (by simp [hv'])) (hv x (by simp))
theorem termsOk_snoc (own : Int) (b : S64) (hb : b.f0 < own) (hb1 : b.f1 ≠ 0) : ∀ (l : List S64) (last : Int), termsOk own last l = true → (∀ t ∈ l, t.f0 < b.f0) → last < b.f0 → termsOk own last (l ++ [b]) = true
  | [], last, _, _, h => by
    show termsOk own last [b] = true
    rw [termsOk, if_neg (by omega), if_neg (by omega), if_neg hb1]; rfl
  | x :: r, last, h, hv, hl => by
    rw [termsOk] at h
    show termsOk own last (x :: (r ++ [b])) = true
    rw [termsOk]
    by_cases c1 : x.f0 ≤ last
    · rw [if_pos c1] at h; cases h
    · rw [if_neg c1] at h ⊢
      by_cases c2 : x.f0 ≥ own
      · rw [if_pos c2] at h; cases h
      · rw [if_neg c2] at h ⊢
        by_cases c3 : x.f1 = 0
        · rw [if_pos c3] at h; cases h
        · rw [if_neg c3] at h ⊢
          exact termsOk_snoc own b hb hb1 r x.f0 h (fun v hv' => hv v (by simp [hv'])) (hv x (by simp))
section
variable {c : Nat} (rows : List (List Int))
theorem insU_may (hc : c ≤ 64) : ∀ j, j ≤ c → mayIns (-1) (insU rows j) = true
  | 0, _ => rfl
  | j + 1, h => by
    have ih := insU_may hc j (by omega)
    rw [insU]; split
    · exact mayIns_snoc (j : Int) (by omega) _ _ ih (fun v hv => (insU_mem rows j v hv).2) (by omega)
    · exact ih
theorem insU_lt {a b : Nat} (h : a < b) (hu : used rows a = true) : (insU rows a).length < (insU rows b).length := (insU_get rows a b h hu).2
theorem tR_mem (row : List Int) (hm : row ∈ rows) : ∀ j, ∀ t ∈ tR rows row j, ∃ i, i < j ∧ used rows i = true ∧ t.f0 = ((insU rows i).length : Int) ∧ t.f1 = rd row (i : Int) ∧ t.f1 ≠ 0
  | 0, t, h => by cases h
  | j + 1, t, h => by
    rw [tR] at h
    split at h
    · obtain ⟨i, hi, hrest⟩ := tR_mem row hm j t h
      exact ⟨i, by omega, hrest⟩
    · rename_i e
      rcases List.mem_append.1 h with h | h
      · obtain ⟨i, hi, hrest⟩ := tR_mem row hm j t h
        exact ⟨i, by omega, hrest⟩
      · rw [List.mem_singleton.1 h]
        exact ⟨j, by omega, used_of rows row hm j e, rfl, rfl, e⟩
theorem tR_ok (row : List Int) (hm : row ∈ rows) (own : Int) (ho : ((insU rows c).length : Int) ≤ own) : ∀ j, j ≤ c → termsOk own (-1) (tR rows row j) = true
  | 0, _ => rfl
  | j + 1, h => by
    have ih := tR_ok row hm own ho j (by omega)
    rw [tR]; split
    · exact ih
    · rename_i e
      have hu := used_of rows row hm j e
      have hlt := insU_lt rows (show j < c by omega) hu
      refine termsOk_snoc own _ (by show ((insU rows j).length : Int) < own; omega) e _ _ ih (fun t ht => ?_) (by show (-1 : Int) < ((insU rows j).length : Int); omega)
      obtain ⟨i, hi, hui, h0, _⟩ := tR_mem rows row hm j t ht
      have := insU_lt rows hi hui
      rw [h0]; show ((insU rows i).length : Int) < ((insU rows j).length : Int); omega
theorem nodesOk_of (n0 : Nat) : ∀ (l : List (List S64)) (i : Nat), (∀ x ∈ l, ∀ own : Int, (n0 : Int) ≤ own → termsOk own (-1) x = true) → nodesOk n0 i l = true
  | [], _, _ => rfl
  | x :: r, i, h => by
    rw [nodesOk, if_pos (h x (by simp) _ (by omega))]
    exact nodesOk_of n0 r (i + 1) (fun y hy => h y (by simp [hy]))
theorem of_may (hc : c ≤ 64) (hr : rows.length ≤ 64) : mayB (insU rows c) (ofNodes rows c) (ofOuts (insU rows c).length rows.length) = true := by
  unfold mayB
  simp only [Bool.and_eq_true, decide_eq_true_eq, Bool.not_eq_true', List.any_eq_false, Bool.or_eq_true, not_or]
  refine ⟨⟨⟨⟨insU_may rows hc c (Nat.le_refl _), by simp [ofNodes]; omega⟩, by simp [ofOuts]; omega⟩, ?_⟩, fun v hv => ?_⟩
  · refine nodesOk_of _ _ 0 (fun x hx own ho => ?_)
    obtain ⟨row, hm, rfl⟩ := List.mem_map.1 hx
    exact tR_ok rows row hm own ho c (Nat.le_refl _)
  · obtain ⟨i, hi, rfl⟩ := List.mem_map.1 hv
    have := List.mem_range.1 hi
    simp only [ofNodes, List.length_map]
    omega
theorem flowI_mk {a : List Int} {b : List (List S64)} {o : List Int} (ha : a.length ≤ 64) (ha2 : ∀ v ∈ a, 0 ≤ v ∧ v ≤ 4160) (hb : b.length ≤ 4096) (hb2 : ∀ l ∈ b, l.length ≤ 4160 ∧ ∀ t ∈ l, (0 ≤ t.f0 ∧ t.f0 ≤ 4160) ∧ 0 ≤ t.f1 ∧ t.f1 < 256) (ho : o.length ≤ 64) (ho2 : ∀ v ∈ o, 0 ≤ v ∧ v ≤ 4160) : FlowI ⟨a, b, o⟩ := by
  have w64i : ∀ v : Int, 0 ≤ v → v ≤ 4160 → (Lit.int .i64 v).wf = true := fun v h0 h1 => by
    simp [Lit.wf, IntKind.min, IntKind.max, IntKind.bits, IntKind.signed]; omega
  have w8i : ∀ v : Int, 0 ≤ v → v < 256 → (Lit.int .u8 v).wf = true := fun v h0 h1 => by
    simp [Lit.wf, IntKind.min, IntKind.max, IntKind.bits, IntKind.signed]; omega
  exact ⟨⟨by show a.length * 8 ≤ _; omega, fun v hv => w64i v (ha2 v hv).1 (ha2 v hv).2⟩, ⟨by show b.length * 24 ≤ _; omega, fun l hl => ⟨by have := (hb2 l hl).1; omega, fun t ht => ⟨w64i _ ((hb2 l hl).2 t ht).1.1 ((hb2 l hl).2 t ht).1.2, w8i _ ((hb2 l hl).2 t ht).2.1 ((hb2 l hl).2 t ht).2.2⟩⟩⟩, ⟨by show o.length * 8 ≤ _; omega, fun v hv => w64i v (ho2 v hv).1 (ho2 v hv).2⟩⟩
variable (hok : OkB c rows) (hc : c ≤ 64) (hr : rows.length ≤ 64)
include hok hc hr
theorem row_byte (row : List Int) (hm : row ∈ rows) (j : Nat) (hj : j < c) : 0 ≤ rd row (j : Int) ∧ rd row (j : Int) < 256 := by
  have h := hok row hm
  rw [rd_get row j (by omega)]
  exact h.2 _ (List.getElem_mem _)
theorem of_flowI : FlowI ⟨insU rows c, ofNodes rows c, ofOuts (insU rows c).length rows.length⟩ := by
  have hl := insU_len_le rows c
  refine flowI_mk (by omega) (fun v hv => by have := insU_mem rows c v hv; omega) (by simp [ofNodes]; omega) (fun l hl' => ?_) (by simp [ofOuts]; omega) (fun v hv => ?_)
  · obtain ⟨row, hm, rfl⟩ := List.mem_map.1 hl'
    refine ⟨by have := tR_len rows row c; omega, fun t ht => ?_⟩
    obtain ⟨i, hi, hu, h0, h1, _⟩ := tR_mem rows row hm c t ht
    have hlen := insU_len_le rows i
    have hb := row_byte rows hok hc hr row hm i hi
    rw [h0, h1]
    exact ⟨by omega, hb⟩
  · obtain ⟨i, hi, rfl⟩ := List.mem_map.1 hv
    have := List.mem_range.1 hi
    omega
/-! its matrix is the one it was made of -/
def part (row : List Int) (j : Nat) : List Int := (List.range c).map fun k => if k < j then rd row (k : Int) else 0
theorem rowF_snoc (vals : List (List Int)) (t : S64) : ∀ (l : List S64) (acc : List Int), rowF vals acc (l ++ [t]) = xorB (rowF vals acc l) (scB t.f1 (rd_L9 vals t.f0))
  | [], acc => rfl
  | x :: r, acc => by
    show rowF vals (xorB acc (scB x.f1 (rd_L9 vals x.f0))) (r ++ [t]) = _
    rw [rowF_snoc vals t r]; rfl
theorem unit_map (j : Nat) : unit c (j : Int) = (List.range c).map fun k => if k = j then 1 else 0 := by
  unfold unit
  apply List.ext_getElem
  · simp
  · intro i h1 h2
    simp only [Int.toNat_natCast, List.getElem_set, List.getElem_replicate, List.getElem_map, List.getElem_range]
    by_cases e : j = i
    · subst e; simp
    · rw [if_neg e, if_neg (fun h => e h.symm)]
theorem tR_row (X : List (List Int)) (row : List Int) (hm : row ∈ rows) : ∀ j, j ≤ c → rowF ((insU rows c).map (unit c) ++ X) (List.replicate c 0) (tR rows row j) = part (c := c) row j
  | 0, _ => by
    show List.replicate c 0 = part row 0
    unfold part
    apply List.ext_getElem
    · simp
    · intro i h1 h2; simp
  | j + 1, h => by
    have ih := tR_row X row hm j (by omega)
    have hb := row_byte rows hok hc hr row hm j (by omega)
    rw [tR]
    split
    · rename_i e
      rw [ih]
      unfold part
      apply List.map_congr_left
      intro k hk
      by_cases e1 : k = j
      · subst e1; simp [e]
      · by_cases e2 : k < j
        · rw [if_pos e2, if_pos (by omega)]
        · rw [if_neg e2, if_neg (by omega)]
    · rename_i e
      have hu := used_of rows row hm j e
      have hg := insU_get rows j c (by omega) hu
      have hval : rd_L9 ((insU rows c).map (unit c) ++ X) ((insU rows j).length : Int) = unit c (j : Int) := by
        have hi : (insU rows j).length < (insU rows c).length := hg.2
        rw [rd9 _ _ (by rw [List.length_append, List.length_map]; omega), List.getElem_append_left (by rw [List.length_map]; omega), List.getElem_map]
        have := hg.1
        rw [List.getElem?_eq_getElem hi] at this
        rw [Option.some.inj this]
      rw [rowF_snoc rows hok hc hr, ih, hval, unit_map rows hok hc hr j]
      unfold part scB xorB
      rw [List.map_map, List.zipWith_map, List.zipWith_self]
      apply List.map_congr_left
      intro k hk
      show xo (if k < j then rd row (k : Int) else 0) (mulT (rd row (j : Int)) (if k = j then 1 else 0)) = _
      by_cases e1 : k = j
      · subst e1
        rw [if_neg (by omega), if_pos rfl, if_pos (by omega), mulT_comm, mulT_one _ hb.1 hb.2, xo_zero _ hb.1 hb.2]
      · have hkc := List.mem_range.1 hk
        rw [if_neg e1, mulT_zr]
        by_cases e2 : k < j
        · have hb2 := row_byte rows hok hc hr row hm k (by omega)
          rw [if_pos e2, if_pos (by omega), xo_zero_r _ hb2.1 hb2.2]
        · rw [if_neg e2, if_neg (by omega)]; rfl
theorem part_all (row : List Int) (hm : row ∈ rows) : part (c := c) row c = row := by
  have h := (hok row hm).1
  unfold part
  apply List.ext_getElem
  · simp [h]
  · intro i h1 h2
    simp only [List.getElem_map, List.getElem_range]
    rw [if_pos (by simpa using h1), rd_get row i h2]
theorem of_run : ∀ (l : List (List Int)) (X : List (List Int)), (∀ row ∈ l, row ∈ rows) → runF c ((insU rows c).map (unit c) ++ X) (l.map fun row => tR rows row c) = (insU rows c).map (unit c) ++ X ++ l
  | [], X, _ => by simp [runF]
  | row :: s, X, h => by
    show runF c ((insU rows c).map (unit c) ++ X ++ [rowF ((insU rows c).map (unit c) ++ X) (List.replicate c 0) (tR rows row c)]) (s.map fun row => tR rows row c) = _
    rw [tR_row rows hok hc hr X row (h row (by simp)) c (Nat.le_refl _), part_all rows hok hc hr row (h row (by simp)), List.append_assoc, of_run s (X ++ [row]) (fun x hx => h x (by simp [hx]))]
    simp
theorem of_mat : matF (insU rows c) (ofNodes rows c) (ofOuts (insU rows c).length rows.length) c = rows := by
  unfold matF ofNodes
  have h := of_run rows hok hc hr rows [] (fun _ h => h)
  rw [List.append_nil] at h
  rw [h]
  unfold outF ofOuts
  rw [List.map_map]
  apply List.ext_getElem
  · simp
  · intro i h1 h2
    simp only [List.getElem_map, List.getElem_range, Function.comp]
    rw [rd9 _ _ (by simp; omega), List.getElem_append_right (by simp)]
    simp
end
theorem like_refl (a b : Int) (l : List Int) : recoupref03_Like.f a b l a b l = some true := by
  unfold recoupref03_Like.f recoupref01_Same.f
  rw [if_pos rfl, if_pos rfl, strOfNums_self]; rfl
theorem flowBack {r c : Int} {d : List Int} {bl : List (List Int)} (hd : byteL d) (hb : BlI bl) : ∃ k, recouplaw21_FlowBack.f k r c d bl = some true := by
  refine Ev.rounds (Ev.congr (fun k => rfl) (Ev.bind (flow_Of_ev r c d hd) ?_))
  simp only [rright_ev, Option.bind_some]
  by_cases hR : rightB r c d = true
  · simp only [hR, if_true]
    have eV : ofV r c d = (insU (chop c.toNat r.toNat d) c.toNat, ofNodes (chop c.toNat r.toNat d) c.toNat, ofOuts (insU (chop c.toNat r.toNat d) c.toNat).length r.toNat, 0) := by unfold ofV; rw [if_pos hR]
    obtain ⟨a, b, rfl, rfl, ha, hb2, hl⟩ := right_is hR
    simp only [Int.toNat_natCast] at eV
    rw [eV]
    have hok := chop_ok b a d hl hd
    have hfl := chop_flat b a d hl
    have hcl := chop_len b a d
    generalize chop b a d = rows at *
    subst hcl
    have hI := of_flowI rows hok hb2 ha
    have hmay := of_may rows hb2 ha
    have hmat := of_mat rows hok hb2 ha
    have hM := flow_Matrix_ev hI (b : Int)
    have hlI := insU_len_le rows b
    have hol : (ofOuts (insU rows b).length rows.length).length = rows.length := by simp [ofOuts]
    have hbad : matV (insU rows b) (ofNodes rows b) (ofOuts (insU rows b).length rows.length) (b : Int) = ((rows.length : Int), (b : Int), d, 0) := by
      unfold matV matBad
      rw [if_neg, Int.toNat_natCast, hmat, hfl, hol]
      simp only [Bool.or_eq_true, Bool.and_eq_true, decide_eq_true_eq, Bool.not_eq_true', hmay]
      rintro (((hx | hx) | hx) | hx)
      · cases hx
      · omega
      · omega
      · have hl0 := hx.1
        have hlast : rd (insU rows b) (((insU rows b).length : Int) - 1) = (insU rows b)[(insU rows b).length - 1]'(by omega) := by
          rw [show ((insU rows b).length : Int) - 1 = (((insU rows b).length - 1 : Nat) : Int) from by omega, rd_get _ _ (by omega)]
        have := insU_mem rows b _ (List.getElem_mem (l := insU rows b) (n := (insU rows b).length - 1) (by omega))
        have h2 := hx.2
        rw [hlast] at h2
        omega
    rw [hbad] at hM
    refine Ev.bind hM ?_
    simp only [if_true, like_refl, Option.bind_some]
    have hrm := rmay_ev (insU rows b) (ofNodes rows b) (ofOuts (insU rows b).length rows.length) (by omega) (fun l hl' => by have := (hI.2.1.2 l hl').1; omega)
    rw [hmay] at hrm
    refine Ev.bind hrm ?_
    have hE : FlowI ⟨[], [], []⟩ := flowI_mk (by simp) (by simp) (by simp) (by simp) (by simp) (by simp)
    have hRun0 := ref_Run_ev hE hb.1 (bli_bytes hb)
    have hr0 : runB [] [] [] bl = if bl.all (fun b => decide (b.length = lenB bl)) = true then ([], 0) else ([], 3) := by
      unfold runB
      rw [if_pos (by rfl)]
      rfl
    rw [hr0] at hRun0
    have hj1 : Ev (fun k => recouplaw21_FlowBack.j1 k bl true (rows.length : Int) (b : Int) d (insU rows b) (ofNodes rows b) (ofOuts (insU rows b).length rows.length)) true := by
      refine Ev.step (f := fun k => (recouplaw21_anchored.f k).bind fun t594 => (some t594)) (fun k => ?_) (Ev.bind anchored_ev (Ev.now _))
      simp only [recouplaw21_FlowBack.j1, if_true]
    refine Ev.step (f := fun k => (recoupref21_Run.f k ([] : List Int) ([] : List (List (S64))) ([] : List Int) bl).bind fun bt590 => (if bt590.2 = 0 then (recouplaw21_FlowBack.j1 k bl ((bl.length : Int) != (b : Int)) (rows.length : Int) (b : Int) d (insU rows b) (ofNodes rows b) (ofOuts (insU rows b).length rows.length)) else (recouplaw21_FlowBack.j1 k bl true (rows.length : Int) (b : Int) d (insU rows b) (ofNodes rows b) (ofOuts (insU rows b).length rows.length)))) (fun k => ?_) (Ev.bind hRun0 ?_)
    · simp only [recouplaw21_FlowBack.j0, Bool.not_true]
      rw [if_neg (by simp)]
    by_cases hall : bl.all (fun b => decide (b.length = lenB bl)) = true
    · simp only [hall, if_true]
      by_cases hlb : bl.length = b
      · subst hlb
        simp only [bne_self_eq_false]
        have hrs := runs_of hI hb.1 (bli_bytes hb) hmay
        have hbok := all_ok hall hrs.bb
        have hS := lenB_le hrs
        have hrel := out_rel hbok (insU rows bl.length) (ofNodes rows bl.length) (ofOuts (insU rows bl.length).length rows.length) (fun v hv => insU_mem rows bl.length v hv) (fun i hi => (runs_terms hrs i hi).1) (fun o ho => by
          have : 0 ≤ o ∧ o < ((insU rows bl.length).length : Int) + ((ofNodes rows bl.length).length : Int) := hrs.good.outs o ho
          omega)
        rw [hmat] at hrel
        have hany : (insU rows bl.length).any (fun v => decide (v ≥ (bl.length : Int))) = false := List.any_eq_false.2 (fun v hv => by have := insU_mem rows bl.length v hv; simp; omega)
        have hrunB : runB (insU rows bl.length) (ofNodes rows bl.length) (ofOuts (insU rows bl.length).length rows.length) bl = (rows.map (rowOf (lenB bl) bl), 0) := by
          unfold runB runV frontV
          rw [if_pos hmay, if_pos hall, hany, if_neg (by simp), hrel.1]
        have hRun := flow_Run_ev hI hb.1 (bli_bytes hb)
        have hRun' : Ev (fun k => flow_Run.f k (insU rows bl.length) (ofNodes rows bl.length) (ofOuts (insU rows bl.length).length rows.length) bl) (rows.map (rowOf (lenB bl) bl), 0) := by
          rw [← hrunB]; exact hRun
        have hap := apply_ev hbok hS hb2 hok ha
        rw [hfl] at hap
        refine Ev.step (f := fun k => (flow_Run.f k (insU rows bl.length) (ofNodes rows bl.length) (ofOuts (insU rows bl.length).length rows.length) bl).bind fun bt595 => ((recouplaw21_anchored.f k).bind fun t599 => (if t599 = true then (if bt595.2 = 0 then ((recoupref21_Apply.f k (rows.length : Int) (bl.length : Int) d bl).bind fun t600 => ((recoupref21_Blocks.f k bt595.1 t600).bind fun t603 => (some t603))) else (some false)) else (some false)))) (fun k => ?_) (Ev.bind hRun' (Ev.bind anchored_ev ?_))
        · simp only [recouplaw21_FlowBack.j1]
          rw [if_neg (by simp)]
        · simp only [if_true]
          exact Ev.bind hap (Ev.bind (blocks_refl _ (by simp; omega)) (Ev.now _))
      · have hne : ((bl.length : Int) != (b : Int)) = true := by simp; omega
        rw [hne]; exact hj1
    · simp only [hall]
      exact hj1
  · have hc : rightB r c d = false := by simpa using hR
    have eV : ofV r c d = ([], [], [], 3) := by unfold ofV; rw [if_neg hR]
    rw [eV, hc]
    exact Ev.bind anchored_ev (Ev.now _)
end Go.Proofs.Ytfnhnniecclleaa.Spec
