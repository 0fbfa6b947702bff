/- FlowMade's plain law: the reference's Of and Matrix are the program's. -/
import Derived.Test.YtfnhnniecclleaaOf
import Derived.Test.YtfnhnniecclleaaPAm
namespace Go.Proofs.Ytfnhnniecclleaa.Spec
open Go.RowKit Go.Proofs.Ytfnhnniecclleaa.PA Go.Proofs.YtfnhnniecclleaaW.PrintWords Go.Proofs.YtfnhnniecclleaaW.PrintLast Go.Proofs.YtfnhnniecclleaaW.PrintMore
set_option linter.unusedVariables false
set_option linter.unusedSimpArgs false
set_option linter.unusedSectionVars false
section
variable {r c : Nat} (rows : List (List Int)) (hr : OkB c rows) (hrl : rows.length = r) (hr64 : r ≤ 64) (hc64 : c ≤ 64)
include hr hrl hr64 hc64
set_option maxHeartbeats 2000000 in
theorem rof_l3 (at_ : List Int) (hal : at_.length = c) (hat : ∀ j, j < c → used rows j = true → rd at_ (j : Int) = ((insU rows j).length : Int)) (i : Nat) (hi : i < rows.length) (X0 : List Int) (hX0 : X0.length ≤ 64) (X1 : List (List S64)) (hX1 : X1.length ≤ 64) (X2 : List Int) (hX2 : X2.length ≤ 64) (R : List Int × List (List S64) × List Int × Int)
    (hR : Ev (fun k => recoupref21_Of.l2 k at_ ((i + 1 : Nat) : Int) (r : Int) (c : Int) (flatN rows) X0 (X1 ++ [tR rows rows[i] c]) (X2 ++ [((X0.length + i : Nat) : Int)])) R) (d : Nat) : ∀ (j : Nat), j + d = c →
    Ev (fun k => recoupref21_Of.l3 k at_ (i : Int) (tR rows rows[i] j) (j : Int) (r : Int) (c : Int) (flatN rows) X0 X1 X2) R := by
  have hrow := hr _ (List.getElem_mem hi)
  induction d with
  | zero =>
    intro j hj
    have ej : j = c := by omega
    subst ej
    refine Ev.step (fun k => ?_) hR
    have hW_ : (wrap64 ((i : Int) + 1) = ((i + 1 : Nat) : Int)) ∧ (wrap64 ((X0.length : Int) + (i : Int)) = ((X0.length + i : Nat) : Int)) := ⟨(by rw [w64 (by omega) (by omega), i1]), (by rw [w64 (by omega) (by omega)]; omega)⟩
    obtain ⟨hw1, hw2⟩ := hW_
    simp only [recoupref21_Of.l3, hw1, hw2]
    clear hw1 hw2
    rw [if_neg (by omega), if_pos (by omega), if_pos (by omega)]
  | succ d ih =>
    intro j hj
    have hnext := ih (j + 1) (by omega)
    have htl := tR_len rows rows[i] j
    have hA := at_ev rows hr (by omega) hc64 i j hi (by omega) (r : Int)
    rw [rd9 rows i hi] at hA
    by_cases e : rd rows[i] (j : Int) = 0
    · rw [tR, if_pos e] at hnext
      refine Ev.step (fun k => ?_) hnext
      have hw : wrap64 ((j : Int) + 1) = ((j + 1 : Nat) : Int) := by rw [w64 (by omega) (by omega), i1]
      simp only [recoupref21_Of.l3, hw, hA, Option.bind_some]
      clear hw
      rw [if_pos (by omega), if_pos e]
    · rw [tR, if_neg e] at hnext
      refine Ev.step (fun k => ?_) hnext
      have hw : wrap64 ((j : Int) + 1) = ((j + 1 : Nat) : Int) := by rw [w64 (by omega) (by omega), i1]
      simp only [recoupref21_Of.l3, hw, hA, Option.bind_some]
      clear hw
      rw [if_pos (by omega), if_neg e, if_pos (by omega), if_pos (by omega), if_pos (by omega), hat j (by omega) (used_of rows rows[i] (List.getElem_mem hi) j e)]
theorem rof_l2 (at_ : List Int) (hal : at_.length = c) (hat : ∀ j, j < c → used rows j = true → rd at_ (j : Int) = ((insU rows j).length : Int)) (X0 : List Int) (hX0 : X0.length ≤ 64) (d : Nat) : ∀ (i : Nat), i + d = r →
    Ev (fun k => recoupref21_Of.l2 k at_ (i : Int) (r : Int) (c : Int) (flatN rows) X0 ((rows.take i).map fun row => tR rows row c) (ofOuts X0.length i)) (X0, ofNodes rows c, ofOuts X0.length r, 0) := by
  induction d with
  | zero =>
    intro i hi
    have ei : i = r := by omega
    subst ei
    rw [List.take_of_length_le (by omega)]
    refine Ev.step (fun k => ?_) (Ev.now _)
    simp only [recoupref21_Of.l2]
    rw [if_neg (by omega)]
    rfl
  | succ d ih =>
    intro i hi
    have hil : i < rows.length := by omega
    have hnext := ih (i + 1) (by omega)
    have e1 : (rows.take (i + 1)).map (fun row => tR rows row c) = (rows.take i).map (fun row => tR rows row c) ++ [tR rows rows[i] c] := by rw [List.take_succ_eq_append_getElem hil, List.map_append]; rfl
    have e2 : ofOuts X0.length (i + 1) = ofOuts X0.length i ++ [((X0.length + i : Nat) : Int)] := by unfold ofOuts; rw [List.range_succ, List.map_append]; rfl
    rw [e1, e2] at hnext
    have h3 := rof_l3 rows hr hrl hr64 hc64 at_ hal hat i hil X0 hX0 ((rows.take i).map fun row => tR rows row c) (by simp; omega) (ofOuts X0.length i) (by simp [ofOuts]; omega) _ hnext c 0 (by omega)
    refine Ev.step (fun k => ?_) h3
    simp only [recoupref21_Of.l2]
    rw [if_pos (by omega)]
    rfl
theorem rof_l1 (at_ : List Int) (hal : at_.length = c) (j : Nat) (hj : j < c) (R : List Int × List (List S64) × List Int × Int) (X0 : List Int) (hX0 : X0.length ≤ 64)
    (hT : used rows j = true → Ev (fun k => recoupref21_Of.l0 k (at_.set j (X0.length : Int)) ((j + 1 : Nat) : Int) (r : Int) (c : Int) (flatN rows) (X0 ++ [(j : Int)])) R)
    (hF : used rows j = false → Ev (fun k => recoupref21_Of.l0 k at_ ((j + 1 : Nat) : Int) (r : Int) (c : Int) (flatN rows) X0) R) (d : Nat) : ∀ (i : Nat) (b : Bool), i + d = r → (b = true → used rows j = true) → (b = false → ∀ i' (h : i' < rows.length), i' < i → rd rows[i'] (j : Int) = 0) →
    Ev (fun k => recoupref21_Of.l1 k at_ (j : Int) b (i : Int) (r : Int) (c : Int) (flatN rows) X0) R := by
  have hwj : wrap64 ((j : Int) + 1) = ((j + 1 : Nat) : Int) := by rw [w64 (by omega) (by omega), i1]
  have HWJ := Aside0.mk hwj
  clear hwj
  induction d with
  | zero =>
    intro i b hi hbt hbf
    cases b with
    | true =>
      refine Ev.step (fun k => ?_) (hT (hbt rfl))
      simp only [recoupref21_Of.l1, HWJ.out]
      rw [if_neg (by omega), if_pos trivial, if_pos (by omega), if_pos (by omega), if_pos (by omega), Int.toNat_natCast]
    | false =>
      have hu : used rows j = false := List.any_eq_false.2 (fun row hm => by
        obtain ⟨i', h, rfl⟩ := List.getElem_of_mem hm
        simpa using hbf rfl i' h (by omega))
      refine Ev.step (fun k => ?_) (hF hu)
      simp only [recoupref21_Of.l1, HWJ.out]
      rw [if_neg (by omega), if_neg (by simp)]
  | succ d ih =>
    intro i b hi hbt hbf
    have hil : i < rows.length := by omega
    have hwi : wrap64 ((i : Int) + 1) = ((i + 1 : Nat) : Int) := by rw [w64 (by omega) (by omega), i1]
    have HWI := Aside0.mk hwi
    clear hwi
    cases b with
    | true =>
      refine Ev.step (fun k => ?_) (ih (i + 1) true (by omega) hbt (fun h => by cases h))
      simp only [recoupref21_Of.l1, HWI.out]
      rw [if_pos (by omega), if_pos trivial]
    | false =>
      have hA := at_ev rows hr (by omega) hc64 i j hil hj (r : Int)
      rw [rd9 rows i hil] at hA
      refine Ev.step (fun k => ?_) (ih (i + 1) (rd rows[i] (j : Int) != 0) (by omega) (fun h => used_of rows rows[i] (List.getElem_mem hil) j (by simpa using h)) (fun h i' h1 h2 => by
        by_cases c0 : i' = i
        · subst c0; simpa using h
        · exact hbf rfl i' h1 (by omega)))
      simp only [recoupref21_Of.l1, HWI.out, hA, Option.bind_some]
      rw [if_pos (by omega), if_neg (by simp)]
theorem rof_l0 (d : Nat) : ∀ (j : Nat) (at_ : List Int), j + d = c → at_.length = c → (∀ j', j' < j → used rows j' = true → rd at_ (j' : Int) = ((insU rows j').length : Int)) →
    Ev (fun k => recoupref21_Of.l0 k at_ (j : Int) (r : Int) (c : Int) (flatN rows) (insU rows j)) (insU rows c, ofNodes rows c, ofOuts (insU rows c).length r, 0) := by
  have hlc := insU_len_le rows c
  induction d with
  | zero =>
    intro j at_ hj hal hat
    have ej : j = c := by omega
    subst ej
    refine Ev.step (fun k => ?_) (rof_l2 rows hr hrl hr64 hc64 at_ hal hat (insU rows j) (by omega) r 0 (by omega))
    simp only [recoupref21_Of.l0]
    rw [if_neg (by omega)]
    rfl
  | succ d ih =>
    intro j at_ hj hal hat
    have hlj := insU_len_le rows j
    refine Ev.step (fun k => ?_) (rof_l1 rows hr hrl hr64 hc64 at_ hal j (by omega) _ (insU rows j) (by omega) (fun hu => ?_) (fun hu => ?_) r 0 false (by omega) (fun h => by cases h) (fun _ i' h h' => absurd h' (by omega)))
    · simp only [recoupref21_Of.l0]
      rw [if_pos (by omega)]
      rfl
    · have hnext := ih (j + 1) (at_.set j ((insU rows j).length : Int)) (by omega) (by rw [List.length_set, hal]) (fun j' h' hu' => by
        have hs : rd (at_.set j ((insU rows j).length : Int)) (j' : Int) = if j = j' then ((insU rows j).length : Int) else rd at_ (j' : Int) := by
          unfold rd
          simp only [Int.toNat_natCast]
          rw [List.getD_eq_getElem?_getD, List.getElem?_set, List.getD_eq_getElem?_getD]
          by_cases e : j = j'
          · subst e; rw [if_pos rfl, if_pos (by omega), if_pos rfl]; rfl
          · rw [if_neg e, if_neg e]
        rw [hs]
        by_cases e : j = j'
        · subst e; rw [if_pos rfl]
        · rw [if_neg e]; exact hat j' (by omega) hu')
      rw [insU, if_pos hu] at hnext
      exact hnext
    · have hnext := ih (j + 1) at_ (by omega) hal (fun j' h' hu' => by
        by_cases e : j = j'
        · subst e; rw [hu] at hu'; cases hu'
        · exact hat j' (by omega) hu')
      rw [insU, if_neg (by rw [hu]; simp)] at hnext
      exact hnext
end
theorem ref_Of_ev (r c : Int) (d : List Int) (hb : byteL d) : Ev (fun k => recoupref21_Of.f k r c d) (ofV r c d) := by
  refine Ev.congr (f := fun k => if rightB r c d = true then (if 0 ≤ c then (if (c : Int).toNat ≤ 35184372088832 then (recoupref21_Of.l0 k (List.replicate (c : Int).toNat 0) 0 r c d ([] : List Int)) else (none)) else (none)) else (some (([] : List Int), ([] : List (List (S64))), ([] : List Int), 3))) (fun k => ?_) ?_
  · simp only [recoupref21_Of.f, rright_ev r c d, Option.bind_some]
  · unfold ofV
    by_cases hr : rightB r c d = true
    · obtain ⟨a, b, rfl, rfl, ha, hb2, hl⟩ := right_is hr
      simp only [hr, if_true, Int.toNat_natCast]
      have hok := chop_ok b a d hl hb
      have hfl := chop_flat b a d hl
      have h0 := rof_l0 (r := a) (c := b) (chop b a d) hok (chop_len b a d) ha hb2 b 0 (List.replicate b 0) (by omega) (by simp) (fun j' h => absurd h (by omega))
      rw [hfl] at h0
      refine Ev.congr (fun k => ?_) h0
      rw [if_pos (by omega), if_pos (by omega)]
      rfl
    · simp only [hr]
      exact Ev.now _
/-! Matrix -/
def units (n : Nat) (m : Nat) : List (List Int) := (List.range m).map fun j : Nat => unit n (j : Int)
theorem units_len (n m : Nat) : (units n m).length = m := by simp [units]
theorem units_succ (n m : Nat) : units n (m + 1) = units n m ++ [unit n (m : Int)] := by simp [units, List.range_succ]
theorem units_mem (n m : Nat) (x : List Int) (h : x ∈ units n m) : x.length = n ∧ byteL x := by
  obtain ⟨j, _, rfl⟩ := List.mem_map.1 h
  exact ⟨unit_len _ _, unit_byte _ _⟩
theorem rmat_l1 {n : Nat} (hn : n ≤ 64) (rows : List (List Int)) (hr : OkB n rows) (hl : rows.length ≤ 64) (a b : Int) (d : Nat) : ∀ (i : Nat), i + d = rows.length →
    Ev (fun k => recoupref21_Matrix.l1 k rows (i : Int) a b (flatN (rows.take i))) (a, b, flatN rows, 0) := by
  induction d with
  | zero =>
    intro i h
    rw [List.take_of_length_le (by omega)]
    refine Ev.step (fun k => ?_) (Ev.now _)
    simp only [recoupref21_Matrix.l1]
    rw [if_neg (by omega)]
  | succ d ih =>
    intro i h
    have hil : i < rows.length := by omega
    have hrow := (hr _ (List.getElem_mem hil)).1
    have hnext := ih (i + 1) (by omega)
    have e : flatN (rows.take (i + 1)) = flatN (rows.take i) ++ rows[i] := by unfold flatN; rw [List.take_succ_eq_append_getElem hil, List.flatten_append]; simp
    have hlen := flat_len (rows.take i) (fun x hx => hr x (List.mem_of_mem_take hx))
    rw [List.length_take, Nat.min_eq_left (by omega)] at hlen
    have hm : i * n ≤ 64 * 64 := Nat.mul_le_mul (by omega) hn
    rw [e] at hnext
    refine Ev.step (fun k => ?_) hnext
    simp only [recoupref21_Matrix.l1]
    rw [if_pos (by omega), if_pos (by omega), rd9 rows i hil, if_pos (by omega), w64 (by omega) (by omega), i1]
theorem rmat_l0 (n : Nat) (hn : n ≤ 64) (ins : List Int) (nodes : List (List S64)) (outs : List Int) (R : Int × Int × List Int × Int)
    (hR : Ev (fun k => (recoupref21_Run.f k ins nodes outs (units n n)).bind fun bt482 => (recoupref21_Matrix.l1 k bt482.1 0 (bt482.1.length : Int) (n : Int) ([] : List Int))) R) (d : Nat) : ∀ (i : Nat), i + d = n →
    Ev (fun k => recoupref21_Matrix.l0 k (n : Int) (units n i) (i : Int) ins nodes outs) R := by
  induction d with
  | zero =>
    intro i h
    obtain rfl : i = n := by omega
    refine Ev.step (fun k => ?_) hR
    simp only [recoupref21_Matrix.l0]
    rw [if_neg (by omega)]
  | succ d ih =>
    intro i h
    have hl := units_len n i
    have hnext := ih (i + 1) (by omega)
    rw [units_succ] at hnext
    refine Ev.step (fun k => ?_) hnext
    simp only [recoupref21_Matrix.l0]
    rw [if_pos (by omega), if_pos (by omega), if_pos (by omega), Option.bind_some, Int.toNat_natCast, if_pos (by omega), if_pos (by simp; omega), if_pos (by omega), w64 (by omega) (by omega), i1]
    rfl
theorem pick_units (n : Nat) (ins : List Int) (h : ∀ v ∈ ins, 0 ≤ v ∧ v < (n : Int)) : pickB (units n n) ins = ins.map (unit n) := by
  unfold pickB
  apply List.map_congr_left
  intro v hv
  obtain ⟨j, rfl⟩ : ∃ j : Nat, (j : Int) = v := ⟨v.toNat, by have := h v hv; omega⟩
  have hj := h _ hv
  rw [rd9 _ j (by rw [units_len]; omega)]
  simp [units]
theorem ref_Matrix_ev {x : S25} (h : FlowI x) (cols : Int) : Ev (fun k => recoupref21_Matrix.f k x.f0 x.f1 x.f2 cols) (matV x.f0 x.f1 x.f2 cols) := by
  have hj : ∀ (b : Bool), b = true → Ev (fun k => recoupref21_Matrix.j0 k cols b x.f0 x.f1 x.f2) (0, 0, [], 2) := fun b hb => by
    subst hb
    refine Ev.step (fun k => ?_) (Ev.now _)
    simp only [recoupref21_Matrix.j0, if_true]
  refine Ev.congr (fun k => rfl) (Ev.bind (rmay_ev x.f0 x.f1 x.f2 (by have := h.1.1; omega) (fun l hl => by have := (h.2.1.2 l hl).1; omega)) ?_)
  by_cases c0 : mayB x.f0 x.f1 x.f2 = true
  · have hr := runs_of (bl := []) h (by simp) (by simp) c0
    have hg := hr.good
    have h1 := hg.n0
    have h2 := hg.nN
    have h3 := hg.nO
    have hins := c0
    unfold mayB at hins
    simp only [Bool.and_eq_true] at hins
    have hmi := hins.1.1.1.1
    simp only [c0, if_true]
    by_cases c1 : cols < 0
    · have e : matV x.f0 x.f1 x.f2 cols = (0, 0, [], 2) := by unfold matV matBad; rw [if_pos (by simp [c1])]
      rw [e]; simp only [c1, if_true]; exact hj true rfl
    · by_cases c2 : cols > 64
      · have e : matV x.f0 x.f1 x.f2 cols = (0, 0, [], 2) := by unfold matV matBad; rw [if_pos (by simp [c2])]
        rw [e]; simp only [c1, c2, if_true, if_false]; exact hj true rfl
      · simp only [c1, c2, if_false]
        have good : (∀ v ∈ x.f0, 0 ≤ v ∧ v < cols) → Ev (fun k => recoupref21_Matrix.j0 k cols false x.f0 x.f1 x.f2) ((x.f2.length : Int), cols, flatN (matF x.f0 x.f1 x.f2 cols.toNat), 0) := by
          intro hv
          obtain ⟨n, rfl⟩ : ∃ n : Nat, (n : Int) = cols := ⟨cols.toNat, by omega⟩
          rw [Int.toNat_natCast]
          have hul := units_len n n
          have hrun := ref_Run_ev (bl := units n n) h (by omega) (fun l hl => by
            have := units_mem n n l hl
            exact ⟨by omega, this.2⟩)
          have hlb : ∀ b ∈ units n n, b.length = lenB (units n n) := fun b hb => by
            have h1 := (units_mem n n b hb).1
            unfold lenB
            have hpos : 0 < (units n n).length := List.length_pos_of_mem hb
            rw [show (0 : Int) = ((0 : Nat) : Int) from rfl, rd9 _ 0 hpos, (units_mem n n _ (List.getElem_mem hpos)).1, h1]
          have hall : (units n n).all (fun b => decide (b.length = lenB (units n n))) = true := List.all_eq_true.2 (fun b hb => decide_eq_true (hlb b hb))
          have hany : x.f0.any (fun v => decide (v ≥ ((units n n).length : Int))) = false := List.any_eq_false.2 (fun v hvm => by have := hv v hvm; rw [hul]; simp; omega)
          have hlen : lenB (units n n) = n := by
            by_cases e : n = 0
            · subst e; rfl
            · unfold lenB
              rw [show (0 : Int) = ((0 : Nat) : Int) from rfl, rd9 _ 0 (by omega), (units_mem n n _ (List.getElem_mem _)).1]
          have eB : runB x.f0 x.f1 x.f2 (units n n) = (matF x.f0 x.f1 x.f2 n, 0) := by
            unfold runB runV frontV
            rw [if_pos c0, if_pos hall, hany, if_neg (by simp), hlen, pick_units n x.f0 hv]; rfl
          rw [eB] at hrun
          have hok := matF_ok n (fun i hi => (runs_terms hr i hi).1) (fun o ho => by have := hg.outs o ho; omega)
          have hml : (matF x.f0 x.f1 x.f2 n).length = x.f2.length := by simp [matF, outF]
          have hl1 := rmat_l1 (by omega : n ≤ 64) (matF x.f0 x.f1 x.f2 n) hok (by omega) ((matF x.f0 x.f1 x.f2 n).length : Int) (n : Int) (matF x.f0 x.f1 x.f2 n).length 0 (by omega)
          have hl0 := rmat_l0 n (by omega) x.f0 x.f1 x.f2 ((x.f2.length : Int), (n : Int), flatN (matF x.f0 x.f1 x.f2 n), 0) (Ev.bind hrun (by rw [hml] at hl1; simp only [hml]; exact hl1)) n 0 (by omega)
          refine Ev.step (fun k => ?_) hl0
          simp only [recoupref21_Matrix.j0]
          rw [if_neg (by simp)]
          rfl
        by_cases c3 : (x.f0.length : Int) > 0
        · simp only [c3, if_true]
          by_cases c4 : rd x.f0 ((x.f0.length : Int) - 1) ≥ cols
          · have e : matV x.f0 x.f1 x.f2 cols = (0, 0, [], 2) := by unfold matV matBad; rw [if_pos (by simp only [Bool.or_eq_true, Bool.and_eq_true, decide_eq_true_eq]; exact .inr ⟨by omega, c4⟩)]
            rw [e]
            refine Ev.congr (fun k => ?_) (hj true rfl)
            rw [w64 (by omega) (by omega), if_pos (by omega), if_pos (by omega), decide_eq_true c4]
          · have hlast : rd x.f0 ((x.f0.length : Int) - 1) = x.f0[x.f0.length - 1]'(by omega) := by
              rw [show (x.f0.length : Int) - 1 = ((x.f0.length - 1 : Nat) : Int) from by omega, rd_get x.f0 _ (by omega)]
            have e : matV x.f0 x.f1 x.f2 cols = ((x.f2.length : Int), cols, flatN (matF x.f0 x.f1 x.f2 cols.toNat), 0) := by
              unfold matV matBad
              rw [if_neg]
              simp only [Bool.or_eq_true, Bool.and_eq_true, decide_eq_true_eq, Bool.not_eq_true', c0]
              rintro (((hx | hx) | hx) | hx)
              · cases hx
              · exact c1 hx
              · exact c2 hx
              · exact c4 hx.2
            rw [e]
            refine Ev.congr (fun k => ?_) (good (fun v hv => ⟨hr.pos v hv, by have := mayIns_last x.f0 _ hmi v hv (by omega); omega⟩))
            rw [w64 (by omega) (by omega), if_pos (by omega), if_pos (by omega), decide_eq_false c4]
        · have h0 : x.f0 = [] := List.eq_nil_of_length_eq_zero (by omega)
          have e : matV x.f0 x.f1 x.f2 cols = ((x.f2.length : Int), cols, flatN (matF x.f0 x.f1 x.f2 cols.toNat), 0) := by
            unfold matV matBad
            rw [if_neg]
            simp only [Bool.or_eq_true, Bool.and_eq_true, decide_eq_true_eq, Bool.not_eq_true', c0]
            rintro (((hx | hx) | hx) | hx)
            · cases hx
            · exact c1 hx
            · exact c2 hx
            · omega
          rw [e]
          simp only [c3, if_false]
          exact good (fun v hv => by rw [h0] at hv; cases hv)
  · have hc : mayB x.f0 x.f1 x.f2 = false := by simpa using c0
    have e : matV x.f0 x.f1 x.f2 cols = (0, 0, [], 2) := by unfold matV matBad; rw [hc]; simp
    rw [e, hc]
    exact hj true rfl
theorem ofV_same (r c : Int) (d : List Int) : Ev (fun k => recoupref21_Same.f k (ofV r c d).1 (ofV r c d).2.1 (ofV r c d).2.2.1 (ofV r c d).1 (ofV r c d).2.1 (ofV r c d).2.2.1) true := by
  have hb : (ofV r c d).1.length ≤ 64 ∧ (ofV r c d).2.1.length ≤ 64 ∧ (ofV r c d).2.2.1.length ≤ 64 ∧ ∀ l ∈ (ofV r c d).2.1, l.length ≤ 64 := by
    unfold ofV
    by_cases hr : rightB r c d = true
    · obtain ⟨a, b, rfl, rfl, ha, hb2, hl⟩ := right_is hr
      rw [if_pos hr, Int.toNat_natCast, Int.toNat_natCast]
      have h1 := insU_len_le (chop b a d) b
      have h2 := chop_len b a d
      refine ⟨by show (insU (chop b a d) b).length ≤ 64; omega, by show (ofNodes (chop b a d) b).length ≤ 64; rw [ofNodes, List.length_map]; omega, by show (ofOuts _ a).length ≤ 64; simp [ofOuts]; omega, fun l hl' => ?_⟩
      obtain ⟨row, _, rfl⟩ := List.mem_map.1 hl'
      have := tR_len (chop b a d) row b
      omega
    · rw [if_neg hr]
      exact ⟨by simp, by simp, by simp, fun l hl => by cases hl⟩
  have h := rsame_ev (ofV r c d).1 (ofV r c d).2.1 (ofV r c d).2.2.1 (ofV r c d).1 (ofV r c d).2.1 (ofV r c d).2.2.1 (by omega) (fun l hl => by have := hb.2.2.2 l hl; omega) (by omega) (by omega)
  rw [sameB_refl] at h
  exact h
theorem flowMade {x : S25} (r c : Int) (d : List Int) (cols : Int) (hd : byteL d) (h : FlowI x) : ∃ k, recouplaw21_FlowMade.f k r c d x.f0 x.f1 x.f2 cols = some true := by
  refine Ev.rounds (Ev.congr (fun k => rfl) (Ev.bind (flow_Of_ev r c d hd) (Ev.bind (ref_Of_ev r c d hd) (Ev.bind (flow_Matrix_ev h cols) (Ev.bind (ref_Matrix_ev h cols) (Ev.bind (ofV_same r c d) ?_))))))
  simp only [if_true, like_refl, Option.bind_some, beq_self_eq_true]
  exact Ev.now _
end Go.Proofs.Ytfnhnniecclleaa.Spec
