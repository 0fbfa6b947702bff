/- FlowApplies' plain law: the matrix of a flow, applied to blocks, is the flow run on them. -/
import Derived.Test.YtfnhnniecclleaaLin
import Derived.Test.YtfnhnniecclleaaPAx0
import Derived.Test.YtfnhnniecclleaaPAx2
import Derived.Test.YtfnhnniecclleaaPAx5
import Derived.Test.YtfnhnniecclleaaPAx6
import Derived.Test.YtfnhnniecclleaaPAx14
import Derived.Test.YtfnhnniecclleaaPAx17
import Derived.Test.YtfnhnniecclleaaPAx19
import Derived.Test.YtfnhnniecclleaaPAx21
namespace Go.Proofs.Ytfnhnniecclleaa.Spec
open Go.RowKit Go.Proofs.Ytfnhnniecclleaa.PA Go.Proofs.YtfnhnniecclleaaW.PrintWords Go.Proofs.YtfnhnniecclleaaW.PrintLast Go.Proofs.YtfnhnniecclleaaW.PrintMore
set_option linter.unusedVariables false
set_option linter.unusedSimpArgs false
set_option linter.unusedSectionVars false
theorem mayIns_last : ∀ (l : List Int) (last : Int), mayIns last l = true → ∀ v ∈ l, ∀ (h : l.length - 1 < l.length), v ≤ l[l.length - 1]
  | [], _, _, v, hv, _ => by cases hv
  | [b], _, _, v, hv, _ => by
    rw [List.mem_singleton.1 hv]; simp
  | b :: c :: r, last, h, v, hv, hl => by
    unfold mayIns at h
    by_cases c1 : b ≤ last
    · rw [if_pos c1] at h; cases h
    · rw [if_neg c1] at h
      by_cases c2 : b ≥ 64
      · rw [if_pos c2] at h; cases h
      · rw [if_neg c2] at h
        have hl2 : (c :: r).length - 1 < (c :: r).length := by simp
        have e : (b :: c :: r)[(b :: c :: r).length - 1] = (c :: r)[(c :: r).length - 1] := by simp
        rw [e]
        rcases List.mem_cons.1 hv with rfl | hv
        · have := mayIns_pos (c :: r) v h _ (List.getElem_mem hl2); omega
        · exact mayIns_last (c :: r) b h v hv hl2
def flatN (rows : List (List Int)) : List Int := rows.flatten
theorem flat_len {n : Nat} : ∀ (rows : List (List Int)), OkB n rows → (flatN rows).length = rows.length * n
  | [], _ => by simp [flatN]
  | r :: s, h => by
    have hr := (h r (by simp)).1
    have ih := flat_len s (fun x hx => h x (by simp [hx]))
    unfold flatN at ih ⊢
    rw [List.flatten_cons, List.length_append, ih, hr, List.length_cons, Nat.succ_mul, Nat.add_comm]
theorem flat_get {n : Nat} : ∀ (rows : List (List Int)), OkB n rows → ∀ i j, (hi : i < rows.length) → j < n → (flatN rows)[i * n + j]? = (rows[i])[j]?
  | [], _, i, j, hi, _ => absurd hi (by simp)
  | r :: s, h, 0, j, hi, hj => by
    have hr := (h r (by simp)).1
    show (r ++ s.flatten)[0 * n + j]? = r[j]?
    rw [Nat.zero_mul, Nat.zero_add, List.getElem?_append_left (by omega)]
  | r :: s, h, i + 1, j, hi, hj => by
    have hr := (h r (by simp)).1
    have ih := flat_get s (fun x hx => h x (by simp [hx])) i j (by simpa using hi) hj
    have hi' : i < s.length := by simpa using hi
    show (r ++ s.flatten)[(i + 1) * n + j]? = (s[i]'hi')[j]?
    rw [← ih, Nat.succ_mul, List.getElem?_append_right (by omega)]
    unfold flatN
    congr 1
    omega
section
variable (ins : List Int) (nodes : List (List S64)) (outs : List Int)
theorem mat_l0 (n : Nat) (hn : n ≤ 64) (hi : ins.length ≤ 64) (hv : ∀ v ∈ ins, 0 ≤ v ∧ v < (n : Int)) (R : Int × Int × List Int × Int) (hR : Ev (fun k => (flow_run.f k ins nodes outs (ins.map (unit n)) (n : Int)).bind fun t => flow_Matrix.l1 k t (t.length : Int) 0 (outs.length : Int) (n : Int) ([] : List Int)) R) (d : Nat) : ∀ (i : Nat), i + d = ins.length →
    Ev (fun k => flow_Matrix.l0 k (n : Int) ((ins.take i).map (unit n)) ins (ins.length : Int) (i : Int) ins nodes outs) R := by
  induction d with
  | zero =>
    intro i h
    rw [List.take_of_length_le (by omega)]
    refine Ev.step (fun k => ?_) hR
    simp only [flow_Matrix.l0]
    rw [if_neg (by omega)]
  | succ d ih =>
    intro i h
    have hil : i < ins.length := by omega
    have hvv := hv _ (List.getElem_mem hil)
    have hnext := ih (i + 1) (by omega)
    have e : (ins.take (i + 1)).map (unit n) = (ins.take i).map (unit n) ++ [unit n ins[i]] := by rw [List.take_succ_eq_append_getElem hil, List.map_append]; rfl
    rw [e] at hnext
    refine Ev.step (fun k => ?_) hnext
    simp only [flow_Matrix.l0]
    rw [if_pos (by omega), if_pos (by omega), if_pos (by omega), if_pos (by omega), if_pos (by omega), Option.bind_some, rd_get ins i hil, if_pos (by omega), if_pos (by simp; omega), if_pos (by simp; omega), w64 (by omega) (by omega), i1]
    rfl
theorem mat_l1 {n : Nat} (hn : n ≤ 64) (rows : List (List Int)) (hr : OkB n rows) (hl : rows.length ≤ 64) (a b : Int) (d : Nat) : ∀ (i : Nat), i + d = rows.length →
    Ev (fun k => flow_Matrix.l1 k rows (rows.length : Int) (i : Int) a b (flatN (rows.take i))) (a, b, flatN rows, 0) := by
  induction d with
  | zero =>
    intro i h
    rw [List.take_of_length_le (by omega)]
    refine Ev.step (fun k => ?_) (Ev.now _)
    simp only [flow_Matrix.l1]
    rw [if_neg (by omega)]
  | succ d ih =>
    intro i h
    have hil : i < rows.length := by omega
    have hrow := (hr _ (List.getElem_mem hil)).1
    have hnext := ih (i + 1) (by omega)
    have e : flatN (rows.take (i + 1)) = flatN (rows.take i) ++ rows[i] := by unfold flatN; rw [List.take_succ_eq_append_getElem hil, List.flatten_append]; simp
    have hlen := flat_len (rows.take i) (fun x hx => hr x (List.mem_of_mem_take hx))
    rw [List.length_take, Nat.min_eq_left (by omega)] at hlen
    have hm : i * n ≤ 64 * 64 := Nat.mul_le_mul (by omega) hn
    rw [e] at hnext
    refine Ev.step (fun k => ?_) hnext
    simp only [flow_Matrix.l1]
    rw [if_pos (by omega), if_pos (by omega), if_pos (by omega), rd9 rows i hil, if_pos (by omega), w64 (by omega) (by omega), i1]
def matBad (cols : Int) : Bool := !(mayB ins nodes outs) || decide (cols < 0) || decide (cols > 64) || (decide (0 < ins.length) && decide (rd ins ((ins.length : Int) - 1) ≥ cols))
def matV (cols : Int) : Int × Int × List Int × Int := if matBad ins nodes outs cols = true then (0, 0, [], 2) else ((outs.length : Int), cols, flatN (matF ins nodes outs cols.toNat), 0)
end
theorem matF_ok {ins : List Int} {nodes : List (List S64)} {outs : List Int} (n : Nat) (ht : ∀ i (h : i < nodes.length), termIn (ins.length + i) nodes[i]) (ho : ∀ o ∈ outs, 0 ≤ o ∧ o < ((ins.length + nodes.length : Nat) : Int)) : OkB n (matF ins nodes outs n) := by
  have hu : OkB n (ins.map (unit n)) := fun x hx => by
    obtain ⟨v, _, rfl⟩ := List.mem_map.1 hx
    exact ⟨unit_len _ _, unit_byte _ _⟩
  have hk := runF_ok n nodes (ins.map (unit n)) hu (fun i h => by rw [List.length_map]; exact ht i h)
  have hl := runF_len n nodes (ins.map (unit n))
  rw [List.length_map] at hl
  intro x hx
  obtain ⟨o, hom, rfl⟩ := List.mem_map.1 hx
  have hoo := ho o hom
  exact ok_rd hk hoo.1 (by omega)
theorem flow_Matrix_ev {x : S25} (h : FlowI x) (cols : Int) : Ev (fun k => flow_Matrix.f k x.f0 x.f1 x.f2 cols) (matV x.f0 x.f1 x.f2 cols) := by
  have hj : ∀ (b : Bool), b = true → Ev (fun k => flow_Matrix.j0 k cols b x.f0 x.f1 x.f2) (0, 0, [], 2) := fun b hb => by
    subst hb
    refine Ev.step (fun k => ?_) (Ev.now _)
    simp only [flow_Matrix.j0, if_true]
  refine Ev.congr (fun k => rfl) (Ev.bind (flow_May_ev x.f0 x.f1 x.f2 (fun l hl => by have := (h.2.1.2 l hl).1; omega)) ?_)
  by_cases c0 : mayB x.f0 x.f1 x.f2 = true
  · have hr := runs_of (bl := []) h (by simp) (by simp) c0
    have hg := hr.good
    have h1 := hg.n0
    have h2 := hg.nN
    have h3 := hg.nO
    have hins := c0
    unfold mayB at hins
    simp only [Bool.and_eq_true] at hins
    have hmi := hins.1.1.1.1
    simp only [c0, if_true]
    by_cases c1 : cols < 0
    · have e : matV x.f0 x.f1 x.f2 cols = (0, 0, [], 2) := by unfold matV matBad; rw [if_pos (by simp [c1])]
      rw [e]; simp only [c1, if_true]; exact hj true rfl
    · by_cases c2 : cols > 64
      · have e : matV x.f0 x.f1 x.f2 cols = (0, 0, [], 2) := by unfold matV matBad; rw [if_pos (by simp [c2])]
        rw [e]; simp only [c1, c2, if_true, if_false]; exact hj true rfl
      · simp only [c1, c2, if_false]
        have good : (∀ v ∈ x.f0, 0 ≤ v ∧ v < cols) → Ev (fun k => flow_Matrix.j0 k cols false x.f0 x.f1 x.f2) ((x.f2.length : Int), cols, flatN (matF x.f0 x.f1 x.f2 cols.toNat), 0) := by
          intro hv
          obtain ⟨n, rfl⟩ : ∃ n : Nat, (n : Int) = cols := ⟨cols.toNat, by omega⟩
          have hu : OkB n (x.f0.map (unit n)) := fun y hy => by
            obtain ⟨v, _, rfl⟩ := List.mem_map.1 hy
            exact ⟨unit_len _ _, unit_byte _ _⟩
          have hrun := run_l0 x.f0 x.f1 x.f2 n (by omega) x.f0.length h1 h2 (runs_terms hr) (fun o ho => by have := hg.outs o ho; omega) h3 x.f1.length 0 (x.f0.map (unit n)) (by omega) (by simp) hu
          rw [List.drop_zero] at hrun
          have hok := matF_ok n (fun i hi => (runs_terms hr i hi).1) (fun o ho => by have := hg.outs o ho; omega)
          have hml : (matF x.f0 x.f1 x.f2 n).length = x.f2.length := by simp [matF, outF]
          have hl1 := mat_l1 (by omega : n ≤ 64) (matF x.f0 x.f1 x.f2 n) hok (by omega) (x.f2.length : Int) (n : Int) (matF x.f0 x.f1 x.f2 n).length 0 (by omega)
          have hl0 := mat_l0 x.f0 x.f1 x.f2 n (by omega) h1 hv ((x.f2.length : Int), (n : Int), flatN (matF x.f0 x.f1 x.f2 n), 0) (by
            refine Ev.bind (a := matF x.f0 x.f1 x.f2 n) (Ev.congr (fun k => ?_) hrun) hl1
            simp only [flow_run.f, slices_Clone_byte_byte_49.f, Option.bind_some, List.length_nil, List.nil_append]
            rw [if_pos (by simp; omega), Option.bind_some]
            rfl) x.f0.length 0 (by omega)
          rw [Int.toNat_natCast]
          refine Ev.step (fun k => ?_) hl0
          simp only [flow_Matrix.j0]
          rw [if_neg (by simp)]
          rfl
        by_cases c3 : (x.f0.length : Int) > 0
        · simp only [c3, if_true]
          have hlast : rd x.f0 ((x.f0.length : Int) - 1) = x.f0[x.f0.length - 1]'(by omega) := by
            rw [show (x.f0.length : Int) - 1 = ((x.f0.length - 1 : Nat) : Int) from by omega, rd_get x.f0 _ (by omega)]
          by_cases c4 : rd x.f0 ((x.f0.length : Int) - 1) ≥ cols
          · have e : matV x.f0 x.f1 x.f2 cols = (0, 0, [], 2) := by unfold matV matBad; rw [if_pos (by simp only [Bool.or_eq_true, Bool.and_eq_true, decide_eq_true_eq]; exact .inr ⟨by omega, c4⟩)]
            rw [e]
            refine Ev.congr (fun k => ?_) (hj true rfl)
            rw [w64 (by omega) (by omega), if_pos (by omega), if_pos (by omega), decide_eq_true c4]
          · have e : matV x.f0 x.f1 x.f2 cols = ((x.f2.length : Int), cols, flatN (matF x.f0 x.f1 x.f2 cols.toNat), 0) := by
              unfold matV matBad
              rw [if_neg]
              simp only [Bool.or_eq_true, Bool.and_eq_true, decide_eq_true_eq, Bool.not_eq_true', c0]
              rintro (((hx | hx) | hx) | hx)
              · cases hx
              · exact c1 hx
              · exact c2 hx
              · exact c4 hx.2
            rw [e]
            refine Ev.congr (fun k => ?_) (good (fun v hv => ⟨hr.pos v hv, by have := mayIns_last x.f0 _ hmi v hv (by omega); omega⟩))
            rw [w64 (by omega) (by omega), if_pos (by omega), if_pos (by omega), decide_eq_false c4]
        · have h0 : x.f0 = [] := List.eq_nil_of_length_eq_zero (by omega)
          have e : matV x.f0 x.f1 x.f2 cols = ((x.f2.length : Int), cols, flatN (matF x.f0 x.f1 x.f2 cols.toNat), 0) := by
            unfold matV matBad
            rw [if_neg]
            simp only [Bool.or_eq_true, Bool.and_eq_true, decide_eq_true_eq, Bool.not_eq_true', c0]
            rintro (((hx | hx) | hx) | hx)
            · cases hx
            · exact c1 hx
            · exact c2 hx
            · omega
          rw [e]
          simp only [c3, if_false]
          exact good (fun v hv => by rw [h0] at hv; cases hv)
  · have hc : mayB x.f0 x.f1 x.f2 = false := by simpa using c0
    have e : matV x.f0 x.f1 x.f2 cols = (0, 0, [], 2) := by unfold matV matBad; rw [hc]; simp
    rw [e, hc]
    exact hj true rfl
/-! the reference's Apply -/
theorem at_ev {n : Nat} (rows : List (List Int)) (hr : OkB n rows) (hl : rows.length ≤ 64) (hn : n ≤ 64) (i j : Nat) (hi : i < rows.length) (hj : j < n) (a : Int) : recoupref03_At.f a (n : Int) (flatN rows) (i : Int) (j : Int) = some (rd (rd_L9 rows (i : Int)) (j : Int)) := by
  have h1 : i * n ≤ 63 * 64 := Nat.mul_le_mul (by omega) hn
  have h2 : (i : Int) * (n : Int) = ((i * n : Nat) : Int) := by rw [Int.natCast_mul]
  have hlen := flat_len rows hr
  have h3 : i * n + n ≤ rows.length * n := by
    have := Nat.mul_le_mul_right n (show i + 1 ≤ rows.length from hi)
    rw [Nat.succ_mul] at this
    exact this
  unfold recoupref03_At.f
  rw [h2, w64 (x := ((i * n : Nat) : Int)) (by omega) (by omega), w64 (by omega) (by omega), if_pos (by omega), if_pos (by omega), rd9 rows i hi]
  congr 1
  unfold rd
  rw [show (((i * n : Nat) : Int) + (j : Int)).toNat = i * n + j from by omega, Int.toNat_natCast, List.getD_eq_getElem?_getD, List.getD_eq_getElem?_getD, flat_get rows hr i j hi hj]
section
variable {S n : Nat} {bl rows : List (List Int)} (hb : OkB S bl) (hS : S ≤ 140737488351232) (hbn : bl.length = n) (hn : n ≤ 64) (hr : OkB n rows) (hl : rows.length ≤ 64)
include hb hS hbn hn hr hl
end
end Go.Proofs.Ytfnhnniecclleaa.Spec
