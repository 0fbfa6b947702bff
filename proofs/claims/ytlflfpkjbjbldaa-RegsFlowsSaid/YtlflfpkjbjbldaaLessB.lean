/- What Trim leaves runs alike. -/
import Derived.Test.YtlflfpkjbjbldaaFew
import Derived.Test.YtlflfpkjbjbldaaBytes
import Derived.Test.YtlflfpkjbjbldaaRunA
import Derived.Test.YtlflfpkjbjbldaaPAx12
import Derived.Test.YtlflfpkjbjbldaaPAx13
namespace Go.Proofs.Ytlflfpkjbjbldaa.Spec
open Go.RowKit Go.Proofs.Ytlflfpkjbjbldaa.PA Go.Proofs.YtlflfpkjbjbldaaW.PrintWords Go.Proofs.YtlflfpkjbjbldaaW.PrintLast Go.Proofs.YtlflfpkjbjbldaaW.PrintMore
set_option linter.unusedVariables false
set_option linter.unusedSectionVars false
def rowF (vals : List (List Int)) : List Int → List S62 → List Int
  | acc, [] => acc
  | acc, t :: r => rowF vals (xorB acc (scB t.f1 (rd_L13 vals t.f0))) r
def runF (L : Nat) : List (List Int) → List (List S62) → List (List Int)
  | vals, [] => vals
  | vals, n :: r => runF L (vals ++ [rowF vals (List.replicate L 0) n]) r
def outF (vals : List (List Int)) (outs : List Int) : List (List Int) := outs.map fun o => rd_L13 vals o
def termIn (m : Nat) (l : List S62) : Prop := ∀ t ∈ l, 0 ≤ t.f0 ∧ t.f0 < (m : Int) ∧ 0 ≤ t.f1 ∧ t.f1 < 256
theorem ok_rd {L : Nat} {vals : List (List Int)} (h : OkB L vals) {i : Int} (h0 : 0 ≤ i) (h1 : i < vals.length) : (rd_L13 vals i).length = L ∧ byteL (rd_L13 vals i) := by
  obtain ⟨n, rfl⟩ : ∃ n : Nat, (n : Int) = i := ⟨i.toNat, by omega⟩
  rw [rd9 vals n (by omega)]
  exact h _ (List.getElem_mem _)
theorem rowF_ok {L : Nat} {vals : List (List Int)} (h : OkB L vals) : ∀ (l : List S62) (acc : List Int), termIn vals.length l → acc.length = L → byteL acc → (rowF vals acc l).length = L ∧ byteL (rowF vals acc l)
  | [], acc, _, hl, hb => ⟨hl, hb⟩
  | t :: r, acc, ht, hl, hb => by
    have htt := ht t (by simp)
    have hr := ok_rd h htt.1 htt.2.1
    rw [rowF]
    exact rowF_ok h r _ (fun x hx => ht x (by simp [hx])) (by rw [xorB_len (by rw [scB, List.length_map, hr.1, hl]), hl]) (xorB_byte _ _)
theorem ok_snoc {L : Nat} {vals : List (List Int)} (h : OkB L vals) {v : List Int} (hl : v.length = L) (hb : byteL v) : OkB L (vals ++ [v]) := fun x hx => by
  rcases List.mem_append.1 hx with hx | hx
  · exact h x hx
  · rw [List.mem_singleton.1 hx]; exact ⟨hl, hb⟩
section
variable (ins : List Int) (nodes : List (List S62)) (outs : List Int)
/-! the program's run -/
/-! the reference's Mac and Run -/
theorem rrun_l3 (L : Nat) (hL : L ≤ 140737488351232) (vals : List (List Int)) (hv : OkB L vals) (hvn : vals.length < 5864062014805) (n : Nat) (hn : n < nodes.length) (hnn : nodes.length ≤ 4096) (hts : termIn vals.length nodes[n]) (htl : nodes[n].length ≤ 9223372036854775807) (R : List (List Int) × Int) (d : Nat) : ∀ (i : Nat) (acc : List Int), i + d = nodes[n].length → acc.length = L → byteL acc →
    Ev (fun k => recoupref21_Run.l2 k (L : Int) (vals ++ [rowF vals acc (nodes[n].drop i)]) (wrap64 ((n : Int) + 1)) ins nodes outs) R →
    Ev (fun k => recoupref21_Run.l3 k (L : Int) vals (n : Int) acc (i : Int) ins nodes outs) R := by
  have er : rd_L4 nodes (n : Int) = nodes[n] := rdL nodes n hn
  induction d with
  | zero =>
    intro i acc hi hl hb hR
    rw [drop_end _ i (by omega), rowF] at hR
    refine Ev.step (fun k => ?_) hR
    simp only [recoupref21_Run.l3, er]
    rw [if_pos (by omega), if_pos (by omega), if_neg (by omega), if_pos hvn]
  | succ d ih =>
    intro i acc hi hl hb hR
    have hil : i < nodes[n].length := by omega
    have htt := hts _ (List.getElem_mem hil)
    have hr := ok_rd hv htt.1 htt.2.1
    rw [drop_cons _ i hil, rowF] at hR
    have hsl : (scB nodes[n][i].f1 (rd_L13 vals nodes[n][i].f0)).length = L := by rw [scB, List.length_map, hr.1]
    have hnext := ih (i + 1) (xorB acc (scB nodes[n][i].f1 (rd_L13 vals nodes[n][i].f0))) (by omega) (by rw [xorB_len (by omega), hl]) (xorB_byte _ _) hR
    refine Ev.step (f := fun k => (recoupref01_Mac.f k acc nodes[n][i].f1 (rd_L13 vals nodes[n][i].f0)).bind fun bt => recoupref21_Run.l3 k (L : Int) vals (n : Int) bt.1 ((i + 1 : Nat) : Int) ins nodes outs) (fun k => ?_) (Ev.bind (mac_ev nodes[n][i].f1 htt.2.2.1 htt.2.2.2 acc (rd_L13 vals nodes[n][i].f0) (by omega) (by omega) hr.2) hnext)
    simp only [recoupref21_Run.l3, er]
    rw [if_pos (by omega), if_pos (by omega), if_pos (by omega), if_pos (by omega), rdT _ i hil, if_pos (by omega), if_pos (by omega), w64 (by omega) (by omega), i1]
theorem rrun_l4 (vals : List (List Int)) (L : Nat) (hL : L ≤ 140737488351232) (hv : OkB L vals) (ho : ∀ o ∈ outs, 0 ≤ o ∧ o < (vals.length : Int)) (hol : outs.length ≤ 64) (d : Nat) : ∀ (i : Nat), i + d = outs.length →
    Ev (fun k => recoupref21_Run.l4 k vals (outF vals (outs.take i)) (i : Int) ins nodes outs) (outF vals outs, 0) := by
  induction d with
  | zero =>
    intro i hi
    rw [List.take_of_length_le (by omega)]
    refine Ev.step (fun k => ?_) (Ev.now _)
    simp only [recoupref21_Run.l4]
    rw [if_neg (by omega)]
  | succ d ih =>
    intro i hi
    have hil : i < outs.length := by omega
    have hoo := ho _ (List.getElem_mem hil)
    have hr := ok_rd hv hoo.1 hoo.2
    have hnext := ih (i + 1) (by omega)
    have e : outF vals (outs.take (i + 1)) = outF vals (outs.take i) ++ [rd_L13 vals outs[i]] := by
      rw [List.take_succ_eq_append_getElem hil, outF, List.map_append]; rfl
    rw [e] at hnext
    refine Ev.step (fun k => ?_) hnext
    simp only [recoupref21_Run.l4]
    rw [if_pos (by omega), if_pos (by omega), rd_get outs i hil, if_pos (by omega), if_pos (by omega)]
    simp only [recoupref01_Copy.f, Option.bind_some, List.length_nil, List.nil_append]
    rw [if_pos (by omega), Option.bind_some, if_pos (by simp [outF]; omega), w64 (by omega) (by omega), i1]
theorem rrun_l2 (L : Nat) (hL : L ≤ 140737488351232) (m : Nat) (hm : m ≤ 64) (hn : nodes.length ≤ 4096) (hts : ∀ n (h : n < nodes.length), termIn (m + n) nodes[n] ∧ nodes[n].length ≤ 4160) (ho : ∀ o ∈ outs, 0 ≤ o ∧ o < ((m + nodes.length : Nat) : Int)) (hol : outs.length ≤ 64) (d : Nat) : ∀ (n : Nat) (vals : List (List Int)), n + d = nodes.length → vals.length = m + n → OkB L vals →
    Ev (fun k => recoupref21_Run.l2 k (L : Int) vals (n : Int) ins nodes outs) (outF (runF L vals (nodes.drop n)) outs, 0) := by
  induction d with
  | zero =>
    intro n vals h hl hv
    rw [drop_end nodes n (by omega), runF]
    refine Ev.step (fun k => ?_) (rrun_l4 ins nodes outs vals L hL hv (fun o h => by have := ho o h; omega) hol outs.length 0 (by omega))
    simp only [recoupref21_Run.l2]
    rw [if_neg (by omega)]
    rfl
  | succ d ih =>
    intro n vals h hl hv
    have hnl : n < nodes.length := by omega
    have ht := hts n hnl
    rw [← hl] at ht
    rw [drop_cons nodes n hnl, runF]
    have hrow := rowF_ok hv nodes[n] (List.replicate L 0) ht.1 (by simp) (rep_byte L)
    have hnext := ih (n + 1) (vals ++ [rowF vals (List.replicate L 0) nodes[n]]) (by omega) (by simp; omega) (ok_snoc hv hrow.1 hrow.2)
    refine Ev.step (fun k => ?_) (rrun_l3 ins nodes outs L hL vals hv (by omega) n hnl hn ht.1 (by omega) _ nodes[n].length 0 (List.replicate L 0) (by omega) (by simp) (rep_byte L) (by
      rw [w64 (by omega) (by omega), i1, List.drop_zero]; exact hnext))
    simp only [recoupref21_Run.l2]
    rw [if_pos (by omega), if_pos (by omega), if_pos (by omega), Int.toNat_natCast]
    rfl
/-! the fronts of both -/
def lenB (bl : List (List Int)) : Nat := (rd_L13 bl 0).length
def pickB (bl : List (List Int)) (ins : List Int) : List (List Int) := ins.map fun v => rd_L13 bl v
def frontV (bl : List (List Int)) : List (List Int) × Int := if ins.any (fun v => decide (v ≥ (bl.length : Int))) = true then ([], 3) else (outF (runF (lenB bl) (pickB bl ins) nodes) outs, 0)
def runV (bl : List (List Int)) : List (List Int) × Int := if bl.all (fun b => decide (b.length = lenB bl)) = true then frontV ins nodes outs bl else ([], 3)
structure Runs (bl : List (List Int)) : Prop where
  good : Good ins nodes outs
  pos : ∀ v ∈ ins, 0 ≤ v
  f1 : ∀ l ∈ nodes, ∀ t ∈ l, 0 ≤ t.f1 ∧ t.f1 < 256
  bn : bl.length ≤ 5864062014634
  bb : ∀ b ∈ bl, b.length ≤ 140737488351232 ∧ byteL b
variable {ins nodes outs} {bl : List (List Int)} (hr : Runs ins nodes outs bl)
include hr
theorem runs_terms : ∀ n (h : n < nodes.length), termIn (ins.length + n) nodes[n] ∧ nodes[n].length ≤ 4160 := fun n h =>
  ⟨fun t ht => ⟨(hr.good.term n h t ht).1, by have := (hr.good.term n h t ht).2.1; omega, hr.f1 _ (List.getElem_mem h) t ht⟩, hr.good.tlen n h⟩
theorem lenB_le : lenB bl ≤ 140737488351232 := by
  unfold lenB
  cases bl with
  | nil => simp [rd_L13]
  | cons b r => have := (hr.bb b (by simp)).1; simpa [rd_L13] using this
theorem pick_ok (ha : bl.all (fun b => decide (b.length = lenB bl)) = true) (hi : ins.any (fun v => decide (v ≥ (bl.length : Int))) = false) : OkB (lenB bl) (pickB bl ins) := by
  intro x hx
  obtain ⟨v, hv, rfl⟩ := List.mem_map.1 hx
  have h0 := hr.pos v hv
  have h1 : v < (bl.length : Int) := by
    have := List.any_eq_false.1 hi v hv
    simpa using this
  obtain ⟨n, rfl⟩ : ∃ n : Nat, (n : Int) = v := ⟨v.toNat, by omega⟩
  rw [rd9 bl n (by omega)]
  have hm := List.getElem_mem (l := bl) (n := n) (by omega)
  exact ⟨by simpa using List.all_eq_true.1 ha _ hm, (hr.bb _ hm).2⟩
theorem ref_Run_l1 (ha : bl.all (fun b => decide (b.length = lenB bl)) = true) (d : Nat) : ∀ (i : Nat), i + d = ins.length → (ins.take i).any (fun v => decide (v ≥ (bl.length : Int))) = false →
    Ev (fun k => recoupref21_Run.l1 k bl (lenB bl : Int) (pickB bl (ins.take i)) (i : Int) ins nodes outs) (frontV ins nodes outs bl) := by
  have h1 := hr.good.n0
  induction d with
  | zero =>
    intro i hi ht
    rw [List.take_of_length_le (by omega)] at ht ⊢
    have hn := lenB_le hr
    have h0 := rrun_l2 ins nodes outs (lenB bl) hn ins.length h1 hr.good.nN (runs_terms hr) (fun o ho => by have := hr.good.outs o ho; omega) hr.good.nO nodes.length 0 (pickB bl ins) (by omega) (by simp [pickB]) (pick_ok hr ha ht)
    unfold frontV
    rw [ht, if_neg (by simp)]
    refine Ev.step (fun k => ?_) h0
    simp only [recoupref21_Run.l1]
    rw [if_neg (by omega)]
    rfl
  | succ d ih =>
    intro i hi ht
    have hil : i < ins.length := by omega
    have h0 := hr.pos _ (List.getElem_mem hil)
    by_cases c : ins[i] ≥ (bl.length : Int)
    · have hany : ins.any (fun v => decide (v ≥ (bl.length : Int))) = true := List.any_eq_true.2 ⟨_, List.getElem_mem hil, by simpa using c⟩
      unfold frontV
      rw [if_pos hany]
      refine Ev.step (fun k => ?_) (Ev.now _)
      simp only [recoupref21_Run.l1]
      rw [if_pos (by omega), if_pos (by omega), rd_get ins i hil, if_pos c]
    · have e : pickB bl (ins.take (i + 1)) = pickB bl (ins.take i) ++ [rd_L13 bl ins[i]] := by rw [List.take_succ_eq_append_getElem hil, pickB, List.map_append]; rfl
      have hnext := ih (i + 1) (by omega) (by
        rw [List.take_succ_eq_append_getElem hil, List.any_append, ht]
        simpa using c)
      rw [e] at hnext
      have hb : (rd_L13 bl ins[i]).length ≤ 140737488351232 := by
        obtain ⟨n, hn⟩ : ∃ n : Nat, (n : Int) = ins[i] := ⟨ins[i].toNat, by omega⟩
        rw [← hn, rd9 bl n (by omega)]
        exact (hr.bb _ (List.getElem_mem _)).1
      refine Ev.step (fun k => ?_) hnext
      simp only [recoupref21_Run.l1]
      rw [if_pos (by omega), if_pos (by omega), rd_get ins i hil, if_neg c, if_pos (by omega), if_pos (by omega)]
      simp only [recoupref01_Copy.f, Option.bind_some, List.length_nil, List.nil_append]
      rw [if_pos (by omega), Option.bind_some, if_pos (by simp [pickB]; omega), w64 (by omega) (by omega), i1]
theorem all_take (i : Nat) (h : i < bl.length) (ht : (bl.take i).all (fun b => decide (b.length = lenB bl)) = true) (hb : bl[i].length = lenB bl) : (bl.take (i + 1)).all (fun b => decide (b.length = lenB bl)) = true := by
  rw [List.take_succ_eq_append_getElem h, List.all_append, ht]
  simpa using hb
theorem ref_Run_l0 (d : Nat) : ∀ (i : Nat) (x : Int), i + d = bl.length → x = (if i = 0 then 0 else (lenB bl : Int)) → (bl.take i).all (fun b => decide (b.length = lenB bl)) = true →
    Ev (fun k => recoupref21_Run.l0 k bl x (i : Int) ins nodes outs) (runV ins nodes outs bl) := by
  have hbn := hr.bn
  induction d with
  | zero =>
    intro i x hi hx ht
    rw [List.take_of_length_le (by omega)] at ht
    have hx' : x = (lenB bl : Int) := by
      rw [hx]
      split
      · have : bl = [] := List.eq_nil_of_length_eq_zero (by omega)
        subst this; rfl
      · rfl
    subst hx'
    unfold runV
    rw [if_pos ht]
    refine Ev.step (fun k => ?_) (ref_Run_l1 hr ht ins.length 0 (by omega) (by simp))
    simp only [recoupref21_Run.l0]
    rw [if_neg (by omega)]
    rfl
  | succ d ih =>
    intro i x hi hx ht
    have hil : i < bl.length := by omega
    by_cases c1 : bl[i].length = lenB bl
    · refine Ev.step (fun k => ?_) (ih (i + 1) (lenB bl : Int) (by omega) (by simp) (all_take hr i hil ht c1))
      simp only [recoupref21_Run.l0]
      rw [if_pos (by omega), if_pos (by omega), if_pos (by omega), rd9 bl i hil, if_pos (by have := c1; unfold lenB at this; omega), w64 (by omega) (by omega), i1]
      rfl
    · have hna : ¬ bl.all (fun b => decide (b.length = lenB bl)) = true := fun e => c1 (by simpa using List.all_eq_true.1 e _ (List.getElem_mem hil))
      unfold runV
      rw [if_neg hna]
      refine Ev.step (fun k => ?_) (Ev.now _)
      simp only [recoupref21_Run.l0]
      rw [if_pos (by omega), if_pos (by omega), if_pos (by omega), rd9 bl i hil, if_neg (by have := c1; unfold lenB at this; omega)]
end
def runB (ins : List Int) (nodes : List (List S62)) (outs : List Int) (bl : List (List Int)) : List (List Int) × Int := if mayB ins nodes outs = true then runV ins nodes outs bl else ([], 2)
theorem runs_of {x : S25} {bl : List (List Int)} (h : FlowI x) (hb : bl.length * 24 ≤ 140737488351232) (hbb : ∀ l ∈ bl, l.length * 1 ≤ 140737488351232 ∧ ∀ y ∈ l, 0 ≤ y ∧ y < 256) (hm : mayB x.f0 x.f1 x.f2 = true) : Runs x.f0 x.f1 x.f2 bl := by
  refine ⟨good_of_may hm, ?_, fun l hl t ht => ?_, by omega, fun b hbm => ⟨by have := (hbb b hbm).1; omega, (hbb b hbm).2⟩⟩
  · have hm' := hm
    unfold mayB at hm'
    simp only [Bool.and_eq_true] at hm'
    intro v hv
    have := mayIns_pos _ _ hm'.1.1.1.1 v hv
    omega
  · have := ((h.2.1.2 l hl).2 t ht).2
    have h2 : 0 ≤ t.f1 ∧ t.f1 ≤ 255 := by simpa [Lit.wf, IntKind.min, IntKind.max, IntKind.bits, IntKind.signed] using this
    omega
theorem ref_Run_ev {x : S25} {bl : List (List Int)} (h : FlowI x) (hb : bl.length * 24 ≤ 140737488351232) (hbb : ∀ l ∈ bl, l.length * 1 ≤ 140737488351232 ∧ ∀ y ∈ l, 0 ≤ y ∧ y < 256) : Ev (fun k => recoupref21_Run.f k x.f0 x.f1 x.f2 bl) (runB x.f0 x.f1 x.f2 bl) := by
  refine Ev.congr (fun k => rfl) (Ev.bind (rmay_ev x.f0 x.f1 x.f2 (by have := h.1.1; omega) (fun l hl => by have := (h.2.1.2 l hl).1; omega)) ?_)
  unfold runB
  by_cases c : mayB x.f0 x.f1 x.f2 = true
  · simp only [c, if_true]
    exact ref_Run_l0 (runs_of h hb hbb c) bl.length 0 0 (by omega) rfl (by simp)
  · simp only [c]
    exact Ev.now _
theorem runB_len {ins : List Int} {nodes : List (List S62)} {outs : List Int} (bl : List (List Int)) : (runB ins nodes outs bl).1.length ≤ 64 := by
  unfold runB
  split
  · have hg := good_of_may (by assumption)
    have := hg.nO
    unfold runV frontV
    split
    · split
      · simp
      · simp [outF]; omega
    · simp
  · simp
end Go.Proofs.Ytlflfpkjbjbldaa.Spec

namespace Go.Proofs.Ytlflfpkjbjbldaa.Spec
open Go.RowKit Go.Proofs.Ytlflfpkjbjbldaa.PA Go.Proofs.YtlflfpkjbjbldaaW.PrintWords Go.Proofs.YtlflfpkjbjbldaaW.PrintLast Go.Proofs.YtlflfpkjbjbldaaW.PrintMore
set_option linter.unusedVariables false
set_option linter.unusedSimpArgs false
set_option linter.unusedSectionVars false
theorem runF_len (L : Nat) : ∀ (nodes : List (List S62)) (V : List (List Int)), (runF L V nodes).length = V.length + nodes.length
  | [], V => by simp [runF]
  | ts :: r, V => by rw [runF, runF_len L r]; simp; omega
theorem runF_snoc (L : Nat) (x : List S62) : ∀ (l : List (List S62)) (V : List (List Int)), runF L V (l ++ [x]) = runF L V l ++ [rowF (runF L V l) (List.replicate L 0) x]
  | [], V => rfl
  | y :: r, V => by show runF L _ (r ++ [x]) = _; rw [runF_snoc L x r, runF]
theorem rowF_T (h : List Bool) (V VT : List (List Int)) : ∀ (l : List S62) (acc : List Int), (∀ t ∈ l, rd_L13 VT (rank h t.f0.toNat : Int) = rd_L13 V t.f0) → rowF VT acc (fRow h l) = rowF V acc l
  | [], _, _ => rfl
  | t :: r, acc, ht => by
    show rowF VT acc ((⟨(rank h t.f0.toNat : Int), t.f1⟩ : S62) :: fRow h r) = _
    rw [rowF, rowF, ht t (by simp)]
    exact rowF_T h V VT r _ (fun x hx => ht x (by simp [hx]))
theorem rd9_left (A : List (List Int)) (x : List Int) (i : Nat) (h : i < A.length) : rd_L13 (A ++ [x]) (i : Int) = rd_L13 A (i : Int) := by
  rw [rd9 _ i (by simp; omega), rd9 _ i h, List.getElem_append_left h]
theorem rd9_last (A : List (List Int)) (x : List Int) (i : Nat) (h : i = A.length) : rd_L13 (A ++ [x]) (i : Int) = x := by
  subst h; simp [rd_L13]
section
variable {ins : List Int} {nodes : List (List S62)} {outs : List Int} {W : List Bool} (hmay : mayB ins nodes outs = true) (hF : Final (ins := ins) (nodes := nodes) (outs := outs) W) (bl : List (List Int)) (S : Nat)
include hmay hF
theorem run_T : ∀ d, d ≤ nodes.length → ∀ u, u < ins.length + d → mb W u = true → rd_L13 (runF S (pickB bl (fIns ins W ins.length)) (fNodes ins nodes W (ins.length + d))) (rank W u : Int) = rd_L13 (runF S (pickB bl ins) (nodes.take d)) (u : Int)
  | 0, _, u, hu, hm => by
    rw [Nat.add_zero, fNodes_lo W _ (Nat.le_refl _), List.take_zero, runF, runF]
    have hg := fIns_get ins W ins.length (Nat.le_refl _) u (by omega) hm
    have hl := fIns_rank ins W ins.length (Nat.le_refl _)
    have hr := rank_lt W hm (show u < ins.length by omega)
    rw [rd9 _ _ (by rw [pickB, List.length_map]; omega), rd9 _ _ (by rw [pickB, List.length_map]; omega)]
    simp only [pickB, List.getElem_map]
    rw [List.getElem?_eq_getElem (by omega)] at hg
    rw [Option.some.inj hg, rd_get ins u (by omega)]
  | d + 1, hd, u, hu, hm => by
    have ih := run_T d (by omega)
    have hl := fNodes_rank ins nodes W d
    have hi := fIns_rank ins W ins.length (Nat.le_refl _)
    have l1 := runF_len S (nodes.take d) (pickB bl ins)
    have l2 := runF_len S (fNodes ins nodes W (ins.length + d)) (pickB bl (fIns ins W ins.length))
    rw [pickB, List.length_map, List.length_take, Nat.min_eq_left (by omega)] at l1
    rw [pickB, List.length_map, hi] at l2
    rw [← Nat.add_assoc, fNodes, List.take_succ_eq_append_getElem (by omega : d < nodes.length), runF_snoc]
    by_cases hmv : mb W (ins.length + d) = true
    · have hk := term_mk hmay hF d (by omega) hmv
      rw [if_pos hmv, if_neg (by omega), Nat.add_sub_cancel_left, rdL nodes d (by omega), runF_snoc, rowF_T W (runF S (pickB bl ins) (nodes.take d))]
      · by_cases e : u = ins.length + d
        · subst e
          rw [rd9_last _ _ _ (by unfold pickB; omega), rd9_last _ _ _ (by unfold pickB; omega)]
        · have := rank_lt W hm (show u < ins.length + d by omega)
          rw [rd9_left _ _ _ (by unfold pickB; omega), rd9_left _ _ _ (by unfold pickB; omega)]
          exact ih u (by omega) hm
      · intro t ht
        have := hk t ht
        have e := ih t.f0.toNat this.2.1 this.1
        rw [Int.toNat_of_nonneg this.2.2] at e
        exact e
    · rw [if_neg hmv]
      have e : u ≠ ins.length + d := fun e => by subst e; exact absurd hm hmv
      rw [rd9_left _ _ _ (by unfold pickB; omega)]
      exact ih u (by omega) hm
theorem out_T : outF (runF S (pickB bl (fIns ins W ins.length)) (fNodes ins nodes W (ins.length + nodes.length))) (fOuts outs W) = outF (runF S (pickB bl ins) nodes) outs := by
  unfold outF fOuts
  rw [List.map_map]
  apply List.map_congr_left
  intro o ho
  have h := out_mk hmay hF o ho
  have e := run_T hmay hF bl S nodes.length (Nat.le_refl _) o.toNat h.2.1 h.1
  rw [List.take_length, Int.toNat_of_nonneg h.2.2] at e
  exact e
end
theorem fNodes_mem {ins : List Int} {nodes : List (List S62)} (h : List Bool) : ∀ d, d ≤ nodes.length → ∀ l ∈ fNodes ins nodes h (ins.length + d), ∃ l0 ∈ nodes, l = fRow h l0
  | 0, _, l, hl => by rw [Nat.add_zero, fNodes_lo h _ (Nat.le_refl _)] at hl; cases hl
  | d + 1, hd, l, hl => by
    rw [← Nat.add_assoc, fNodes] at hl
    by_cases hm : mb h (ins.length + d) = true
    · rw [if_pos hm, if_neg (by omega), Nat.add_sub_cancel_left, rdL nodes d (by omega)] at hl
      rcases List.mem_append.1 hl with hl | hl
      · exact fNodes_mem h d (by omega) l hl
      · exact ⟨nodes[d], List.getElem_mem _, List.mem_singleton.1 hl⟩
    · rw [if_neg hm] at hl
      exact fNodes_mem h d (by omega) l hl
end Go.Proofs.Ytlflfpkjbjbldaa.Spec
