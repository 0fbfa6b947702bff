/- FlowRuns' plain law: the program's Run and the reference's fold the same rows over the same values. -/
import Derived.Test.YtfnhnniecclleaaMul
import Derived.Test.YtfnhnniecclleaaTrim
import Derived.Test.YtfnhnniecclleaaPAx17
namespace Go.Proofs.Ytfnhnniecclleaa.Spec
open Go.RowKit Go.Proofs.Ytfnhnniecclleaa.PA Go.Proofs.YtfnhnniecclleaaW.PrintWords Go.Proofs.YtfnhnniecclleaaW.PrintLast Go.Proofs.YtfnhnniecclleaaW.PrintMore
set_option linter.unusedVariables false
set_option linter.unusedSectionVars false
def byteL (l : List Int) : Prop := ∀ y ∈ l, 0 ≤ y ∧ y < 256
def OkB (L : Nat) (vals : List (List Int)) : Prop := ∀ v ∈ vals, v.length = L ∧ byteL v
def xorB (a b : List Int) : List Int := List.zipWith (Go.bits .xor .u8) a b
theorem rd9 (l : List (List Int)) (i : Nat) (h : i < l.length) : rd_L9 l (i : Int) = l[i] := by simp [rd_L9, h]
theorem xorB_len {a b : List Int} (h : a.length = b.length) : (xorB a b).length = a.length := by rw [xorB, List.length_zipWith, h, Nat.min_self]
theorem xor_byte (a b : Int) : 0 ≤ Go.bits .xor .u8 a b ∧ Go.bits .xor .u8 a b < 256 := by
  have h1 := Go.bits_lo_u8 .xor a b
  have h2 := Go.bits_hi_u8 .xor a b
  omega
theorem xorB_byte : ∀ (a b : List Int), byteL (xorB a b)
  | [], _, y, h => by simp [xorB] at h
  | _ :: _, [], y, h => by simp [xorB] at h
  | a :: r, b :: s, y, h => by
    rcases List.mem_cons.1 (show y ∈ Go.bits .xor .u8 a b :: xorB r s from h) with rfl | h
    · exact xor_byte a b
    · exact xorB_byte r s y h
def scB (c : Int) (l : List Int) : List Int := l.map (mulT c)
def rowF (vals : List (List Int)) : List Int → List S64 → List Int
  | acc, [] => acc
  | acc, t :: r => rowF vals (xorB acc (scB t.f1 (rd_L9 vals t.f0))) r
def runF (L : Nat) : List (List Int) → List (List S64) → List (List Int)
  | vals, [] => vals
  | vals, n :: r => runF L (vals ++ [rowF vals (List.replicate L 0) n]) r
def outF (vals : List (List Int)) (outs : List Int) : List (List Int) := outs.map fun o => rd_L9 vals o
def termIn (m : Nat) (l : List S64) : Prop := ∀ t ∈ l, 0 ≤ t.f0 ∧ t.f0 < (m : Int) ∧ 0 ≤ t.f1 ∧ t.f1 < 256
theorem ok_rd {L : Nat} {vals : List (List Int)} (h : OkB L vals) {i : Int} (h0 : 0 ≤ i) (h1 : i < vals.length) : (rd_L9 vals i).length = L ∧ byteL (rd_L9 vals i) := by
  obtain ⟨n, rfl⟩ : ∃ n : Nat, (n : Int) = i := ⟨i.toNat, by omega⟩
  rw [rd9 vals n (by omega)]
  exact h _ (List.getElem_mem _)
theorem rowF_ok {L : Nat} {vals : List (List Int)} (h : OkB L vals) : ∀ (l : List S64) (acc : List Int), termIn vals.length l → acc.length = L → byteL acc → (rowF vals acc l).length = L ∧ byteL (rowF vals acc l)
  | [], acc, _, hl, hb => ⟨hl, hb⟩
  | t :: r, acc, ht, hl, hb => by
    have htt := ht t (by simp)
    have hr := ok_rd h htt.1 htt.2.1
    rw [rowF]
    exact rowF_ok h r _ (fun x hx => ht x (by simp [hx])) (by rw [xorB_len (by rw [scB, List.length_map, hr.1, hl]), hl]) (xorB_byte _ _)
theorem rep_byte (L : Nat) : byteL (List.replicate L 0) := fun y hy => by rw [(List.mem_replicate.1 hy).2]; omega
theorem ok_snoc {L : Nat} {vals : List (List Int)} (h : OkB L vals) {v : List Int} (hl : v.length = L) (hb : byteL v) : OkB L (vals ++ [v]) := fun x hx => by
  rcases List.mem_append.1 hx with hx | hx
  · exact h x hx
  · rw [List.mem_singleton.1 hx]; exact ⟨hl, hb⟩
theorem scale_f (c : Int) (l : List Int) (h0 : 0 ≤ c) (h1 : c < 256) (hl : byteL l) (hn : l.length ≤ 281474976710656) : field_Scale.f c l = some (scB c l) := by
  unfold field_Scale.f
  rw [if_pos, if_pos hn]; rfl
  simp only [Bool.and_eq_true, inByte, decide_eq_true_eq, List.all_eq_true]
  exact ⟨⟨h0, h1⟩, hl⟩
section
variable (ins : List Int) (nodes : List (List S64)) (outs : List Int)
/-! the program's run -/
theorem run_l2 (L : Int) (vals : List (List Int)) (N n : Int) (ts : List S64) (T i : Int) (R : List (List Int)) (j : Nat) : ∀ (Q S2 P S1 : List Int) (m : Nat), P.length = m → S1.length = m → Q.length = S2.length → m + Q.length ≤ 9223372036854775807 →
    Ev (fun k => flow_run.l1 k L vals (P ++ xorB Q S2) nodes N n ts T (wrap64 (i + 1)) ins nodes outs) R →
    Ev (fun k => flow_run.l2 k L vals (P ++ Q) nodes N n ts T i (S1 ++ S2) ((S1 ++ S2).length : Int) (m : Int) ins nodes outs) R
  | [], S2, P, S1, m, hP, hS, hQ, hm, hR => by
    have e : S2 = [] := List.eq_nil_of_length_eq_zero (by simpa using hQ.symm)
    subst e
    refine Ev.step (fun k => ?_) hR
    simp only [flow_run.l2, List.append_nil]
    rw [if_neg (by omega)]
    simp [xorB]
  | q :: Q, [], P, S1, m, hP, hS, hQ, hm, hR => by simp at hQ
  | q :: Q, s :: S, P, S1, m, hP, hS, hQ, hm, hR => by
    simp only [List.length_cons] at hQ hm
    have hnext := run_l2 L vals N n ts T i R j Q S (P ++ [Go.bits .xor .u8 q s]) (S1 ++ [s]) (m + 1) (by simp [hP]) (by simp [hS]) (by omega) (by omega) (by
      have e : P ++ [Go.bits .xor .u8 q s] ++ xorB Q S = P ++ xorB (q :: Q) (s :: S) := by simp [xorB]
      rw [e]; exact hR)
    have e1 : S1 ++ [s] ++ S = S1 ++ s :: S := by simp
    rw [e1] at hnext
    refine Ev.step (fun k => ?_) hnext
    have r1 : rd (P ++ q :: Q) (m : Int) = q := by subst hP; simp [rd]
    have r2 : rd (S1 ++ s :: S) (m : Int) = s := by subst hS; simp [rd]
    have r3 : (P ++ q :: Q).set ((m : Int).toNat) (Go.bits .xor .u8 q s) = P ++ [Go.bits .xor .u8 q s] ++ Q := by subst hP; simp
    simp only [flow_run.l2]
    have hlen : ((S1 ++ s :: S).length : Int) = m + 1 + S.length := by simp only [List.length_append, List.length_cons]; omega
    have hlen2 : ((P ++ q :: Q).length : Int) = m + 1 + Q.length := by simp only [List.length_append, List.length_cons]; omega
    rw [if_pos (by omega), if_pos (by omega), if_pos (by omega), if_pos (by omega), r1, r2, r3, w64 (by omega) (by omega), i1]
theorem run_l1 (L : Nat) (hL : L ≤ 140737488351232) (vals : List (List Int)) (hv : OkB L vals) (hvn : vals.length < 5864062014805) (N : Int) (n : Nat) (ts : List S64) (hts : termIn vals.length ts) (htl : ts.length ≤ 9223372036854775807) (R : List (List Int)) (d : Nat) : ∀ (i : Nat) (acc : List Int), i + d = ts.length → acc.length = L → byteL acc →
    Ev (fun k => flow_run.l0 k (L : Int) (vals ++ [rowF vals acc (ts.drop i)]) nodes N (wrap64 ((n : Int) + 1)) ins nodes outs) R →
    Ev (fun k => flow_run.l1 k (L : Int) vals acc nodes N (n : Int) ts (ts.length : Int) (i : Int) ins nodes outs) R := by
  induction d with
  | zero =>
    intro i acc hi hl hb hR
    rw [drop_end ts i (by omega), rowF] at hR
    refine Ev.step (fun k => ?_) hR
    simp only [flow_run.l1]
    rw [if_neg (by omega), if_pos hvn]
  | succ d ih =>
    intro i acc hi hl hb hR
    have hil : i < ts.length := by omega
    have htt := hts _ (List.getElem_mem hil)
    have hr := ok_rd hv htt.1 htt.2.1
    rw [drop_cons ts i hil, rowF] at hR
    have hsl : (scB ts[i].f1 (rd_L9 vals ts[i].f0)).length = L := by rw [scB, List.length_map, hr.1]
    have hnext := ih (i + 1) (xorB acc (scB ts[i].f1 (rd_L9 vals ts[i].f0))) (by omega) (by rw [xorB_len (by omega), hl]) (xorB_byte _ _) hR
    have h2 := run_l2 ins nodes outs (L : Int) vals N (n : Int) ts (ts.length : Int) (i : Int) R 0 acc (scB ts[i].f1 (rd_L9 vals ts[i].f0)) [] [] 0 rfl rfl (by omega) (by omega) (by rw [w64 (by omega) (by omega), i1]; exact hnext)
    refine Ev.step (fun k => ?_) h2
    simp only [flow_run.l1]
    rw [if_pos (by omega), if_pos (by omega), if_pos (by omega), rdT ts i hil, if_pos (by omega), if_pos (by omega), scale_f _ _ htt.2.2.1 htt.2.2.2 hr.2 (by omega)]
    rfl
theorem run_l3 (vals : List (List Int)) (L : Nat) (hL : L ≤ 140737488351232) (hv : OkB L vals) (ho : ∀ o ∈ outs, 0 ≤ o ∧ o < (vals.length : Int)) (hol : outs.length ≤ 64) (d : Nat) : ∀ (i : Nat), i + d = outs.length →
    Ev (fun k => flow_run.l3 k vals (outF vals (outs.take i)) outs (outs.length : Int) (i : Int)) (outF vals outs) := by
  induction d with
  | zero =>
    intro i hi
    rw [List.take_of_length_le (by omega)]
    refine Ev.step (fun k => ?_) (Ev.now _)
    simp only [flow_run.l3]
    rw [if_neg (by omega)]
  | succ d ih =>
    intro i hi
    have hil : i < outs.length := by omega
    have hoo := ho _ (List.getElem_mem hil)
    have hr := ok_rd hv hoo.1 hoo.2
    have hnext := ih (i + 1) (by omega)
    have e : outF vals (outs.take (i + 1)) = outF vals (outs.take i) ++ [rd_L9 vals outs[i]] := by
      rw [List.take_succ_eq_append_getElem hil, outF, List.map_append]; rfl
    rw [e] at hnext
    refine Ev.step (fun k => ?_) hnext
    simp only [flow_run.l3]
    rw [if_pos (by omega), if_pos (by omega), if_pos (by omega), rd_get outs i hil, if_pos (by omega), if_pos (by omega)]
    simp only [slices_Clone_byte_byte_51.f, Option.bind_some, List.length_nil, List.nil_append]
    rw [if_pos (by omega), Option.bind_some, if_pos (by simp [outF]; omega), w64 (by omega) (by omega), i1]
theorem run_l0 (L : Nat) (hL : L ≤ 140737488351232) (m : Nat) (hm : m ≤ 64) (hn : nodes.length ≤ 4096) (hts : ∀ n (h : n < nodes.length), termIn (m + n) nodes[n] ∧ nodes[n].length ≤ 4160) (ho : ∀ o ∈ outs, 0 ≤ o ∧ o < ((m + nodes.length : Nat) : Int)) (hol : outs.length ≤ 64) (d : Nat) : ∀ (n : Nat) (vals : List (List Int)), n + d = nodes.length → vals.length = m + n → OkB L vals →
    Ev (fun k => flow_run.l0 k (L : Int) vals nodes (nodes.length : Int) (n : Int) ins nodes outs) (outF (runF L vals (nodes.drop n)) outs) := by
  induction d with
  | zero =>
    intro n vals h hl hv
    rw [drop_end nodes n (by omega), runF]
    refine Ev.step (fun k => ?_) (run_l3 outs vals L hL hv (fun o h => by have := ho o h; omega) hol outs.length 0 (by omega))
    simp only [flow_run.l0]
    rw [if_neg (by omega)]
    rfl
  | succ d ih =>
    intro n vals h hl hv
    have hnl : n < nodes.length := by omega
    have ht := hts n hnl
    rw [← hl] at ht
    rw [drop_cons nodes n hnl, runF]
    have hrow := rowF_ok hv nodes[n] (List.replicate L 0) ht.1 (by simp) (rep_byte L)
    have hnext := ih (n + 1) (vals ++ [rowF vals (List.replicate L 0) nodes[n]]) (by omega) (by simp; omega) (ok_snoc hv hrow.1 hrow.2)
    refine Ev.step (fun k => ?_) (run_l1 ins nodes outs L hL vals hv (by omega) (nodes.length : Int) n nodes[n] ht.1 (by omega) _ nodes[n].length 0 (List.replicate L 0) (by omega) (by simp) (rep_byte L) (by
      rw [w64 (by omega) (by omega), i1, List.drop_zero]; exact hnext))
    simp only [flow_run.l0]
    rw [if_pos (by omega), if_pos (by omega), if_pos (by omega), if_pos (by omega), if_pos (by omega), rdL nodes n hnl, Int.toNat_natCast]
    rfl
/-! the reference's Mac and Run -/
theorem mac_l0 (c : Int) (hc0 : 0 ≤ c) (hc1 : c < 256) : ∀ (Q S2 P S1 X : List Int) (m : Nat), P.length = m → S1.length = m → X.length = m → Q.length = S2.length → m + Q.length ≤ 140737488351232 → byteL S2 →
    Ev (fun k => recoupref01_Mac.l0 k (P ++ Q) c (S1 ++ S2) X (m : Int)) (X ++ xorB Q (scB c S2), 0)
  | [], S2, P, S1, X, m, hP, hS, hX, hQ, hm, hb => by
    have e : S2 = [] := List.eq_nil_of_length_eq_zero (by simpa using hQ.symm)
    subst e
    refine Ev.step (fun k => ?_) (Ev.now _)
    simp only [recoupref01_Mac.l0, List.append_nil]
    rw [if_neg (by omega)]
    simp [xorB]
  | q :: Q, [], P, S1, X, m, hP, hS, hX, hQ, hm, hb => by simp at hQ
  | q :: Q, s :: S, P, S1, X, m, hP, hS, hX, hQ, hm, hb => by
    simp only [List.length_cons] at hQ hm
    have hs := hb s (by simp)
    have hnext := mac_l0 c hc0 hc1 Q S (P ++ [q]) (S1 ++ [s]) (X ++ [Go.bits .xor .u8 q (mulT c s)]) (m + 1) (by simp [hP]) (by simp [hS]) (by simp [hX]) (by omega) (by omega) (fun y hy => hb y (by simp [hy]))
    have e1 : S1 ++ [s] ++ S = S1 ++ s :: S := by simp
    have e2 : P ++ [q] ++ Q = P ++ q :: Q := by simp
    have e3 : X ++ [Go.bits .xor .u8 q (mulT c s)] ++ xorB Q (scB c S) = X ++ xorB (q :: Q) (scB c (s :: S)) := by simp [xorB, scB]
    rw [e1, e2, e3] at hnext
    have r1 : rd (P ++ q :: Q) (m : Int) = q := by subst hP; simp [rd]
    have r2 : rd (S1 ++ s :: S) (m : Int) = s := by subst hS; simp [rd]
    have hlen : ((S1 ++ s :: S).length : Int) = m + 1 + S.length := by simp only [List.length_append, List.length_cons]; omega
    have hlen2 : ((P ++ q :: Q).length : Int) = m + 1 + Q.length := by simp only [List.length_append, List.length_cons]; omega
    refine Ev.step (f := fun k => (recoupref01_Mul.f k c s).bind fun t => recoupref01_Mac.l0 k (P ++ q :: Q) c (S1 ++ s :: S) (X ++ [Go.bits .xor .u8 q t]) ((m + 1 : Nat) : Int)) (fun k => ?_) (Ev.bind (mul_ev c s hc0 hc1 hs.1 hs.2) hnext)
    simp only [recoupref01_Mac.l0]
    rw [if_pos (by omega), if_pos (by omega), if_pos (by omega), r1, r2, w64 (by omega) (by omega), i1]
    congr 1
    funext t
    rw [if_pos (by omega)]
theorem mac_ev (c : Int) (hc0 : 0 ≤ c) (hc1 : c < 256) (a b : List Int) (h : a.length = b.length) (hn : a.length ≤ 140737488351232) (hb : byteL b) : Ev (fun k => recoupref01_Mac.f k a c b) (xorB a (scB c b), 0) := by
  refine Ev.congr (fun k => ?_) (mac_l0 c hc0 hc1 a b [] [] [] 0 rfl rfl rfl h (by omega) hb)
  simp only [recoupref01_Mac.f]
  rw [if_pos (by omega)]
  rfl
theorem rrun_l3 (L : Nat) (hL : L ≤ 140737488351232) (vals : List (List Int)) (hv : OkB L vals) (hvn : vals.length < 5864062014805) (n : Nat) (hn : n < nodes.length) (hnn : nodes.length ≤ 4096) (hts : termIn vals.length nodes[n]) (htl : nodes[n].length ≤ 9223372036854775807) (R : List (List Int) × Int) (d : Nat) : ∀ (i : Nat) (acc : List Int), i + d = nodes[n].length → acc.length = L → byteL acc →
    Ev (fun k => recoupref21_Run.l2 k (L : Int) (vals ++ [rowF vals acc (nodes[n].drop i)]) (wrap64 ((n : Int) + 1)) ins nodes outs) R →
    Ev (fun k => recoupref21_Run.l3 k (L : Int) vals (n : Int) acc (i : Int) ins nodes outs) R := by
  have er : rd_L4 nodes (n : Int) = nodes[n] := rdL nodes n hn
  induction d with
  | zero =>
    intro i acc hi hl hb hR
    rw [drop_end _ i (by omega), rowF] at hR
    refine Ev.step (fun k => ?_) hR
    simp only [recoupref21_Run.l3, er]
    rw [if_pos (by omega), if_pos (by omega), if_neg (by omega), if_pos hvn]
  | succ d ih =>
    intro i acc hi hl hb hR
    have hil : i < nodes[n].length := by omega
    have htt := hts _ (List.getElem_mem hil)
    have hr := ok_rd hv htt.1 htt.2.1
    rw [drop_cons _ i hil, rowF] at hR
    have hsl : (scB nodes[n][i].f1 (rd_L9 vals nodes[n][i].f0)).length = L := by rw [scB, List.length_map, hr.1]
    have hnext := ih (i + 1) (xorB acc (scB nodes[n][i].f1 (rd_L9 vals nodes[n][i].f0))) (by omega) (by rw [xorB_len (by omega), hl]) (xorB_byte _ _) hR
    refine Ev.step (f := fun k => (recoupref01_Mac.f k acc nodes[n][i].f1 (rd_L9 vals nodes[n][i].f0)).bind fun bt => recoupref21_Run.l3 k (L : Int) vals (n : Int) bt.1 ((i + 1 : Nat) : Int) ins nodes outs) (fun k => ?_) (Ev.bind (mac_ev nodes[n][i].f1 htt.2.2.1 htt.2.2.2 acc (rd_L9 vals nodes[n][i].f0) (by omega) (by omega) hr.2) hnext)
    simp only [recoupref21_Run.l3, er]
    rw [if_pos (by omega), if_pos (by omega), if_pos (by omega), if_pos (by omega), rdT _ i hil, if_pos (by omega), if_pos (by omega), w64 (by omega) (by omega), i1]
theorem rrun_l4 (vals : List (List Int)) (L : Nat) (hL : L ≤ 140737488351232) (hv : OkB L vals) (ho : ∀ o ∈ outs, 0 ≤ o ∧ o < (vals.length : Int)) (hol : outs.length ≤ 64) (d : Nat) : ∀ (i : Nat), i + d = outs.length →
    Ev (fun k => recoupref21_Run.l4 k vals (outF vals (outs.take i)) (i : Int) ins nodes outs) (outF vals outs, 0) := by
  induction d with
  | zero =>
    intro i hi
    rw [List.take_of_length_le (by omega)]
    refine Ev.step (fun k => ?_) (Ev.now _)
    simp only [recoupref21_Run.l4]
    rw [if_neg (by omega)]
  | succ d ih =>
    intro i hi
    have hil : i < outs.length := by omega
    have hoo := ho _ (List.getElem_mem hil)
    have hr := ok_rd hv hoo.1 hoo.2
    have hnext := ih (i + 1) (by omega)
    have e : outF vals (outs.take (i + 1)) = outF vals (outs.take i) ++ [rd_L9 vals outs[i]] := by
      rw [List.take_succ_eq_append_getElem hil, outF, List.map_append]; rfl
    rw [e] at hnext
    refine Ev.step (fun k => ?_) hnext
    simp only [recoupref21_Run.l4]
    rw [if_pos (by omega), if_pos (by omega), rd_get outs i hil, if_pos (by omega), if_pos (by omega)]
    simp only [recoupref01_Copy.f, Option.bind_some, List.length_nil, List.nil_append]
    rw [if_pos (by omega), Option.bind_some, if_pos (by simp [outF]; omega), w64 (by omega) (by omega), i1]
theorem rrun_l2 (L : Nat) (hL : L ≤ 140737488351232) (m : Nat) (hm : m ≤ 64) (hn : nodes.length ≤ 4096) (hts : ∀ n (h : n < nodes.length), termIn (m + n) nodes[n] ∧ nodes[n].length ≤ 4160) (ho : ∀ o ∈ outs, 0 ≤ o ∧ o < ((m + nodes.length : Nat) : Int)) (hol : outs.length ≤ 64) (d : Nat) : ∀ (n : Nat) (vals : List (List Int)), n + d = nodes.length → vals.length = m + n → OkB L vals →
    Ev (fun k => recoupref21_Run.l2 k (L : Int) vals (n : Int) ins nodes outs) (outF (runF L vals (nodes.drop n)) outs, 0) := by
  induction d with
  | zero =>
    intro n vals h hl hv
    rw [drop_end nodes n (by omega), runF]
    refine Ev.step (fun k => ?_) (rrun_l4 ins nodes outs vals L hL hv (fun o h => by have := ho o h; omega) hol outs.length 0 (by omega))
    simp only [recoupref21_Run.l2]
    rw [if_neg (by omega)]
    rfl
  | succ d ih =>
    intro n vals h hl hv
    have hnl : n < nodes.length := by omega
    have ht := hts n hnl
    rw [← hl] at ht
    rw [drop_cons nodes n hnl, runF]
    have hrow := rowF_ok hv nodes[n] (List.replicate L 0) ht.1 (by simp) (rep_byte L)
    have hnext := ih (n + 1) (vals ++ [rowF vals (List.replicate L 0) nodes[n]]) (by omega) (by simp; omega) (ok_snoc hv hrow.1 hrow.2)
    refine Ev.step (fun k => ?_) (rrun_l3 ins nodes outs L hL vals hv (by omega) n hnl hn ht.1 (by omega) _ nodes[n].length 0 (List.replicate L 0) (by omega) (by simp) (rep_byte L) (by
      rw [w64 (by omega) (by omega), i1, List.drop_zero]; exact hnext))
    simp only [recoupref21_Run.l2]
    rw [if_pos (by omega), if_pos (by omega), if_pos (by omega), Int.toNat_natCast]
    rfl
/-! the fronts of both -/
def lenB (bl : List (List Int)) : Nat := (rd_L9 bl 0).length
def pickB (bl : List (List Int)) (ins : List Int) : List (List Int) := ins.map fun v => rd_L9 bl v
def frontV (bl : List (List Int)) : List (List Int) × Int := if ins.any (fun v => decide (v ≥ (bl.length : Int))) = true then ([], 3) else (outF (runF (lenB bl) (pickB bl ins) nodes) outs, 0)
def runV (bl : List (List Int)) : List (List Int) × Int := if bl.all (fun b => decide (b.length = lenB bl)) = true then frontV ins nodes outs bl else ([], 3)
theorem mayIns_pos : ∀ (l : List Int) (last : Int), mayIns last l = true → ∀ v ∈ l, last < v
  | [], _, _, v, h => by cases h
  | b :: r, last, h, v, hv => by
    unfold mayIns at h
    by_cases c : b ≤ last
    · rw [if_pos c] at h; cases h
    · rw [if_neg c] at h
      by_cases c2 : b ≥ 64
      · rw [if_pos c2] at h; cases h
      · rw [if_neg c2] at h
        rcases List.mem_cons.1 hv with rfl | hv
        · omega
        · have := mayIns_pos r b h v hv; omega
structure Runs (bl : List (List Int)) : Prop where
  good : Good ins nodes outs
  pos : ∀ v ∈ ins, 0 ≤ v
  f1 : ∀ l ∈ nodes, ∀ t ∈ l, 0 ≤ t.f1 ∧ t.f1 < 256
  bn : bl.length ≤ 5864062014634
  bb : ∀ b ∈ bl, b.length ≤ 140737488351232 ∧ byteL b
variable {ins nodes outs} {bl : List (List Int)} (hr : Runs ins nodes outs bl)
include hr
theorem runs_terms : ∀ n (h : n < nodes.length), termIn (ins.length + n) nodes[n] ∧ nodes[n].length ≤ 4160 := fun n h =>
  ⟨fun t ht => ⟨(hr.good.term n h t ht).1, by have := (hr.good.term n h t ht).2.1; omega, hr.f1 _ (List.getElem_mem h) t ht⟩, hr.good.tlen n h⟩
theorem lenB_le : lenB bl ≤ 140737488351232 := by
  unfold lenB
  cases bl with
  | nil => simp [rd_L9]
  | cons b r => have := (hr.bb b (by simp)).1; simpa [rd_L9] using this
theorem pick_ok (ha : bl.all (fun b => decide (b.length = lenB bl)) = true) (hi : ins.any (fun v => decide (v ≥ (bl.length : Int))) = false) : OkB (lenB bl) (pickB bl ins) := by
  intro x hx
  obtain ⟨v, hv, rfl⟩ := List.mem_map.1 hx
  have h0 := hr.pos v hv
  have h1 : v < (bl.length : Int) := by
    have := List.any_eq_false.1 hi v hv
    simpa using this
  obtain ⟨n, rfl⟩ : ∃ n : Nat, (n : Int) = v := ⟨v.toNat, by omega⟩
  rw [rd9 bl n (by omega)]
  have hm := List.getElem_mem (l := bl) (n := n) (by omega)
  exact ⟨by simpa using List.all_eq_true.1 ha _ hm, (hr.bb _ hm).2⟩
theorem flow_Run_l1 (ha : bl.all (fun b => decide (b.length = lenB bl)) = true) (d : Nat) : ∀ (i : Nat), i + d = ins.length → (ins.take i).any (fun v => decide (v ≥ (bl.length : Int))) = false →
    Ev (fun k => flow_Run.l1 k bl (lenB bl : Int) (pickB bl (ins.take i)) ins (ins.length : Int) (i : Int) ins nodes outs) (frontV ins nodes outs bl) := by
  have h1 := hr.good.n0
  induction d with
  | zero =>
    intro i hi ht
    rw [List.take_of_length_le (by omega)] at ht ⊢
    have hn := lenB_le hr
    have h0 := run_l0 ins nodes outs (lenB bl) hn ins.length h1 hr.good.nN (runs_terms hr) (fun o ho => by have := hr.good.outs o ho; omega) hr.good.nO nodes.length 0 (pickB bl ins) (by omega) (by simp [pickB]) (pick_ok hr ha ht)
    unfold frontV
    rw [ht, if_neg (by simp)]
    refine Ev.step (f := fun k => (flow_run.l0 k (lenB bl : Int) (pickB bl ins) nodes (nodes.length : Int) 0 ins nodes outs).bind fun t => some (t, 0)) (fun k => ?_) (Ev.bind h0 (Ev.now _))
    simp only [flow_Run.l1, flow_run.f, slices_Clone_byte_byte_49.f, Option.bind_some, List.length_nil, List.nil_append]
    rw [if_neg (by omega), if_pos (by simp [pickB]; omega), Option.bind_some]
  | succ d ih =>
    intro i hi ht
    have hil : i < ins.length := by omega
    have h0 := hr.pos _ (List.getElem_mem hil)
    by_cases c : ins[i] ≥ (bl.length : Int)
    · have hany : ins.any (fun v => decide (v ≥ (bl.length : Int))) = true := List.any_eq_true.2 ⟨_, List.getElem_mem hil, by simpa using c⟩
      unfold frontV
      rw [if_pos hany]
      refine Ev.step (fun k => ?_) (Ev.now _)
      simp only [flow_Run.l1]
      rw [if_pos (by omega), if_pos (by omega), if_pos (by omega), rd_get ins i hil, if_pos c]
    · have e : pickB bl (ins.take (i + 1)) = pickB bl (ins.take i) ++ [rd_L9 bl ins[i]] := by rw [List.take_succ_eq_append_getElem hil, pickB, List.map_append]; rfl
      have hnext := ih (i + 1) (by omega) (by
        rw [List.take_succ_eq_append_getElem hil, List.any_append, ht]
        simpa using c)
      rw [e] at hnext
      refine Ev.step (fun k => ?_) hnext
      simp only [flow_Run.l1]
      rw [if_pos (by omega), if_pos (by omega), if_pos (by omega), rd_get ins i hil, if_neg c, if_pos (by omega), if_pos (by omega), if_pos (by simp [pickB]; omega), w64 (by omega) (by omega), i1]
theorem ref_Run_l1 (ha : bl.all (fun b => decide (b.length = lenB bl)) = true) (d : Nat) : ∀ (i : Nat), i + d = ins.length → (ins.take i).any (fun v => decide (v ≥ (bl.length : Int))) = false →
    Ev (fun k => recoupref21_Run.l1 k bl (lenB bl : Int) (pickB bl (ins.take i)) (i : Int) ins nodes outs) (frontV ins nodes outs bl) := by
  have h1 := hr.good.n0
  induction d with
  | zero =>
    intro i hi ht
    rw [List.take_of_length_le (by omega)] at ht ⊢
    have hn := lenB_le hr
    have h0 := rrun_l2 ins nodes outs (lenB bl) hn ins.length h1 hr.good.nN (runs_terms hr) (fun o ho => by have := hr.good.outs o ho; omega) hr.good.nO nodes.length 0 (pickB bl ins) (by omega) (by simp [pickB]) (pick_ok hr ha ht)
    unfold frontV
    rw [ht, if_neg (by simp)]
    refine Ev.step (fun k => ?_) h0
    simp only [recoupref21_Run.l1]
    rw [if_neg (by omega)]
    rfl
  | succ d ih =>
    intro i hi ht
    have hil : i < ins.length := by omega
    have h0 := hr.pos _ (List.getElem_mem hil)
    by_cases c : ins[i] ≥ (bl.length : Int)
    · have hany : ins.any (fun v => decide (v ≥ (bl.length : Int))) = true := List.any_eq_true.2 ⟨_, List.getElem_mem hil, by simpa using c⟩
      unfold frontV
      rw [if_pos hany]
      refine Ev.step (fun k => ?_) (Ev.now _)
      simp only [recoupref21_Run.l1]
      rw [if_pos (by omega), if_pos (by omega), rd_get ins i hil, if_pos c]
    · have e : pickB bl (ins.take (i + 1)) = pickB bl (ins.take i) ++ [rd_L9 bl ins[i]] := by rw [List.take_succ_eq_append_getElem hil, pickB, List.map_append]; rfl
      have hnext := ih (i + 1) (by omega) (by
        rw [List.take_succ_eq_append_getElem hil, List.any_append, ht]
        simpa using c)
      rw [e] at hnext
      have hb : (rd_L9 bl ins[i]).length ≤ 140737488351232 := by
        obtain ⟨n, hn⟩ : ∃ n : Nat, (n : Int) = ins[i] := ⟨ins[i].toNat, by omega⟩
        rw [← hn, rd9 bl n (by omega)]
        exact (hr.bb _ (List.getElem_mem _)).1
      refine Ev.step (fun k => ?_) hnext
      simp only [recoupref21_Run.l1]
      rw [if_pos (by omega), if_pos (by omega), rd_get ins i hil, if_neg c, if_pos (by omega), if_pos (by omega)]
      simp only [recoupref01_Copy.f, Option.bind_some, List.length_nil, List.nil_append]
      rw [if_pos (by omega), Option.bind_some, if_pos (by simp [pickB]; omega), w64 (by omega) (by omega), i1]
theorem all_take (i : Nat) (h : i < bl.length) (ht : (bl.take i).all (fun b => decide (b.length = lenB bl)) = true) (hb : bl[i].length = lenB bl) : (bl.take (i + 1)).all (fun b => decide (b.length = lenB bl)) = true := by
  rw [List.take_succ_eq_append_getElem h, List.all_append, ht]
  simpa using hb
theorem flow_Run_l0 (d : Nat) : ∀ (i : Nat) (x : Int), i + d = bl.length → x = (if i = 0 then 0 else (lenB bl : Int)) → (bl.take i).all (fun b => decide (b.length = lenB bl)) = true →
    Ev (fun k => flow_Run.l0 k bl x bl (bl.length : Int) (i : Int) ins nodes outs) (runV ins nodes outs bl) := by
  have hbn := hr.bn
  induction d with
  | zero =>
    intro i x hi hx ht
    rw [List.take_of_length_le (by omega)] at ht
    have hx' : x = (lenB bl : Int) := by
      rw [hx]
      split
      · have : bl = [] := List.eq_nil_of_length_eq_zero (by omega)
        subst this; rfl
      · rfl
    subst hx'
    unfold runV
    rw [if_pos ht]
    refine Ev.step (fun k => ?_) (flow_Run_l1 hr ht ins.length 0 (by omega) (by simp))
    simp only [flow_Run.l0]
    rw [if_neg (by omega)]
    rfl
  | succ d ih =>
    intro i x hi hx ht
    have hil : i < bl.length := by omega
    by_cases c0 : i = 0
    · subst c0
      have hh : bl[0].length = lenB bl := by unfold lenB; rw [show (0 : Int) = ((0 : Nat) : Int) from rfl, rd9 bl 0 hil]
      refine Ev.step (fun k => ?_) (ih 1 (lenB bl : Int) (by omega) (by simp) (all_take hr 0 hil ht hh))
      simp only [flow_Run.l0]
      rw [if_pos (by omega), if_pos (by omega), if_pos (by omega), if_pos (by omega), rd9 bl 0 hil, if_pos trivial, hh, w64 (by omega) (by omega)]
      rfl
    · rw [if_neg c0] at hx
      subst hx
      by_cases c1 : bl[i].length = lenB bl
      · refine Ev.step (fun k => ?_) (ih (i + 1) (lenB bl : Int) (by omega) (by simp) (all_take hr i hil ht c1))
        simp only [flow_Run.l0]
        rw [if_pos (by omega), if_pos (by omega), if_pos (by omega), if_neg (by omega), rd9 bl i hil, if_pos (by omega), w64 (by omega) (by omega), i1]
      · have hna : ¬ bl.all (fun b => decide (b.length = lenB bl)) = true := fun e => c1 (by simpa using List.all_eq_true.1 e _ (List.getElem_mem hil))
        unfold runV
        rw [if_neg hna]
        refine Ev.step (fun k => ?_) (Ev.now _)
        simp only [flow_Run.l0]
        rw [if_pos (by omega), if_pos (by omega), if_pos (by omega), if_neg (by omega), rd9 bl i hil, if_neg (by omega)]
theorem ref_Run_l0 (d : Nat) : ∀ (i : Nat) (x : Int), i + d = bl.length → x = (if i = 0 then 0 else (lenB bl : Int)) → (bl.take i).all (fun b => decide (b.length = lenB bl)) = true →
    Ev (fun k => recoupref21_Run.l0 k bl x (i : Int) ins nodes outs) (runV ins nodes outs bl) := by
  have hbn := hr.bn
  induction d with
  | zero =>
    intro i x hi hx ht
    rw [List.take_of_length_le (by omega)] at ht
    have hx' : x = (lenB bl : Int) := by
      rw [hx]
      split
      · have : bl = [] := List.eq_nil_of_length_eq_zero (by omega)
        subst this; rfl
      · rfl
    subst hx'
    unfold runV
    rw [if_pos ht]
    refine Ev.step (fun k => ?_) (ref_Run_l1 hr ht ins.length 0 (by omega) (by simp))
    simp only [recoupref21_Run.l0]
    rw [if_neg (by omega)]
    rfl
  | succ d ih =>
    intro i x hi hx ht
    have hil : i < bl.length := by omega
    by_cases c1 : bl[i].length = lenB bl
    · refine Ev.step (fun k => ?_) (ih (i + 1) (lenB bl : Int) (by omega) (by simp) (all_take hr i hil ht c1))
      simp only [recoupref21_Run.l0]
      rw [if_pos (by omega), if_pos (by omega), if_pos (by omega), rd9 bl i hil, if_pos (by have := c1; unfold lenB at this; omega), w64 (by omega) (by omega), i1]
      rfl
    · have hna : ¬ bl.all (fun b => decide (b.length = lenB bl)) = true := fun e => c1 (by simpa using List.all_eq_true.1 e _ (List.getElem_mem hil))
      unfold runV
      rw [if_neg hna]
      refine Ev.step (fun k => ?_) (Ev.now _)
      simp only [recoupref21_Run.l0]
      rw [if_pos (by omega), if_pos (by omega), if_pos (by omega), rd9 bl i hil, if_neg (by have := c1; unfold lenB at this; omega)]
end
theorem strOfNums_self (l : List Int) : ((strOfNums l).toList == (strOfNums l).toList) = true := by simp
theorem blocks_l0 (a : List (List Int)) (hn : a.length ≤ 9223372036854775807) (d : Nat) : ∀ (i : Nat), i + d = a.length → Ev (fun k => recoupref21_Blocks.l0 k a a (i : Int)) true := by
  induction d with
  | zero =>
    intro i h
    refine Ev.step (fun k => ?_) (Ev.now _)
    simp only [recoupref21_Blocks.l0]
    rw [if_neg (by omega)]
  | succ d ih =>
    intro i h
    refine Ev.step (fun k => ?_) (ih (i + 1) (by omega))
    simp only [recoupref21_Blocks.l0, recoupref01_Same.f, strOfNums_self, Option.bind_some, if_true]
    rw [if_pos (by omega), if_pos (by omega), if_pos (by omega), w64 (by omega) (by omega), i1]
theorem blocks_refl (a : List (List Int)) (hn : a.length ≤ 9223372036854775807) : Ev (fun k => recoupref21_Blocks.f k a a) true := by
  refine Ev.congr (fun k => ?_) (blocks_l0 a hn a.length 0 (by omega))
  simp only [recoupref21_Blocks.f]
  rw [if_pos trivial]; rfl
def runB (ins : List Int) (nodes : List (List S64)) (outs : List Int) (bl : List (List Int)) : List (List Int) × Int := if mayB ins nodes outs = true then runV ins nodes outs bl else ([], 2)
theorem runs_of {x : S25} {bl : List (List Int)} (h : FlowI x) (hb : bl.length * 24 ≤ 140737488351232) (hbb : ∀ l ∈ bl, l.length * 1 ≤ 140737488351232 ∧ ∀ y ∈ l, 0 ≤ y ∧ y < 256) (hm : mayB x.f0 x.f1 x.f2 = true) : Runs x.f0 x.f1 x.f2 bl := by
  refine ⟨good_of_may hm, ?_, fun l hl t ht => ?_, by omega, fun b hbm => ⟨by have := (hbb b hbm).1; omega, (hbb b hbm).2⟩⟩
  · have hm' := hm
    unfold mayB at hm'
    simp only [Bool.and_eq_true] at hm'
    intro v hv
    have := mayIns_pos _ _ hm'.1.1.1.1 v hv
    omega
  · have := ((h.2.1.2 l hl).2 t ht).2
    have h2 : 0 ≤ t.f1 ∧ t.f1 ≤ 255 := by simpa [Lit.wf, IntKind.min, IntKind.max, IntKind.bits, IntKind.signed] using this
    omega
theorem flow_Run_ev {x : S25} {bl : List (List Int)} (h : FlowI x) (hb : bl.length * 24 ≤ 140737488351232) (hbb : ∀ l ∈ bl, l.length * 1 ≤ 140737488351232 ∧ ∀ y ∈ l, 0 ≤ y ∧ y < 256) : Ev (fun k => flow_Run.f k x.f0 x.f1 x.f2 bl) (runB x.f0 x.f1 x.f2 bl) := by
  refine Ev.congr (fun k => rfl) (Ev.bind (flow_May_ev x.f0 x.f1 x.f2 (fun l hl => by have := (h.2.1.2 l hl).1; omega)) ?_)
  unfold runB
  by_cases c : mayB x.f0 x.f1 x.f2 = true
  · simp only [c, if_true]
    exact flow_Run_l0 (runs_of h hb hbb c) bl.length 0 0 (by omega) rfl (by simp)
  · simp only [c]
    exact Ev.now _
theorem ref_Run_ev {x : S25} {bl : List (List Int)} (h : FlowI x) (hb : bl.length * 24 ≤ 140737488351232) (hbb : ∀ l ∈ bl, l.length * 1 ≤ 140737488351232 ∧ ∀ y ∈ l, 0 ≤ y ∧ y < 256) : Ev (fun k => recoupref21_Run.f k x.f0 x.f1 x.f2 bl) (runB x.f0 x.f1 x.f2 bl) := by
  refine Ev.congr (fun k => rfl) (Ev.bind (rmay_ev x.f0 x.f1 x.f2 (by have := h.1.1; omega) (fun l hl => by have := (h.2.1.2 l hl).1; omega)) ?_)
  unfold runB
  by_cases c : mayB x.f0 x.f1 x.f2 = true
  · simp only [c, if_true]
    exact ref_Run_l0 (runs_of h hb hbb c) bl.length 0 0 (by omega) rfl (by simp)
  · simp only [c]
    exact Ev.now _
theorem runB_len {ins : List Int} {nodes : List (List S64)} {outs : List Int} (bl : List (List Int)) : (runB ins nodes outs bl).1.length ≤ 64 := by
  unfold runB
  split
  · have hg := good_of_may (by assumption)
    have := hg.nO
    unfold runV frontV
    split
    · split
      · simp
      · simp [outF]; omega
    · simp
  · simp
/-- What the reading of a row of blocks tells. -/
def BlI (bl : List (List Int)) : Prop := bl.length * 24 ≤ 140737488351232 ∧ ∀ l ∈ bl, l.length * 1 ≤ 140737488351232 ∧ ∀ y ∈ l, (Lit.int .u8 y).wf = true
theorem wf_u8 {y : Int} (h : (Lit.int .u8 y).wf = true) : 0 ≤ y ∧ y < 256 := by
  have h2 : 0 ≤ y ∧ y ≤ 255 := by simpa [Lit.wf, IntKind.min, IntKind.max, IntKind.bits, IntKind.signed] using h
  omega
theorem bli_bytes {bl : List (List Int)} (h : BlI bl) : ∀ l ∈ bl, l.length * 1 ≤ 140737488351232 ∧ ∀ y ∈ l, 0 ≤ y ∧ y < 256 := fun l hl => ⟨(h.2 l hl).1, fun y hy => wf_u8 ((h.2 l hl).2 y hy)⟩
end Go.Proofs.Ytfnhnniecclleaa.Spec
