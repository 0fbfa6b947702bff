/- RegsFew's plain law: what the giver gives reads each input once, uses no more registers than values, and gives up only where the flow has more than 256 values. -/
import Derived.Test.YtlflfpkjbjbldaaGiv
import Derived.Test.YtlflfpkjbjbldaaLessA
import Derived.Test.YtlflfpkjbjbldaaPAx9
import Derived.Test.YtlflfpkjbjbldaaPureRegsSames
namespace Go.Proofs.Ytlflfpkjbjbldaa.Spec
open Go.RowKit Go.Proofs.Ytlflfpkjbjbldaa.PA Go.Proofs.YtlflfpkjbjbldaaW.PrintWords Go.Proofs.YtlflfpkjbjbldaaW.PrintLast Go.Proofs.YtlflfpkjbjbldaaW.PrintMore
set_option linter.unusedVariables false
set_option linter.unusedSectionVars false
theorem may_both {ins : List Int} {nodes : List (List S62)} {outs : List Int} (h : mayB ins nodes outs = true) : mayIns (-1) ins = true ∧ nodesOk ins.length 0 nodes = true := by
  unfold mayB at h
  simp only [Bool.and_eq_true] at h
  exact ⟨h.1.1.1.1, h.1.2⟩
theorem may_GT {ins : List Int} {nodes : List (List S62)} {outs : List Int} (h : mayB ins nodes outs = true) : GT ins nodes outs := by
  have hg := good_of_may h
  have h0 := hg.n0
  have h1 := hg.nN
  have hm := (may_both h).1
  refine ⟨by omega, fun b hb => ⟨by have := mayIns_pos ins (-1) hm b hb; omega, mayIns_hi ins (-1) hm b hb⟩, fun i hi t ht => ?_, fun v hv => by have := hg.outs v hv; omega, hg.nO⟩
  rw [rdL nodes i hi] at ht
  have := hg.term i hi t ht
  omega
theorem may_inj {ins : List Int} {nodes : List (List S62)} {outs : List Int} (h : mayB ins nodes outs = true) : ∀ a b : Nat, a < ins.length → b < ins.length → rd ins a = rd ins b → a = b := by
  intro a b ha hb e
  rw [rd_get ins a ha, rd_get ins b hb] at e
  have hl := mayIns_lt ins (-1) (may_both h).1
  rcases Nat.lt_trichotomy a b with c | c | c
  · have := hl a b c hb; omega
  · exact c
  · have := hl b a c ha; omega
theorem setAll_some (i : Int) : ∀ (l : List S62) (a : List Int), (∀ t ∈ l, 0 ≤ t.f0 ∧ t.f0 < (a.length : Int)) → ∃ b, setAll i l a = some b ∧ b.length = a.length
  | [], a, _ => ⟨a, rfl, rfl⟩
  | t :: r, a, h => by
    have ht := h t (by simp)
    obtain ⟨b, hb, hl⟩ := setAll_some i r (a.set t.f0.toNat i) (fun x hx => by rw [List.length_set]; exact h x (by simp [hx]))
    refine ⟨b, ?_, by rw [hl, List.length_set]⟩
    rw [setAll, if_pos ht.1, if_pos ht.2]; exact hb
theorem lastN_some : ∀ (l : List (List S62)) (i : Int) (a : List Int), (∀ x ∈ l, ∀ t ∈ x, 0 ≤ t.f0 ∧ t.f0 < (a.length : Int)) → ∃ b, lastN i l a = some b ∧ b.length = a.length
  | [], _, a, _ => ⟨a, rfl, rfl⟩
  | x :: r, i, a, h => by
    obtain ⟨b, hb, hl⟩ := setAll_some i x a (h x (by simp))
    obtain ⟨c, hc, hl2⟩ := lastN_some r (i + 1) b (fun y hy => by rw [hl]; exact h y (by simp [hy]))
    exact ⟨c, by rw [lastN, hb]; exact hc, by rw [hl2, hl]⟩
theorem lastO_some (n : Int) : ∀ (l : List Int) (a : List Int), (∀ v ∈ l, 0 ≤ v ∧ v < (a.length : Int)) → ∃ b, lastO n l a = some b ∧ b.length = a.length
  | [], a, _ => ⟨a, rfl, rfl⟩
  | v :: r, a, h => by
    have ht := h v (by simp)
    obtain ⟨b, hb, hl⟩ := lastO_some n r (a.set v.toNat n) (fun x hx => by rw [List.length_set]; exact h x (by simp [hx]))
    refine ⟨b, ?_, by rw [hl, List.length_set]⟩
    rw [lastO, if_pos ht.1, if_pos ht.2]; exact hb
theorem may_last {ins : List Int} {nodes : List (List S62)} {outs : List Int} (h : mayB ins nodes outs = true) : ∃ us, regs_last.f ins nodes outs = some us ∧ us.length = ins.length + nodes.length := by
  have hg := good_of_may h
  have h0 := hg.n0
  have h1 := hg.nN
  unfold regs_last.f
  rw [if_pos (by omega)]
  obtain ⟨b, hb, hl⟩ := lastN_some nodes 0 (List.replicate (ins.length + nodes.length) (-1)) (fun x hx t ht => by
    obtain ⟨n, hn, rfl⟩ := List.getElem_of_mem hx
    have := hg.term n hn t ht
    rw [List.length_replicate]; omega)
  rw [List.length_replicate] at hl
  obtain ⟨c, hc, hl2⟩ := lastO_some (nodes.length : Int) outs b (fun v hv => by have := hg.outs v hv; rw [hl]; omega)
  exact ⟨c, by rw [hb]; exact hc, by rw [hl2, hl]⟩
/-- What Give answers on a flow that may be: the trimmed flow's giver. -/
theorem give_may {ins : List Int} {nodes : List (List S62)} {outs : List Int} (h : mayB ins nodes outs = true) : ∃ W us, Final (ins := ins) (nodes := nodes) (outs := outs) W ∧ mayB (fIns ins W ins.length) (fNodes ins nodes W (ins.length + nodes.length)) (fOuts outs W) = true ∧
    (fIns ins W ins.length).length + (fNodes ins nodes W (ins.length + nodes.length)).length ≤ ins.length + nodes.length ∧ regs_last.f (fIns ins W ins.length) (fNodes ins nodes W (ins.length + nodes.length)) (fOuts outs W) = some us ∧
    Ev (fun k => regs_Give.f k ins nodes outs) (if (giveS (fIns ins W ins.length) (fNodes ins nodes W (ins.length + nodes.length)) (fOuts outs W) us).ok = true then ((giveS (fIns ins W ins.length) (fNodes ins nodes W (ins.length + nodes.length)) (fOuts outs W) us).steps, (giveS (fIns ins W ins.length) (fNodes ins nodes W (ins.length + nodes.length)) (fOuts outs W) us).regs, (outs.length : Int), (giveS (fIns ins W ins.length) (fNodes ins nodes W (ins.length + nodes.length)) (fOuts outs W) us).reads, 0) else ([], 0, 0, 0, 4)) := by
  obtain ⟨W, hF, hT⟩ := flow_Trim_ev (good_of_may h) h
  have hm := less_may h hF
  obtain ⟨us, hus, _⟩ := may_last hm
  refine ⟨W, us, hF, hm, ?_, hus, ?_⟩
  · have h1 := fNodes_rank ins nodes W nodes.length
    have h2 := fIns_rank ins W ins.length (Nat.le_refl _)
    have h3 := rank_le W (ins.length + nodes.length)
    omega
  · unfold regs_Give.f
    refine Ev.bind hT ?_
    simp only [if_true]
    rw [if_pos (may_GT hm), hus, Option.bind_some]
    have e : (fOuts outs W).length = outs.length := by rw [fOuts, List.length_map]
    rw [e]
    split
    · exact Ev.now _
    · exact Ev.now _
theorem give_not {ins : List Int} {nodes : List (List S62)} {outs : List Int} (h : mayB ins nodes outs = false) (hx : ∀ x ∈ nodes, x.length ≤ 9223372036854775807) : Ev (fun k => regs_Give.f k ins nodes outs) ([], 0, 0, 0, 2) := by
  have hm := flow_May_ev ins nodes outs hx
  rw [h] at hm
  have hT : Ev (fun k => flow_Trim.f k ins nodes outs) ([], [], [], 2) := by
    unfold flow_Trim.f
    refine Ev.bind hm ?_
    simp only [Bool.false_eq_true, if_false]
    exact Ev.now _
  unfold regs_Give.f
  refine Ev.bind hT ?_
  simp only [show ¬ (2 : Int) = 0 from by decide, if_false]
  exact Ev.now _
/-- Where the trimmed flow has no more than 256 values the giver does not give up. -/
theorem give_ok {ins : List Int} {nodes : List (List S62)} {outs us : List Int} (h : mayB ins nodes outs = true) (hn : ins.length + nodes.length ≤ 256) : (giveS ins nodes outs us).ok = true := by
  have hF := FI.give (may_inj h) nodes outs us
  have hg := good_of_may h
  have h3 := hg.nO
  refine hF.okI hn ?_
  have := wN_le (l := nodes) (a := ins.length) (fun j hj => by
    have := (termsOk_spec _ _ (-1) (by omega) (by omega) (nodesOk_spec ins.length nodes 0 (may_both h).2 j hj)).2
    omega) hn
  omega
/-! the bits read -/
def orN (l : List Int) : Nat := l.foldl (fun a b => a ||| 2 ^ b.toNat) 0
theorem or_fold : ∀ (l : List Int) (a : Nat), a < 2 ^ 64 → (∀ b ∈ l, 0 ≤ b ∧ b < 64) → l.foldl (fun a b => Go.bits .or .u64 a (IntKind.u64.wrap (2 ^ b.toNat))) (a : Int) = ((l.foldl (fun a b => a ||| 2 ^ b.toNat) a : Nat) : Int) ∧ l.foldl (fun a b => a ||| 2 ^ b.toNat) a < 2 ^ 64
  | [], a, ha, _ => ⟨rfl, ha⟩
  | b :: r, a, ha, h => by
    have hb := h b (by simp)
    have hp : 2 ^ b.toNat < 2 ^ 64 := Nat.pow_lt_pow_right (by omega) (by omega)
    have e : IntKind.u64.wrap (2 ^ b.toNat) = ((2 ^ b.toNat : Nat) : Int) := by
      have e0 : (2 : Int) ^ b.toNat = ((2 ^ b.toNat : Nat) : Int) := by simp
      rw [IntKind.wrap_u64, e0]
      generalize 2 ^ b.toNat = q at hp
      omega
    have e2 : Go.bits .or .u64 (a : Int) (IntKind.u64.wrap (2 ^ b.toNat)) = ((a ||| 2 ^ b.toNat : Nat) : Int) := by
      rw [e]; exact bits_or_u64_nat a _ (by omega) (by omega)
    simp only [List.foldl_cons]
    rw [e2]
    exact or_fold r _ (Nat.or_lt_two_pow ha hp) (fun x hx => h x (by simp [hx]))
theorem orF_nat {l : List Int} (h : ∀ b ∈ l, 0 ≤ b ∧ b < 64) : orF l = (orN l : Int) ∧ orN l < 2 ^ 64 := or_fold l 0 (by decide) h
theorem bit_fold (i : Nat) : ∀ (l : List Int) (a : Nat), (l.foldl (fun a b => a ||| 2 ^ b.toNat) a).testBit i = true ↔ a.testBit i = true ∨ ∃ b ∈ l, b.toNat = i
  | [], a => by simp
  | b :: r, a => by
    rw [List.foldl_cons, bit_fold i r, Nat.testBit_or, Nat.testBit_two_pow]
    simp only [Bool.or_eq_true, decide_eq_true_eq, List.mem_cons]
    constructor
    · rintro ((h | h) | ⟨x, hx, e⟩)
      · exact .inl h
      · exact .inr ⟨b, .inl rfl, h⟩
      · exact .inr ⟨x, .inr hx, e⟩
    · rintro (h | ⟨x, rfl | hx, e⟩)
      · exact .inl (.inl h)
      · exact .inl (.inr e)
      · exact .inr ⟨x, hx, e⟩
theorem orN_bit (l : List Int) (i : Nat) : (orN l).testBit i = true ↔ ∃ b ∈ l, b.toNat = i := by
  unfold orN
  rw [bit_fold, Nat.zero_testBit]; simp
def bitc (x j : Nat) : Nat := (List.range j).countP x.testBit
theorem bitc_all {l : List Int} (h : ∀ b ∈ l, 0 ≤ b ∧ b < 64) (hn : l.Nodup) : bitc (orN l) 64 = l.length := by
  unfold bitc
  rw [List.countP_eq_length_filter]
  have hp : ((List.range 64).filter (orN l).testBit).Perm (l.map Int.toNat) := by
    refine (List.perm_ext_iff_of_nodup ?_ ?_).2 ?_
    · exact List.Pairwise.filter _ List.nodup_range
    · refine List.pairwise_map.2 (hn.imp_of_mem ?_)
      intro a b ha hb hne e
      have := h a ha
      have := h b hb
      exact hne (by omega)
    · intro a
      rw [List.mem_filter, List.mem_range, orN_bit, List.mem_map]
      constructor
      · rintro ⟨_, b, hb, e⟩; exact ⟨b, hb, e⟩
      · rintro ⟨b, hb, e⟩
        have := h b hb
        exact ⟨by omega, b, hb, e⟩
  rw [hp.length_eq, List.length_map]
theorem wrap_nat (j : Nat) (h : j < 64) : IntKind.u64.wrap (j : Int) = (j : Int) := by rw [IntKind.wrap_u64]; omega
theorem bit_at (x j : Nat) (hx : x < 2 ^ 64) (hj : j < 64) : Go.bits .and .u64 (shr .u64 (x : Int) (IntKind.u64.wrap (j : Int))) 1 = if x.testBit j = true then 1 else 0 := by
  have e : shr .u64 (x : Int) (IntKind.u64.wrap (j : Int)) = ((x / 2 ^ j : Nat) : Int) := by
    rw [wrap_nat j hj]
    unfold shr
    rw [Int.toNat_natCast, Nat.min_eq_left (by show j ≤ 64; omega)]
    simp
  have hle : x / 2 ^ j ≤ x := Nat.div_le_self _ _
  rw [e, show (1 : Int) = ((1 : Nat) : Int) from rfl, bits_and_u64_nat _ 1 (by omega) (by decide), Nat.and_one_is_mod, Nat.testBit_eq_decide_div_mod_eq]
  by_cases c : x / 2 ^ j % 2 = 1
  · simp [c]
  · have : x / 2 ^ j % 2 = 0 := by omega
    simp [this]
theorem few_l1 (x5 x6 : Int) (ins : List Int) (nodes : List (List S62)) (outs : List Int) (st : List S38) (r o : Int) (x : Nat) (hx : x < 2 ^ 64) (R : Bool) (hR : Ev (fun k => recouplaw23_RegsFew.l1 k x5 x6 (bitc x 64 : Nat) 64 ins nodes outs st r o (x : Int)) R) (d : Nat) : ∀ j : Nat, j + d = 64 → Ev (fun k => recouplaw23_RegsFew.l1 k x5 x6 (bitc x j : Nat) (j : Int) ins nodes outs st r o (x : Int)) R := by
  induction d with
  | zero =>
    intro j hj
    obtain rfl : j = 64 := by omega
    exact hR
  | succ d ih =>
    intro j hj
    have hc : bitc x j ≤ j := by have := List.countP_le_length (p := x.testBit) (l := List.range j); simpa [bitc] using this
    have hs : bitc x (j + 1) = bitc x j + if x.testBit j = true then 1 else 0 := by
      unfold bitc
      rw [List.range_succ, List.countP_append]
      simp [List.countP_cons]
    have := ih (j + 1) (by omega)
    refine Ev.step (fun k => ?_) this
    simp only [recouplaw23_RegsFew.l1]
    rw [if_pos (by omega), if_pos (by rw [wrap_nat j (by omega)]; omega), bit_at x j hx (by omega)]
    by_cases c : x.testBit j = true
    · rw [if_pos c] at hs
      rw [if_pos c, if_pos rfl, w64 (by omega) (by omega), w64 (by omega) (by omega), i1, i1, hs]
    · rw [if_neg c] at hs
      rw [if_neg c, if_neg (by decide), w64 (by omega) (by omega), i1, hs]; rfl
theorem shl_bit (b : Int) (h0 : 0 ≤ b) (h1 : b < 64) : shl .u64 1 (IntKind.u64.wrap b) = IntKind.u64.wrap (2 ^ b.toNat) := by
  have e : IntKind.u64.wrap b = b := by rw [IntKind.wrap_u64]; omega
  rw [e]
  unfold shl
  rw [Nat.min_eq_left (by show b.toNat ≤ 64; omega), Int.one_mul]
theorem rdS (l : List S38) (i : Nat) (h : i < l.length) : rd_T38 l (i : Int) = l[i] := by simp [rd_T38, h]
theorem few_l0 (ins : List Int) (nodes : List (List S62)) (outs : List Int) (st : List S38) (r o z : Int) (hst : ∀ x ∈ st, x.f0 = 2 → 0 ≤ x.f2 ∧ x.f2 < 64) (hl : st.length ≤ 9223372036854775) (R : Bool) (hR : Ev (fun k => recouplaw23_RegsFew.l1 k (orF (ldsOf st)) ((ldsOf st).length : Int) 0 0 ins nodes outs st r o z) R) (d : Nat) : ∀ i : Nat, i + d = st.length → Ev (fun k => recouplaw23_RegsFew.l0 k (orF (ldsOf (st.take i))) ((ldsOf (st.take i)).length : Int) (i : Int) ins nodes outs st r o z) R := by
  induction d with
  | zero =>
    intro i hi
    rw [List.take_of_length_le (by omega)]
    refine Ev.step (fun k => ?_) hR
    simp only [recouplaw23_RegsFew.l0]
    rw [if_neg (by omega)]
  | succ d ih =>
    intro i hi
    have hil : i < st.length := by omega
    have hlen : (ldsOf (st.take i)).length ≤ i := by
      have := List.length_filterMap_le (fun x : S38 => if x.f0 = 2 then some x.f2 else none) (st.take i)
      rw [List.length_take] at this
      unfold ldsOf; omega
    have hnext := ih (i + 1) (by omega)
    have e : ldsOf (st.take (i + 1)) = ldsOf (st.take i) ++ (if st[i].f0 = 2 then [st[i].f2] else []) := by
      rw [List.take_succ_eq_append_getElem hil]
      unfold ldsOf
      rw [List.filterMap_append]
      congr 1
      by_cases c : st[i].f0 = 2
      · simp [c]
      · simp [c]
    rw [e] at hnext
    refine Ev.step (fun k => ?_) hnext
    simp only [recouplaw23_RegsFew.l0]
    rw [if_pos (by omega), if_pos (by omega), rdS st i hil, w64 (x := (i : Int) + 1) (by omega) (by omega), i1]
    by_cases c : st[i].f0 = 2
    · have hb := hst _ (List.getElem_mem hil) c
      simp only [if_pos c]
      rw [if_pos (by omega), if_pos (by omega), if_pos (by rw [IntKind.wrap_u64]; omega), shl_bit _ hb.1 hb.2, w64 (by omega) (by omega), i1, List.length_append, List.length_singleton]
      congr 1
      unfold orF; rw [List.foldl_append]; rfl
    · simp only [if_neg c, List.append_nil]
      rw [i1]
theorem wN_big : ∀ (l : List (List S62)), (∀ x ∈ l, x.length ≤ 4160) → wN l ≤ 4161 * l.length
  | [], _ => Nat.le_refl _
  | x :: r, h => by
    have := wN_big r (fun y hy => h y (by simp [hy]))
    have := h x (by simp)
    have e : wN (x :: r) = 1 + x.length + wN r := by simp only [wN, List.map_cons, List.sum_cons]
    rw [e, List.length_cons]; omega
theorem lds_mem {st : List S38} {x : S38} (hx : x ∈ st) (h : x.f0 = 2) : x.f2 ∈ ldsOf st := List.mem_filterMap.2 ⟨x, hx, by rw [if_pos h]⟩
theorem few_end (ins : List Int) (nodes : List (List S62)) (outs : List Int) (hN : ins.length + nodes.length ≤ 4160) {I : List Int} {N : List (List S62)} {O us : List Int} (hm : mayB I N O = true) (hle : I.length + N.length ≤ ins.length + nodes.length) (hok : (giveS I N O us).ok = true) :
    Ev (fun k => recouplaw23_RegsFew.l0 k 0 0 0 ins nodes outs (giveS I N O us).steps (giveS I N O us).regs (outs.length : Int) (giveS I N O us).reads) true := by
  have hF := FI.give (may_inj hm) N O us
  have hg := good_of_may hm
  have h0 := hg.n0
  have h1 := hg.nN
  have h3 := hg.nO
  have hG := may_GT hm
  have hc := cA_le hF
  have hw := wN_big N (fun x hx => by obtain ⟨n, hn, rfl⟩ := List.getElem_of_mem hx; exact hg.tlen n hn)
  obtain ⟨hnd, hin⟩ := hF.nd hok
  have hr := hF.rds hok
  have hreg := hF.rg
  have hst := hF.st
  generalize giveS I N O us = s at *
  have hb : ∀ b ∈ ldsOf s.steps, 0 ≤ b ∧ b < 64 := fun b hb => by
    obtain ⟨v, hv, rfl, _⟩ := hin b hb
    rw [rd_get I v hv]
    exact hG.inb _ (List.getElem_mem hv)
  obtain ⟨ho, hx⟩ := orF_nat hb
  have hbc := bitc_all hb hnd
  rw [ho] at hr
  have hlen : (ldsOf s.steps).length ≤ s.steps.length := List.length_filterMap_le _ _
  have hfin : Ev (fun k => recouplaw23_RegsFew.l1 k (orF (ldsOf s.steps)) ((ldsOf s.steps).length : Int) (bitc (orN (ldsOf s.steps)) 64 : Nat) 64 ins nodes outs s.steps s.regs (outs.length : Int) ((orN (ldsOf s.steps) : Nat) : Int)) true := by
    refine Ev.step (fun k => ?_) (Ev.bind (f := fun k (t : Bool) => if t = true then (some true : Option Bool) else some false) Sames.anchored_ev (Ev.now true))
    simp only [recouplaw23_RegsFew.l1]
    rw [if_neg (by decide), if_pos ho, if_pos (by rw [hbc]), w64 (by omega) (by omega), if_pos (by omega), beq_self_eq_true]
  have h := few_l0 ins nodes outs s.steps s.regs (outs.length : Int) ((orN (ldsOf s.steps) : Nat) : Int) (fun x hx he => hb _ (lds_mem hx he)) (by omega) true
    (few_l1 _ _ ins nodes outs s.steps s.regs (outs.length : Int) _ hx true hfin 64 0 (by omega)) s.steps.length 0 (by omega)
  rw [hr]
  exact h
theorem regsFew_ev (ins : List Int) (nodes : List (List S62)) (outs : List Int) (hi : ins.length ≤ 9223372036854771711) (hx : ∀ l ∈ nodes, l.length ≤ 9223372036854775807) : Ev (fun k => recouplaw23_RegsFew.f k ins nodes outs) true := by
  have hm := rmay_ev ins nodes outs hi hx
  unfold recouplaw23_RegsFew.f
  by_cases c : mayB ins nodes outs = true
  · obtain ⟨W, us, hF, hmt, hle, hus, hE⟩ := give_may c
    have hg := good_of_may c
    have h0 := hg.n0
    have h1 := hg.nN
    refine Ev.bind hE ?_
    by_cases hok : (giveS (fIns ins W ins.length) (fNodes ins nodes W (ins.length + nodes.length)) (fOuts outs W) us).ok = true
    · simp only [if_pos hok, if_true]
      exact few_end ins nodes outs (by omega) hmt hle hok
    · simp only [if_neg hok, show ¬ (4 : Int) = 0 from by decide, if_false]
      refine Ev.bind Sames.anchored_ev ?_
      simp only [if_true]
      rw [c] at hm
      refine Ev.bind hm ?_
      simp only [if_true]
      have : ¬ (fIns ins W ins.length).length + (fNodes ins nodes W (ins.length + nodes.length)).length ≤ 256 := fun h => hok (give_ok hmt h)
      rw [w64 (by omega) (by omega), decide_eq_true (by omega)]
      exact Ev.now _
  · have hc : mayB ins nodes outs = false := by simpa using c
    refine Ev.bind (give_not hc hx) ?_
    simp only [show ¬ (2 : Int) = 0 from by decide, if_false]
    refine Ev.bind Sames.anchored_ev ?_
    simp only [if_true]
    rw [hc] at hm
    refine Ev.bind hm ?_
    simp only [Bool.false_eq_true, if_false]
    exact Ev.now _
def FlowI (x : S25) : Prop :=
  (x.f0.length * 8 ≤ 140737488351232 ∧ ∀ n ∈ x.f0, (Lit.int .i64 n).wf = true) ∧
  (x.f1.length * 24 ≤ 140737488351232 ∧ ∀ l ∈ x.f1, l.length * 16 ≤ 140737488351232 ∧ ∀ y ∈ l, (Lit.int .i64 y.f0).wf = true ∧ (Lit.int .u8 y.f1).wf = true) ∧
  (x.f2.length * 8 ≤ 140737488351232 ∧ ∀ n ∈ x.f2, (Lit.int .i64 n).wf = true)
end Go.Proofs.Ytlflfpkjbjbldaa.Spec
