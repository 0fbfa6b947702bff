/- FlowTrims' plain law: the program's Trim and the reference's mark the same least closed set, number it alike and copy it alike; the two Costs fold alike. -/
import Derived.Test.YtfnhnniecclleaaSpec
import Derived.Test.YtfnhnniecclleaaPAx12
namespace Go.Proofs.Ytfnhnniecclleaa.Spec
open Go.RowKit Go.Proofs.Ytfnhnniecclleaa.PA Go.Proofs.YtfnhnniecclleaaW.PrintWords Go.Proofs.YtfnhnniecclleaaW.PrintLast
set_option linter.unusedVariables false
set_option linter.unusedSectionVars false
structure Good (ins : List Int) (nodes : List (List S64)) (outs : List Int) : Prop where
  n0 : ins.length ≤ 64
  nN : nodes.length ≤ 4096
  nO : outs.length ≤ 64
  term : ∀ n (h : n < nodes.length), ∀ t ∈ nodes[n], 0 ≤ t.f0 ∧ t.f0 < (ins.length : Int) + n ∧ t.f1 ≠ 0
  tlen : ∀ n (h : n < nodes.length), nodes[n].length ≤ 4160
  outs : ∀ v ∈ outs, 0 ≤ v ∧ v < (ins.length : Int) + nodes.length
theorem termsOk_spec (own : Int) : ∀ (l : List S64) (last : Int), -1 ≤ last → last < own → termsOk own last l = true → (∀ t ∈ l, last < t.f0 ∧ t.f0 < own ∧ t.f1 ≠ 0) ∧ (l.length : Int) ≤ own - 1 - last
  | [], last, h0, h1, _ => ⟨fun _ h => (by cases h), by simp; omega⟩
  | t :: r, last, h0, h1, h => by
    rw [termsOk] at h
    by_cases c1 : t.f0 ≤ last
    · rw [if_pos c1] at h; cases h
    · rw [if_neg c1] at h
      by_cases c2 : t.f0 ≥ own
      · rw [if_pos c2] at h; cases h
      · rw [if_neg c2] at h
        by_cases c3 : t.f1 = 0
        · rw [if_pos c3] at h; cases h
        · rw [if_neg c3] at h
          obtain ⟨ha, hb⟩ := termsOk_spec own r t.f0 (by omega) (by omega) h
          refine ⟨fun x hx => ?_, by simp only [List.length_cons]; omega⟩
          rcases List.mem_cons.1 hx with rfl | hx
          · exact ⟨by omega, by omega, c3⟩
          · have := ha x hx
            exact ⟨by omega, this.2⟩
theorem nodesOk_spec (n0 : Nat) : ∀ (l : List (List S64)) (i : Nat), nodesOk n0 i l = true → ∀ n (h : n < l.length), termsOk ((n0 : Int) + (i + n : Nat)) (-1) l[n] = true
  | [], i, _, n, h => absurd h (by simp)
  | x :: r, i, h, n, hn => by
    rw [nodesOk] at h
    by_cases c : termsOk ((n0 : Int) + i) (-1) x = true
    · rw [if_pos c] at h
      cases n with
      | zero => simpa using c
      | succ n =>
        have := nodesOk_spec n0 r (i + 1) h n (by simpa using hn)
        simpa [show i + 1 + n = i + (n + 1) from by omega] using this
    · rw [if_neg c] at h; cases h
theorem good_of_may {ins : List Int} {nodes : List (List S64)} {outs : List Int} (h : mayB ins nodes outs = true) : Good ins nodes outs := by
  unfold mayB at h
  simp only [Bool.and_eq_true, decide_eq_true_eq, Bool.not_eq_true', List.any_eq_false, Bool.or_eq_true, not_or] at h
  obtain ⟨⟨⟨⟨h0, h1⟩, h2⟩, h3⟩, h4⟩ := h
  have hl := mayIns_len ins (-1) (by omega) (by omega) h0
  have ht := nodesOk_spec ins.length nodes 0 h3
  refine ⟨by omega, h1, h2, fun n hn t htm => ?_, fun n hn => ?_, fun v hv => ?_⟩
  · have := (termsOk_spec _ _ (-1) (by omega) (by omega) (ht n hn)).1 t htm
    exact ⟨by omega, by simpa using this.2.1, this.2.2⟩
  · have := (termsOk_spec _ _ (-1) (by omega) (by omega) (ht n hn)).2
    omega
  · have := h4 v hv
    omega

/-! marks -/
def Mk (h : List Bool) (u : Nat) : Prop := h[u]? = some true
theorem mk_rd (h : List Bool) (u : Nat) : rdOf false h (u : Int) = true ↔ Mk h u := by
  unfold rdOf Mk
  simp only [Int.toNat_natCast]
  rw [List.getD_eq_getElem?_getD]
  cases h[u]? <;> simp
theorem mk_set {h : List Bool} {v u : Nat} (hv : v < h.length) : Mk (h.set v true) u ↔ u = v ∨ Mk h u := by
  unfold Mk
  rw [List.getElem?_set]
  by_cases e : v = u
  · subst e; simp [hv]
  · simp [e]; intro h'; exact absurd h'.symm e
theorem mk_lt {h : List Bool} {u : Nat} (hm : Mk h u) : u < h.length := (List.getElem?_eq_some_iff.1 hm).1
/-- The values of which value u is made. -/
def kids (n0 : Nat) (nodes : List (List S64)) (u : Nat) : List Nat := if u < n0 then [] else (nodes.getD (u - n0) []).map (fun t => t.f0.toNat)
def ClosedS (n0 : Nat) (nodes : List (List S64)) (S : Nat → Prop) : Prop := ∀ u, S u → ∀ c ∈ kids n0 nodes u, S c
section
variable {ins : List Int} {nodes : List (List S64)} {outs : List Int} (hg : Good ins nodes outs)
include hg
structure Marked (h h' : List Bool) (v : Nat) : Prop where
  len : h'.length = h.length
  grow : ∀ u, Mk h u → Mk h' u
  here : Mk h' v
  above : ∀ u, v < u → (Mk h' u ↔ Mk h u)
  closed : ∀ u, u ≤ v → Mk h' u → ∀ c ∈ kids ins.length nodes u, Mk h' c
  least : ∀ S : Nat → Prop, ClosedS ins.length nodes S → S v → (∀ u, Mk h u → S u) → ∀ u, Mk h' u → S u
theorem mark_ev (v : Nat) : ∀ (h : List Bool), h.length = ins.length + nodes.length → v < ins.length + nodes.length → (∀ u, u ≤ v → Mk h u → ∀ c ∈ kids ins.length nodes u, Mk h c) →
    ∃ h', Ev (fun k => flow_mark.f k ins nodes outs h (v : Int)) h' ∧ Marked (ins := ins) (nodes := nodes) h h' v := by
  induction v using Nat.strongRecOn with
  | _ v ih =>
    intro h hl hv hc
    by_cases c0 : Mk h v
    · refine ⟨h, Ev.step (fun k => ?_) (Ev.now h), ⟨rfl, fun u hu => hu, c0, fun u _ => Iff.rfl, hc, fun S _ _ hS => hS⟩⟩
      rw [flow_mark.f, if_pos (by omega), if_pos (by omega), if_pos ((mk_rd h v).2 c0)]
    · have c0' : ¬ rdOf false h (v : Int) = true := fun e => c0 ((mk_rd h v).1 e)
      have hvl : v < h.length := by omega
      by_cases c1 : v < ins.length
      · have hk : kids ins.length nodes v = [] := by unfold kids; rw [if_pos c1]
        refine ⟨h.set v true, Ev.step (fun k => ?_) (Ev.now _), ⟨by simp, fun u hu => (mk_set hvl).2 (.inr hu), (mk_set hvl).2 (.inl rfl), fun u hu => ?_, fun u hu hm c hcm => ?_, fun S _ hSv hS u hm => ?_⟩⟩
        · rw [flow_mark.f, if_pos (by omega), if_pos (by omega), if_neg c0', if_pos (by omega)]
          rfl
        · rw [mk_set hvl]; exact ⟨fun e => e.resolve_left (by omega), .inr⟩
        · rcases (mk_set hvl).1 hm with rfl | hm
          · rw [hk] at hcm; cases hcm
          · exact (mk_set hvl).2 (.inr (hc u hu hm c hcm))
        · rcases (mk_set hvl).1 hm with rfl | hm
          · exact hSv
          · exact hS u hm
      · have hn : v - ins.length < nodes.length := by omega
        have hrd : rd_L4 nodes ((v : Int) - (ins.length : Int)) = nodes[v - ins.length] := by
          rw [show (v : Int) - (ins.length : Int) = ((v - ins.length : Nat) : Int) from by omega, rdL nodes _ hn]
        have hkids : kids ins.length nodes v = nodes[v - ins.length].map (fun t => t.f0.toNat) := by
          unfold kids
          rw [if_neg c1, List.getD_eq_getElem?_getD, List.getElem?_eq_getElem hn]; rfl
        -- the loop over the terms
        have loop : ∀ (l : List S64) (g : List Bool), (∀ t ∈ l, t ∈ nodes[v - ins.length]) → g.length = h.length → (∀ u, u < v → Mk g u → ∀ c ∈ kids ins.length nodes u, Mk g c) →
            ∃ g', Ev (fun k => markL (fun h v => flow_mark.f k ins nodes outs h v) l g) g' ∧ g'.length = h.length ∧ (∀ u, Mk g u → Mk g' u) ∧ (∀ t ∈ l, Mk g' t.f0.toNat) ∧ (∀ u, v ≤ u → (Mk g' u ↔ Mk g u)) ∧
              (∀ u, u < v → Mk g' u → ∀ c ∈ kids ins.length nodes u, Mk g' c) ∧ (∀ S : Nat → Prop, ClosedS ins.length nodes S → (∀ t ∈ l, S t.f0.toNat) → (∀ u, Mk g u → S u) → ∀ u, Mk g' u → S u) := by
          intro l
          induction l with
          | nil => intro g _ hgl hgc; exact ⟨g, Ev.now g, hgl, fun _ h => h, fun _ h => (by cases h), fun _ _ => Iff.rfl, hgc, fun S _ _ hS => hS⟩
          | cons t r ihl =>
            intro g hmem hgl hgc
            have ht := hg.term _ hn t (hmem t (by simp))
            have htv : t.f0.toNat < v := by omega
            obtain ⟨g1, hev, hm⟩ := ih t.f0.toNat htv g (by omega) (by omega) (fun u hu => hgc u (by omega))
            rw [Int.toNat_of_nonneg ht.1] at hev
            have hgc1 : ∀ u, u < v → Mk g1 u → ∀ c ∈ kids ins.length nodes u, Mk g1 c := by
              intro u hu hmu c hcm
              by_cases e : u ≤ t.f0.toNat
              · exact hm.closed u e hmu c hcm
              · exact hm.grow c (hgc u hu ((hm.above u (by omega)).1 hmu) c hcm)
            obtain ⟨g2, hev2, hl2, hgr2, hin2, hab2, hcl2, hls2⟩ := ihl g1 (fun x hx => hmem x (by simp [hx])) (by rw [hm.len, hgl]) hgc1
            refine ⟨g2, ?_, hl2, fun u hu => hgr2 u (hm.grow u hu), fun x hx => ?_, fun u hu => (hab2 u hu).trans (hm.above u (by omega)), hcl2, fun S hS hSl hSg => ?_⟩
            · refine Ev.congr (f := fun k => (flow_mark.f k ins nodes outs g t.f0).bind fun h' => markL (fun h v => flow_mark.f k ins nodes outs h v) r h') (fun k => rfl) ?_
              exact Ev.bind hev hev2
            · rcases List.mem_cons.1 hx with rfl | hx
              · exact hgr2 _ hm.here
              · exact hin2 x hx
            · exact hls2 S hS (fun x hx => hSl x (by simp [hx])) (hm.least S hS (hSl t (by simp)) hSg)
        obtain ⟨g', hev, hgl, hgr, hin, hab, hcl, hls⟩ := loop nodes[v - ins.length] (h.set v true) (fun _ h => h) (by simp) (fun u hu hm c hcm => by
          rcases (mk_set hvl).1 hm with rfl | hm
          · omega
          · exact (mk_set hvl).2 (.inr (hc u (by omega) hm c hcm)))
        refine ⟨g', Ev.step (fun k => ?_) hev, ⟨hgl, fun u hu => hgr u ((mk_set hvl).2 (.inr hu)), hgr v ((mk_set hvl).2 (.inl rfl)), fun u hu => ?_, fun u hu hm c hcm => ?_, fun S hS hSv hSh u hm => ?_⟩⟩
        · rw [flow_mark.f, if_pos (by omega), if_pos (by omega), if_neg c0', if_neg (by omega), if_pos (by omega), hrd]
          rfl
        · rw [hab u (by omega), mk_set hvl]; exact ⟨fun e => e.resolve_left (by omega), .inr⟩
        · by_cases e : u = v
          · subst e
            rw [hkids] at hcm
            obtain ⟨t, ht, rfl⟩ := List.mem_map.1 hcm
            exact hin t ht
          · exact hcl u (by omega) hm c hcm
        · refine hls S hS (fun t ht => hS v hSv _ (by rw [hkids]; exact List.mem_map.2 ⟨t, ht, rfl⟩)) (fun x hx => ?_) u hm
          rcases (mk_set hvl).1 hx with rfl | hx
          · exact hSv
          · exact hSh x hx

structure Final (h : List Bool) : Prop where
  len : h.length = ins.length + nodes.length
  outM : ∀ o ∈ outs, Mk h o.toNat
  closed : ClosedS ins.length nodes (Mk h)
  least : ∀ S : Nat → Prop, ClosedS ins.length nodes S → (∀ o ∈ outs, S o.toNat) → ∀ u, Mk h u → S u
def mb (h : List Bool) (u : Nat) : Bool := h.getD u false
omit hg in
theorem mb_iff (h : List Bool) (u : Nat) : mb h u = true ↔ Mk h u := by
  unfold mb Mk
  rw [List.getD_eq_getElem?_getD]
  cases h[u]? <;> simp
omit hg in
theorem mb_rd (h : List Bool) (u : Nat) : rdOf false h (u : Int) = mb h u := by simp [rdOf, mb]
def rank (h : List Bool) : Nat → Nat
  | 0 => 0
  | v + 1 => if mb h v = true then rank h v + 1 else rank h v
def fIns (ins : List Int) (h : List Bool) : Nat → List Int
  | 0 => []
  | v + 1 => if mb h v = true then (if v < ins.length then fIns ins h v ++ [rd ins v] else fIns ins h v) else fIns ins h v
def fRow (h : List Bool) (l : List S64) : List S64 := l.map fun t => (⟨(rank h t.f0.toNat : Int), t.f1⟩ : S64)
def fNodes (ins : List Int) (nodes : List (List S64)) (h : List Bool) : Nat → List (List S64)
  | 0 => []
  | v + 1 => if mb h v = true then (if v < ins.length then fNodes ins nodes h v else fNodes ins nodes h v ++ [fRow h (rd_L4 nodes ((v - ins.length : Nat) : Int))]) else fNodes ins nodes h v
def fOuts (outs : List Int) (h : List Bool) : List Int := outs.map fun o => (rank h o.toNat : Int)
omit hg in
theorem rank_le (h : List Bool) : ∀ v, rank h v ≤ v
  | 0 => Nat.le_refl _
  | v + 1 => by rw [rank]; have := rank_le h v; split <;> omega
omit hg in
theorem fIns_len (h : List Bool) : ∀ v, (fIns ins h v).length ≤ v
  | 0 => Nat.le_refl _
  | v + 1 => by
    rw [fIns]; have := fIns_len h v
    split
    · split
      · rw [List.length_append, List.length_singleton]; omega
      · omega
    · omega
omit hg in
theorem fNodes_len (h : List Bool) : ∀ v, (fNodes ins nodes h v).length ≤ v
  | 0 => Nat.le_refl _
  | v + 1 => by
    rw [fNodes]; have := fNodes_len h v
    split
    · split
      · omega
      · rw [List.length_append, List.length_singleton]; omega
    · omega
omit hg in
theorem fIns_hi (h : List Bool) : ∀ d, fIns ins h (ins.length + d) = fIns ins h ins.length
  | 0 => rfl
  | d + 1 => by
    rw [← Nat.add_assoc, fIns, if_neg (by omega : ¬ ins.length + d < ins.length), fIns_hi h d]
    simp
/-! the program's Trim -/
theorem trim_l0 (W0 : Unit) (d : Nat) : ∀ (i : Nat) (h : List Bool), i + d = outs.length → h.length = ins.length + nodes.length → (∀ o ∈ outs.take i, Mk h o.toNat) → ClosedS ins.length nodes (Mk h) →
    (∀ S : Nat → Prop, ClosedS ins.length nodes S → (∀ o ∈ outs, S o.toNat) → ∀ u, Mk h u → S u) →
    ∃ h', Final (ins := ins) (nodes := nodes) (outs := outs) h' ∧ ∀ R, Ev (fun k => flow_Trim.l1 k (List.replicate (ins.length + nodes.length) 0) 0 h' (h'.length : Int) 0 ins nodes outs [] []) R → Ev (fun k => flow_Trim.l0 k h outs (outs.length : Int) (i : Int) ins nodes outs) R := by
  have h1 := hg.n0
  have h2 := hg.nN
  have h3 := hg.nO
  induction d with
  | zero =>
    intro i h hi hl ho hc hs
    rw [List.take_of_length_le (by omega)] at ho
    refine ⟨h, ⟨hl, ho, hc, hs⟩, fun R hR => Ev.step (fun k => ?_) hR⟩
    simp only [flow_Trim.l0]
    rw [if_neg (by omega), if_pos (by omega), if_pos (by omega), Int.toNat_natCast, hl]
  | succ d ih =>
    intro i h hi hl ho hc hs
    have hil : i < outs.length := by omega
    have hov := hg.outs _ (List.getElem_mem hil)
    obtain ⟨h', hev, hm⟩ := mark_ev hg outs[i].toNat h hl (by omega) (fun u _ hu => hc u hu)
    rw [Int.toNat_of_nonneg hov.1] at hev
    have hc' : ClosedS ins.length nodes (Mk h') := by
      intro u hu c hcm
      by_cases e : u ≤ outs[i].toNat
      · exact hm.closed u e hu c hcm
      · exact hm.grow c (hc u ((hm.above u (by omega)).1 hu) c hcm)
    obtain ⟨h'', hF, hR⟩ := ih (i + 1) h' (by omega) (by rw [hm.len, hl]) (fun o hom => by
      rw [List.take_succ_eq_append_getElem hil] at hom
      rcases List.mem_append.1 hom with hom | hom
      · exact hm.grow _ (ho o hom)
      · rw [List.mem_singleton.1 hom]; exact hm.here) hc' (fun S hS hSo => hm.least S hS (hSo _ (List.getElem_mem hil)) (hs S hS hSo))
    refine ⟨h'', hF, fun R hRR => Ev.step (fun k => ?_) (Ev.bind (f := fun k t => flow_Trim.l0 k t outs (outs.length : Int) ((i + 1 : Nat) : Int) ins nodes outs) hev (hR R hRR))⟩
    simp only [flow_Trim.l0]
    rw [if_pos (by omega), if_pos (by omega), if_pos (by omega), rd_get outs i hil, w64 (by omega) (by omega), i1]

theorem trim_l3 (W : List Bool) (a : List Int) (hal : a.length = ins.length + nodes.length) (ha : ∀ u, Mk W u → rd a (u : Int) = (rank W u : Int)) (hF : Final (ins := ins) (nodes := nodes) (outs := outs) W) (A : List Int) (B : List (List S64)) (d : Nat) : ∀ (i : Nat), i + d = outs.length →
    Ev (fun k => flow_Trim.l3 k a outs (outs.length : Int) (i : Int) A B (fOuts (outs.take i) W)) (A, B, fOuts outs W, 0) := by
  have h1 := hg.n0
  have h2 := hg.nN
  have h3 := hg.nO
  induction d with
  | zero =>
    intro i hi
    rw [List.take_of_length_le (by omega)]
    refine Ev.step (fun k => ?_) (Ev.now _)
    simp only [flow_Trim.l3]
    rw [if_neg (by omega)]
  | succ d ih =>
    intro i hi
    have hil : i < outs.length := by omega
    have hov := hg.outs _ (List.getElem_mem hil)
    have hmk := hF.outM _ (List.getElem_mem hil)
    have hra := ha _ hmk
    rw [Int.toNat_of_nonneg hov.1] at hra
    have hnext := ih (i + 1) (by omega)
    have e : fOuts (outs.take (i + 1)) W = fOuts (outs.take i) W ++ [rd a outs[i]] := by
      rw [List.take_succ_eq_append_getElem hil, fOuts, List.map_append, List.map_cons, List.map_nil, hra]; rfl
    rw [e] at hnext
    refine Ev.step (fun k => ?_) hnext
    simp only [flow_Trim.l3]
    rw [if_pos (by omega), if_pos (by omega), if_pos (by omega), rd_get outs i hil, if_pos (by omega), if_pos (by omega), if_pos (by simp [fOuts]; omega), w64 (by omega) (by omega), i1]

theorem rd_set (a : List Int) (i j : Nat) (x : Int) (hi : i < a.length) : rd (a.set i x) (j : Int) = if i = j then x else rd a (j : Int) := by
  unfold rd
  simp only [Int.toNat_natCast]
  rw [List.getD_eq_getElem?_getD, List.getElem?_set, List.getD_eq_getElem?_getD]
  by_cases e : i = j
  · subst e; simp [hi]
  · simp [e]

theorem trim_l2 (W : List Bool) (a : List Int) (c : Int) (v : Nat) (hv : v < ins.length + nodes.length) (hvi : ins.length ≤ v) (hal : a.length = ins.length + nodes.length) (ha : ∀ u, u ≤ v → Mk W u → rd a (u : Int) = (rank W u : Int)) (hF : Final (ins := ins) (nodes := nodes) (outs := outs) W) (hm : Mk W v)
    (A : List Int) (B : List (List S64)) (hB : B.length ≤ v) (R : List Int × List (List S64) × List Int × Int) (hn : v - ins.length < nodes.length) (hR : Ev (fun k => flow_Trim.l1 k a c W (W.length : Int) ((v + 1 : Nat) : Int) ins nodes outs A (B ++ [fRow W nodes[v - ins.length]])) R) (d : Nat) : ∀ (i : Nat), i + d = nodes[v - ins.length].length →
    Ev (fun k => flow_Trim.l2 k a c (fRow W (nodes[v - ins.length].take i)) W (W.length : Int) (v : Int) nodes[v - ins.length] (nodes[v - ins.length].length : Int) (i : Int) ins nodes outs A B) R := by
  have h1 := hg.n0
  have h2 := hg.nN
  have h3 := hg.tlen _ hn
  induction d with
  | zero =>
    intro i hi
    rw [List.take_of_length_le (by omega)]
    refine Ev.step (fun k => ?_) hR
    simp only [flow_Trim.l2]
    rw [if_neg (by omega), if_pos (by omega), w64 (by omega) (by omega), i1]
  | succ d ih =>
    intro i hi
    have hil : i < nodes[v - ins.length].length := by omega
    have ht := hg.term _ hn _ (List.getElem_mem hil)
    have hkid : Mk W (nodes[v - ins.length][i].f0.toNat) := hF.closed v hm _ (by
      unfold kids
      rw [if_neg (by omega), List.getD_eq_getElem?_getD, List.getElem?_eq_getElem hn]
      exact List.mem_map.2 ⟨_, List.getElem_mem hil, rfl⟩)
    have hra := ha _ (by omega) hkid
    rw [Int.toNat_of_nonneg ht.1] at hra
    have hnext := ih (i + 1) (by omega)
    have e : fRow W (nodes[v - ins.length].take (i + 1)) = fRow W (nodes[v - ins.length].take i) ++ [(⟨rd a nodes[v - ins.length][i].f0, nodes[v - ins.length][i].f1⟩ : S64)] := by
      rw [List.take_succ_eq_append_getElem hil, fRow, List.map_append, List.map_cons, List.map_nil, hra]; rfl
    rw [e] at hnext
    refine Ev.step (fun k => ?_) hnext
    simp only [flow_Trim.l2]
    rw [if_pos (by omega), if_pos (by omega), if_pos (by omega), rdT _ i hil, if_pos (by omega), if_pos (by omega), if_pos (by simp [fRow]; omega), w64 (by omega) (by omega), i1]

theorem trim_l1 (W : List Bool) (hF : Final (ins := ins) (nodes := nodes) (outs := outs) W) (d : Nat) : ∀ (v : Nat) (a : List Int), v + d = ins.length + nodes.length → a.length = ins.length + nodes.length → (∀ u, u < v → Mk W u → rd a (u : Int) = (rank W u : Int)) →
    Ev (fun k => flow_Trim.l1 k a (rank W v : Int) W (W.length : Int) (v : Int) ins nodes outs (fIns ins W v) (fNodes ins nodes W v)) (fIns ins W (ins.length + nodes.length), fNodes ins nodes W (ins.length + nodes.length), fOuts outs W, 0) := by
  have h1 := hg.n0
  have h2 := hg.nN
  have hWl := hF.len
  induction d with
  | zero =>
    intro v a hv hal ha
    obtain rfl : v = ins.length + nodes.length := by omega
    refine Ev.step (fun k => ?_) (trim_l3 hg W a hal (fun u hu => ha u (by have := mk_lt hu; omega) hu) hF _ _ outs.length 0 (by omega))
    simp only [flow_Trim.l1]
    rw [if_neg (by omega)]
    rfl
  | succ d ih =>
    intro v a hv hal ha
    have hrk := rank_le W v
    have hil := fIns_len (ins := ins) W v
    have hnl := fNodes_len (ins := ins) (nodes := nodes) W v
    by_cases hm : mb W v = true
    · have hMk := (mb_iff W v).1 hm
      have hal2 : (a.set v (rank W v : Int)).length = ins.length + nodes.length := by rw [List.length_set, hal]
      have ha2 : ∀ u, u ≤ v → Mk W u → rd (a.set v (rank W v : Int)) (u : Int) = (rank W u : Int) := by
        intro u hu hmu
        rw [rd_set hg a v u _ (by omega)]
        by_cases e : v = u
        · rw [if_pos e, e]
        · rw [if_neg e]; exact ha u (by omega) hmu
      have hnext := ih (v + 1) (a.set v (rank W v : Int)) (by omega) hal2 (fun u hu => ha2 u (by omega))
      have er : rank W (v + 1) = rank W v + 1 := by rw [rank, if_pos hm]
      rw [er] at hnext
      by_cases hvi : v < ins.length
      · have ei : fIns ins W (v + 1) = fIns ins W v ++ [rd ins v] := by rw [fIns, if_pos hm, if_pos hvi]
        have en : fNodes ins nodes W (v + 1) = fNodes ins nodes W v := by rw [fNodes, if_pos hm, if_pos hvi]
        rw [ei, en] at hnext
        refine Ev.step (fun k => ?_) hnext
        simp only [flow_Trim.l1]
        rw [if_pos (by omega), if_pos (by omega), if_pos (by omega), mb_rd, if_pos hm, if_pos (by omega), Option.bind_some, if_pos (by omega), if_pos (by omega), Int.toNat_natCast, w64 (by omega) (by omega), w64 (by omega) (by omega), i1, i1]
      · have hn : v - ins.length < nodes.length := by omega
        have ei : fIns ins W (v + 1) = fIns ins W v := by rw [fIns, if_pos hm, if_neg hvi]
        have en : fNodes ins nodes W (v + 1) = fNodes ins nodes W v ++ [fRow W nodes[v - ins.length]] := by rw [fNodes, if_pos hm, if_neg hvi, rdL nodes _ hn]
        rw [ei, en] at hnext
        refine Ev.step (fun k => ?_) (trim_l2 hg W (a.set v (rank W v : Int)) ((rank W v + 1 : Nat) : Int) v (by omega) (by omega) hal2 ha2 hF hMk _ _ (by omega) _ hn hnext nodes[v - ins.length].length 0 (by omega))
        simp only [flow_Trim.l1]
        have ej : wrap64 ((v : Int) - (ins.length : Int)) = ((v - ins.length : Nat) : Int) := by rw [w64 (by omega) (by omega)]; omega
        rw [if_pos (by omega), if_pos (by omega), if_pos (by omega), mb_rd, if_pos hm, if_pos (by omega), Option.bind_some, if_neg (by omega), ej, if_pos (by omega), if_pos (by omega), Int.toNat_natCast, w64 (by omega) (by omega), rdL nodes _ hn, i1]
        rfl
    · have er : rank W (v + 1) = rank W v := by rw [rank, if_neg hm]
      have ei : fIns ins W (v + 1) = fIns ins W v := by rw [fIns, if_neg hm]
      have en : fNodes ins nodes W (v + 1) = fNodes ins nodes W v := by rw [fNodes, if_neg hm]
      have hnext := ih (v + 1) a (by omega) hal (fun u hu hmu => ha u (by
        by_cases e : u = v
        · subst e; exact absurd ((mb_iff W u).2 hmu) hm
        · omega) hmu)
      rw [er, ei, en] at hnext
      refine Ev.step (fun k => ?_) hnext
      simp only [flow_Trim.l1]
      rw [if_pos (by omega), if_pos (by omega), if_pos (by omega), mb_rd, if_neg hm, w64 (by omega) (by omega), i1]
/-! the reference's Trim -/
structure Inv (n : Nat) (h : List Bool) : Prop where
  len : h.length = ins.length + nodes.length
  outM : ∀ o ∈ outs, Mk h o.toNat
  cl : ∀ u, ins.length + n ≤ u → Mk h u → ∀ c ∈ kids ins.length nodes u, Mk h c
  least : ∀ S : Nat → Prop, ClosedS ins.length nodes S → (∀ o ∈ outs, S o.toNat) → ∀ u, Mk h u → S u
theorem mk_rep (n u : Nat) : ¬ Mk (List.replicate n false) u := by
  unfold Mk; rw [List.getElem?_replicate]; split <;> simp
theorem flow_Trim_ev (hmay : mayB ins nodes outs = true) : ∃ W, Final (ins := ins) (nodes := nodes) (outs := outs) W ∧ Ev (fun k => flow_Trim.f k ins nodes outs) (fIns ins W ins.length, fNodes ins nodes W (ins.length + nodes.length), fOuts outs W, 0) := by
  have h1 := hg.n0
  have h2 := hg.nN
  obtain ⟨W, hF, hR⟩ := trim_l0 hg () outs.length 0 (List.replicate (ins.length + nodes.length) false) (by omega) (by simp) (by simp) (fun u hu => absurd hu (mk_rep hg _ _)) (fun S _ _ u hu => absurd hu (mk_rep hg _ _))
  refine ⟨W, hF, ?_⟩
  have hl1 := trim_l1 hg W hF (ins.length + nodes.length) 0 (List.replicate (ins.length + nodes.length) 0) (by omega) (by simp) (by intro u hu; omega)
  rw [fIns_hi] at hl1
  have hm := flow_May_ev ins nodes outs (fun x hx => by
    obtain ⟨n, hn, rfl⟩ := List.getElem_of_mem hx
    have := hg.tlen n hn; omega)
  rw [hmay] at hm
  refine Ev.congr (fun k => rfl) (Ev.bind hm ?_)
  refine Ev.congr (fun k => ?_) (hR _ hl1)
  rw [if_pos rfl, w64 (by omega) (by omega), if_pos (by omega), if_pos (by omega)]
  rw [show ((ins.length : Int) + (nodes.length : Int)).toNat = ins.length + nodes.length from by omega]
  rfl
end

/-! Cost -/
end Go.Proofs.Ytfnhnniecclleaa.Spec
