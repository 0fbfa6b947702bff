/- What the giver's numbers keep: registers no more than values held, steps no more than the flow's size, inputs read once. -/
import Derived.Test.YtlflfpkjbjbldaaTrim
import Derived.Test.YtlflfpkjbjbldaaPAx6
import Derived.Laws.Bits64b
namespace Go.Proofs.Ytlflfpkjbjbldaa.Spec
open Go.RowKit Go.Proofs.Ytlflfpkjbjbldaa.PA Go.Proofs.YtlflfpkjbjbldaaW.PrintWords Go.Proofs.YtlflfpkjbjbldaaW.PrintLast Go.Proofs.YtlflfpkjbjbldaaW.PrintMore
set_option linter.unusedVariables false
set_option linter.unusedSectionVars false
theorem cnt_set {α : Type} (p : α → Bool) : ∀ (l : List α) (i : Nat) (x : α) (h : i < l.length), (l.set i x).countP p + (if p l[i] = true then 1 else 0) = l.countP p + (if p x = true then 1 else 0)
  | a :: r, 0, x, _ => by simp only [List.set_cons_zero, List.countP_cons, List.getElem_cons_zero]; omega
  | a :: r, i + 1, x, h => by
    have := cnt_set p r i x (by simpa using h)
    simp only [List.set_cons_succ, List.countP_cons, List.getElem_cons_succ]; omega
theorem cnt_lt {α : Type} (p : α → Bool) : ∀ (l : List α) (i : Nat) (h : i < l.length), p l[i] = false → l.countP p < l.length
  | a :: r, 0, _, h => by
    have := List.countP_le_length (p := p) (l := r)
    simp only [List.getElem_cons_zero] at h
    simp only [List.countP_cons, h, List.length_cons]
    simp; omega
  | a :: r, i + 1, hl, h => by
    have := cnt_lt p r i (by simpa using hl) (by simpa using h)
    simp only [List.countP_cons, List.length_cons]
    split <;> omega
def cT (l : List Bool) : Nat := l.countP id
theorem firstF_cnt : ∀ (l : List Bool) (i : Nat), (firstF l i < 0 → cT l = l.length) ∧ (0 ≤ firstF l i → firstF l i ≤ (i + cT l : Nat))
  | [], i => ⟨fun _ => rfl, fun h => by simp [firstF] at h⟩
  | true :: r, i => by
    have := firstF_cnt r (i + 1)
    have e : firstF (true :: r) i = firstF r (i + 1) := by simp [firstF]
    have e2 : cT (true :: r) = cT r + 1 := by simp [cT]
    rw [e, e2]
    refine ⟨fun h => by rw [this.1 h]; simp, fun h => ?_⟩
    have := this.2 h
    omega
  | false :: r, i => by
    have e : firstF (false :: r) i = (i : Int) := by simp [firstF]
    rw [e]
    exact ⟨fun h => by omega, fun h => by omega⟩
def cA (s : GS) : Nat := s.at_.countP (fun x => decide (0 ≤ x))
def ldsOf (l : List S38) : List Int := l.filterMap (fun x => if x.f0 = 2 then some x.f2 else none)
def orF (l : List Int) : Int := l.foldl (fun a b => Go.bits .or .u64 a (IntKind.u64.wrap (2 ^ b.toNat))) 0
/-- The giver's numbers: M bounds the steps that are no loads. -/
structure FI (ins : List Int) (s : GS) (n M : Nat) : Prop where
  tl : s.taken.length = 256
  al : s.at_.length = n
  tc : cT s.taken ≤ cA s
  rg : 0 ≤ s.regs ∧ s.regs ≤ cA s
  st : s.steps.length ≤ cA s + M
  okI : n ≤ 256 → M < 65000 → s.ok = true
  rds : s.ok = true → s.reads = orF (ldsOf s.steps)
  nd : s.ok = true → (ldsOf s.steps).Nodup ∧ ∀ b ∈ ldsOf s.steps, ∃ v, v < ins.length ∧ b = rd ins v ∧ 0 ≤ atS s v
theorem cA_le {ins : List Int} {s : GS} {n M : Nat} (h : FI ins s n M) : cA s ≤ n := h.al ▸ List.countP_le_length
theorem FI.step {ins : List Int} {s : GS} {n M : Nat} (h : FI ins s n M) (x : S38) (hx : x.f0 ≠ 2) : FI ins (stepS s x) n (M + 1) := by
  have hc := cA_le h
  unfold stepS
  by_cases e : s.steps.length = 65536
  · rw [if_pos e]
    refine ⟨h.tl, h.al, h.tc, h.rg, Nat.le_trans h.st (Nat.le_succ _), fun hn hM => ?_, fun h => (by cases h), fun h => (by cases h)⟩
    have := h.st
    omega
  · rw [if_neg e]
    have e2 : ldsOf (s.steps ++ [x]) = ldsOf s.steps := by simp [ldsOf, hx]
    refine ⟨h.tl, h.al, h.tc, h.rg, ?_, fun hn hM => h.okI hn (by omega), fun ho => ?_, fun ho => ?_⟩
    · have := h.st
      show (s.steps ++ [x]).length ≤ cA s + (M + 1)
      simp; omega
    · show s.reads = orF (ldsOf (s.steps ++ [x])); rw [e2]; exact h.rds ho
    · show (ldsOf (s.steps ++ [x])).Nodup ∧ _
      rw [show ({ s with steps := s.steps ++ [x] } : GS).steps = s.steps ++ [x] from rfl, e2]; exact h.nd ho
theorem at_get {s : GS} {v : Nat} (hv : v < s.at_.length) : atS s v = s.at_[v] := by unfold atS; rw [List.getD_eq_getElem?_getD, List.getElem?_eq_getElem hv]; rfl
theorem cA_hold {s : GS} {v : Nat} (hv : v < s.at_.length) (hn : atS s v < 0) : cA (holdS s v) = cA s + 1 := by
  have := cnt_set (fun x : Int => decide (0 ≤ x)) s.at_ v (holdR s : Int) hv
  rw [at_get hv] at hn
  unfold cA holdS
  simp only
  rw [if_neg (by simp; omega), if_pos (by simp)] at this
  omega
theorem cT_hold (s : GS) (v : Nat) : cT (holdS s v).taken ≤ cT s.taken + 1 := by
  unfold holdS cT
  simp only
  by_cases h : holdR s < s.taken.length
  · have := cnt_set id s.taken (holdR s) true h
    simp only [id, if_true] at this
    show (s.taken.set (holdR s) true).countP id ≤ _
    have e : List.countP id s.taken = List.countP (fun a => a) s.taken := rfl
    revert this
    show (s.taken.set (holdR s) true).countP id + _ = s.taken.countP id + 1 → _
    intro this
    split at this <;> omega
  · rw [List.set_eq_of_length_le (by omega)]; omega
theorem FI.hold {ins : List Int} {s : GS} {n M : Nat} (h : FI ins s n M) (v : Nat) (hv : v < n) (hn : atS s v < 0) : FI ins (holdS s v) n M ∧ cA (holdS s v) = cA s + 1 := by
  have hc := cA_le h
  have hv2 : v < s.at_.length := by rw [h.al]; exact hv
  have hA := cA_hold hv2 hn
  have hlt : cA s < n := by
    have := cnt_lt (fun x : Int => decide (0 ≤ x)) s.at_ v hv2 (by rw [at_get hv2] at hn; simp; omega)
    rw [h.al] at this; exact this
  have hf := firstF_cnt s.taken 0
  have htc := h.tc
  have htl := h.tl
  have hok : (holdS s v).ok = true → s.ok = true := by
    unfold holdS; simp only; split
    · intro h; cases h
    · exact id
  refine ⟨⟨by show (s.taken.set _ _).length = 256; rw [List.length_set]; exact h.tl, by show (s.at_.set _ _).length = n; rw [List.length_set]; exact h.al, ?_, ?_, ?_, fun hn2 hM2 => ?_, fun ho => h.rds (hok ho), fun ho => ⟨(h.nd (hok ho)).1, fun b hb => ?_⟩⟩, hA⟩
  · have := cT_hold s v; omega
  · have hr := h.rg
    have e : (holdS s v).regs = max s.regs ((holdR s : Int) + 1) := rfl
    have hR : holdR s ≤ cT s.taken := by
      unfold holdR
      by_cases c : 0 ≤ firstF s.taken 0
      · have := hf.2 c; omega
      · omega
    rw [e, hA]; omega
  · have := h.st
    show s.steps.length ≤ _
    rw [hA]; omega
  · have : ¬ firstF s.taken 0 < 0 := fun c => by have := hf.1 c; omega
    unfold holdS; simp only; rw [if_neg this]; exact h.okI hn2 hM2
  · obtain ⟨u, hu, e, h0⟩ := (h.nd (hok ho)).2 b hb
    refine ⟨u, hu, e, ?_⟩
    rw [atS_hold s v u hv2]
    split
    · omega
    · exact h0
theorem FI.load {ins : List Int} {s : GS} {n M : Nat} (h : FI ins s n M) (hi : ∀ a b, a < ins.length → b < ins.length → rd ins a = rd ins b → a = b) (hin : ins.length ≤ n) (v : Nat) : FI ins (loadS s ins v) n M := by
  unfold loadS
  by_cases c1 : ins.length ≤ v
  · rw [if_pos c1]; exact h
  rw [if_neg c1]
  by_cases c2 : 0 ≤ atS s v
  · rw [if_pos c2]; exact h
  rw [if_neg c2]
  obtain ⟨h2, hA⟩ := h.hold v (by omega) (by omega)
  have hv2 : v < s.at_.length := by rw [h.al]; omega
  have hat : 0 ≤ atS (holdS s v) v := by rw [atS_hold s v v hv2, if_pos rfl]; omega
  have hsl : (holdS s v).steps = s.steps := rfl
  have hst : (holdS s v).steps.length + 1 ≤ cA (holdS s v) + M := by have := h.st; rw [hsl, hA]; omega
  have hfresh : (holdS s v).ok = true → rd ins v ∉ ldsOf s.steps := fun ho hmem => by
    have hso : s.ok = true := by
      revert ho; unfold holdS; simp only; split
      · intro h; cases h
      · exact id
    obtain ⟨u, hu, e, h0⟩ := (h.nd hso).2 _ hmem
    have := hi v u (by omega) hu e
    subst this; exact c2 h0
  have hc := cA_le h2
  generalize hs1 : holdS s v = s1 at h2 hat hst hfresh hsl hc
  clear hs1 hA
  show FI ins { stepS s1 ⟨2, atS s1 v, rd ins v, 0⟩ with reads := _ } n M
  unfold stepS
  by_cases e : s1.steps.length = 65536
  · rw [if_pos e]
    refine ⟨h2.tl, h2.al, h2.tc, h2.rg, h2.st, fun hn hM => ?_, fun h => (by cases h), fun h => (by cases h)⟩
    omega
  · rw [if_neg e]
    have e2 : ldsOf (s1.steps ++ [⟨2, atS s1 v, rd ins v, 0⟩]) = ldsOf s1.steps ++ [rd ins v] := by simp [ldsOf]
    refine ⟨h2.tl, h2.al, h2.tc, h2.rg, ?_, h2.okI, fun ho => ?_, fun ho => ?_⟩
    · show (s1.steps ++ [_]).length ≤ cA s1 + M
      simp; omega
    · have hr := h2.rds ho
      show Go.bits .or .u64 s1.reads _ = orF (ldsOf (s1.steps ++ [_]))
      rw [e2, hr, orF, orF, List.foldl_append]; rfl
    · show (ldsOf (s1.steps ++ [_])).Nodup ∧ ∀ b ∈ ldsOf (s1.steps ++ [_]), ∃ u, u < ins.length ∧ b = rd ins u ∧ 0 ≤ atS s1 u
      rw [e2]
      obtain ⟨n1, n2⟩ := h2.nd ho
      refine ⟨?_, fun b hb => ?_⟩
      · rw [List.nodup_append]
        refine ⟨n1, by simp, fun a ha b hb => ?_⟩
        rw [List.mem_singleton.1 hb]
        rintro rfl
        exact hfresh ho (by rw [← hsl]; exact ha)
      · rcases List.mem_append.1 hb with hb | hb
        · exact n2 b hb
        · rw [List.mem_singleton.1 hb]; exact ⟨v, by omega, rfl, hat⟩
theorem FI.taken {ins : List Int} {s : GS} {n M : Nat} (h : FI ins s n M) (r : Nat) : FI ins { s with taken := s.taken.set r false } n M := by
  refine ⟨by show (s.taken.set _ _).length = 256; rw [List.length_set]; exact h.tl, h.al, ?_, h.rg, h.st, h.okI, h.rds, h.nd⟩
  refine Nat.le_trans ?_ h.tc
  show cT (s.taken.set r false) ≤ cT s.taken
  by_cases c : r < s.taken.length
  · have := cnt_set id s.taken r false c
    unfold cT
    simp only [id, Bool.false_eq_true, if_false] at this
    have e1 : (s.taken.set r false).countP id = List.countP (fun a => a) (s.taken.set r false) := rfl
    have e2 : s.taken.countP id = List.countP (fun a => a) s.taken := rfl
    rw [e1, e2]
    first
      | (split at this <;> omega)
      | omega
  · rw [List.set_eq_of_length_le (by omega)]; exact Nat.le_refl _
theorem FI.done {ins : List Int} {s : GS} {n M : Nat} (h : FI ins s n M) (us : List Int) (i own : Int) (v : Nat) : FI ins (doneS s us i own v) n M := by
  unfold doneS
  split
  · exact h.taken _
  · split
    · split
      · exact h.taken _
      · exact h
    · exact h
theorem FI.dones {ins : List Int} {n M : Nat} (us : List Int) (i own : Int) : ∀ (l : List S62) {s : GS}, FI ins s n M → FI ins (donesN us i own l s) n M
  | [], _, h => h
  | t :: r, s, h => FI.dones us i own r (h.done us i own t.f0.toNat)
theorem at_dones (us : List Int) (i own : Int) : ∀ (l : List S62) (s : GS), (donesN us i own l s).at_ = s.at_
  | [], _ => rfl
  | t :: r, s => (at_dones us i own r _).trans (at_done s us i own _)
theorem FI.macs {ins : List Int} {n : Nat} (own : Nat) : ∀ (l : List S62) {s : GS} {M : Nat}, FI ins s n M → FI ins (macsN own l s) n (M + l.length)
  | [], _, _, h => h
  | t :: r, s, M, h => by
    have := FI.macs own r (h.step ⟨3, atS s own, atS s t.f0.toNat, t.f1⟩ (by simp))
    rw [List.length_cons, show M + (r.length + 1) = M + 1 + r.length from by omega]; exact this
theorem at_macs (own : Nat) : ∀ (l : List S62) (s : GS), (macsN own l s).at_ = s.at_
  | [], _ => rfl
  | t :: r, s => (at_macs own r _).trans (at_step s _)
theorem FI.loads {ins : List Int} {n M : Nat} (hi : ∀ a b : Nat, a < ins.length → b < ins.length → rd ins a = rd ins b → a = b) (hin : ins.length ≤ n) : ∀ (l : List S62) {s : GS}, FI ins s n M → FI ins (loadsN ins l s) n M
  | [], _, h => h
  | t :: r, s, h => FI.loads hi hin r (h.load hi hin t.f0.toNat)
theorem neg_load {ins : List Int} (s : GS) (v u : Nat) (hv : ins.length ≤ u) (h : atS s u < 0) : atS (loadS s ins v) u < 0 := by
  unfold loadS
  split
  · exact h
  split
  · exact h
  show atS (stepS (holdS s v) _) u < 0
  rw [atS_step]
  by_cases c : v < s.at_.length
  · rw [atS_hold s v u c, if_neg (by omega)]; exact h
  · unfold atS holdS; simp only; rw [List.set_eq_of_length_le (by omega)]; exact h
theorem neg_loads {ins : List Int} (u : Nat) (hv : ins.length ≤ u) : ∀ (l : List S62) (s : GS), atS s u < 0 → atS (loadsN ins l s) u < 0
  | [], _, h => h
  | t :: r, s, h => neg_loads u hv r _ (neg_load s _ u hv h)
theorem FI.node {ins : List Int} {n M : Nat} (hi : ∀ a b : Nat, a < ins.length → b < ins.length → rd ins a = rd ins b → a = b) (us : List Int) (i : Nat) (ts : List S62) (hin : ins.length + i < n) {s : GS} (h : FI ins s n M) (hneg : ∀ u, ins.length + i ≤ u → u < n → atS s u < 0) :
    FI ins (nodeS ins us i ts s) n (M + 1 + ts.length) ∧ ∀ u, ins.length + (i + 1) ≤ u → u < n → atS (nodeS ins us i ts s) u < 0 := by
  have h1 := h.loads hi (by omega) ts
  have hn1 : ∀ u, ins.length + i ≤ u → u < n → atS (loadsN ins ts s) u < 0 := fun u a b => neg_loads u (by omega) ts s (hneg u a b)
  have h2 := (h1.hold (ins.length + i) hin (hn1 _ (Nat.le_refl _) hin)).1
  refine ⟨((((h2.step ⟨1, _, 0, 0⟩ (by simp)).macs _ ts).dones us i _ ts).done us i _ _), fun u a b => ?_⟩
  have e : (nodeS ins us i ts s).at_ = (holdS (loadsN ins ts s) (ins.length + i)).at_ := by
    unfold nodeS
    simp only
    rw [at_done, at_dones, at_macs, at_step]
  rw [atS_of e, atS_hold _ _ _ (by rw [h1.al]; exact hin), if_neg (by omega)]
  exact hn1 u (by omega) b
def wN (l : List (List S62)) : Nat := (l.map (fun x => 1 + x.length)).sum
theorem FI.nodes {ins : List Int} {n : Nat} (hi : ∀ a b : Nat, a < ins.length → b < ins.length → rd ins a = rd ins b → a = b) (us : List Int) : ∀ (l : List (List S62)) (i M : Nat) {s : GS}, ins.length + i + l.length = n → FI ins s n M → (∀ u, ins.length + i ≤ u → u < n → atS s u < 0) → FI ins (nodesS ins us i l s) n (M + wN l)
  | [], _, _, _, _, h, _ => h
  | ts :: r, i, M, s, hn, h, hneg => by
    rw [List.length_cons] at hn
    obtain ⟨h1, h2⟩ := h.node hi us i ts (by omega) hneg
    have := FI.nodes hi us r (i + 1) (M + 1 + ts.length) (by omega) h1 h2
    rw [show M + wN (ts :: r) = M + 1 + ts.length + wN r from by simp only [wN, List.map_cons, List.sum_cons]; omega]
    exact this
theorem FI.outs {ins : List Int} {n : Nat} (hi : ∀ a b : Nat, a < ins.length → b < ins.length → rd ins a = rd ins b → a = b) (hin : ins.length ≤ n) : ∀ (l : List Int) (d M : Nat) {s : GS}, FI ins s n M → FI ins (outsS ins d l s) n (M + l.length)
  | [], _, _, _, h => h
  | v :: r, d, M, s, h => by
    have := FI.outs hi hin r (d + 1) (M + 1) ((h.load hi hin v.toNat).step ⟨4, d, atS (loadS s ins v.toNat) v.toNat, 0⟩ (by simp))
    rw [List.length_cons, show M + (r.length + 1) = M + 1 + r.length from by omega]; exact this
theorem FI.gs0 (ins : List Int) (n : Nat) : FI ins (gs0 n) n 0 := by
  have e : cA (PA.gs0 n) = 0 := by
    show (List.replicate n (-1 : Int)).countP _ = 0
    rw [List.countP_replicate]; rfl
  refine ⟨List.length_replicate, by show (List.replicate n (-1 : Int)).length = n; simp, ?_, ?_, Nat.zero_le _, fun _ _ => rfl, fun _ => rfl, fun _ => ⟨by show (ldsOf []).Nodup; simp [ldsOf], fun b hb => by have : b ∈ ldsOf [] := hb; simp [ldsOf] at this⟩⟩
  · rw [e]; show cT (List.replicate 256 false) ≤ 0
    unfold cT; rw [List.countP_replicate]; exact Nat.le_refl _
  · rw [e]; exact ⟨Int.le_refl _, Int.le_refl _⟩
theorem FI.give {ins : List Int} (hi : ∀ a b : Nat, a < ins.length → b < ins.length → rd ins a = rd ins b → a = b) (nodes : List (List S62)) (outs us : List Int) : FI ins (giveS ins nodes outs us) (ins.length + nodes.length) (wN nodes + outs.length) := by
  have h := FI.nodes hi us nodes 0 0 (by omega) (FI.gs0 ins (ins.length + nodes.length)) (fun u _ hu => by
    show (List.replicate (ins.length + nodes.length) (-1 : Int)).getD u 0 < 0
    rw [List.getD_eq_getElem?_getD, List.getElem?_replicate, if_pos hu]; decide)
  have := FI.outs hi (by omega) outs 0 _ h
  rw [Nat.zero_add] at this; exact this
def tri : Nat → Nat
  | 0 => 0
  | k + 1 => tri k + (k + 1)
theorem tri_mono (a : Nat) : ∀ d, tri a ≤ tri (a + d)
  | 0 => Nat.le_refl _
  | d + 1 => by have := tri_mono a d; show tri a ≤ tri (a + d) + (a + d + 1); omega
theorem wN_tri : ∀ (l : List (List S62)) (a : Nat), (∀ j (h : j < l.length), l[j].length ≤ a + j) → wN l + tri a ≤ tri (a + l.length)
  | [], a, _ => by simp [wN]
  | x :: r, a, h => by
    have h0 := h 0 (by simp)
    have := wN_tri r (a + 1) (fun j hj => by have := h (j + 1) (by simpa using hj); simp only [List.getElem_cons_succ] at this; omega)
    simp only [List.getElem_cons_zero] at h0
    rw [List.length_cons, show a + (r.length + 1) = a + 1 + r.length from by omega]
    have e : wN (x :: r) = 1 + x.length + wN r := by simp only [wN, List.map_cons, List.sum_cons]
    have e2 : tri (a + 1) = tri a + (a + 1) := rfl
    omega
theorem wN_le {l : List (List S62)} {a : Nat} (h : ∀ j (h : j < l.length), l[j].length ≤ a + j) (hn : a + l.length ≤ 256) : wN l ≤ 32896 := by
  have h1 := wN_tri l a h
  have h2 := tri_mono (a + l.length) (256 - (a + l.length))
  rw [show a + l.length + (256 - (a + l.length)) = 256 from by omega, show tri 256 = 32896 from by kernel_rfl] at h2
  omega
end Go.Proofs.Ytlflfpkjbjbldaa.Spec
