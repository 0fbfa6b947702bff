/- All nodes' steps, and what comes out. -/
import Derived.Test.YtlflfpkjbjbldaaLessB
namespace Go.Proofs.Ytlflfpkjbjbldaa.Spec
open Go.RowKit Go.Proofs.Ytlflfpkjbjbldaa.PA Go.Proofs.YtlflfpkjbjbldaaW.PrintWords Go.Proofs.YtlflfpkjbjbldaaW.PrintLast Go.Proofs.YtlflfpkjbjbldaaW.PrintMore
set_option linter.unusedVariables false
set_option linter.unusedSectionVars false
theorem runS_append (L : Nat) (bl : List (List Int)) : ∀ (a b : List S38) (R O R' O' : Cells), runS L bl a R O = some (some (R', O')) → runS L bl (a ++ b) R O = runS L bl b R' O'
  | [], b, R, O, R', O', h => by
    simp only [runS] at h
    obtain ⟨rfl, rfl⟩ := Prod.mk.inj (Option.some.inj (Option.some.inj h))
    rfl
  | x :: r, b, R, O, R', O', h => by
    simp only [List.cons_append, runS] at h ⊢
    cases hd : doV L bl R O x with
    | none => rw [hd] at h; cases h
    | some X =>
      rw [hd] at h
      simp only [Option.bind_some] at h ⊢
      cases X with
      | none => simp at h
      | some Y =>
        obtain ⟨R1, O1⟩ := Y
        exact runS_append L bl r b R1 O1 R' O' h
theorem firstF_get : ∀ (l : List Bool) (i : Nat), 0 ≤ firstF l i → (i : Int) ≤ firstF l i ∧ l[(firstF l i).toNat - i]? = some false
  | [], i, h => by simp [firstF] at h
  | true :: r, i, h => by
    have e : firstF (true :: r) i = firstF r (i + 1) := by simp [firstF]
    rw [e] at h ⊢
    have := firstF_get r (i + 1) h
    refine ⟨by omega, ?_⟩
    rw [show (firstF r (i + 1)).toNat - i = ((firstF r (i + 1)).toNat - (i + 1)) + 1 from by omega, List.getElem?_cons_succ]
    exact this.2
  | false :: r, i, h => by
    have e : firstF (false :: r) i = (i : Int) := by simp [firstF]
    rw [e]
    exact ⟨Int.le_refl _, by simp⟩
/-- What the machine holds after the steps given so far: c says the value that each live number has. -/
structure SI (L : Nat) (bl : List (List Int)) (n K M : Nat) (s : GS) (Lv : Nat → Prop) (c : Nat → List Int) (R O : Cells) : Prop where
  run : runS L bl s.steps (List.replicate K none) (List.replicate M none) = some (some (R, O))
  rl : R.length = K
  ok : s.ok = true
  tl : s.taken.length = 256
  al : s.at_.length = n
  lt : ∀ u, u < n → atS s u < s.regs
  live : ∀ u, u < n → Lv u → 0 ≤ atS s u → s.taken[(atS s u).toNat]? = some true ∧ getC R (atS s u) = some (c u)
  inj : ∀ u v, u < n → v < n → Lv u → Lv v → 0 ≤ atS s u → 0 ≤ atS s v → atS s u = atS s v → u = v
section
variable {L : Nat} {bl : List (List Int)} {n K M : Nat} {s : GS} {Lv : Nat → Prop} {c : Nat → List Int} {R O : Cells}
theorem getC_set (R : Cells) (r : Nat) (x : Option (List Int)) (hr : r < R.length) (j : Int) (hj : 0 ≤ j) : getC (R.set r x) j = if j = (r : Int) then x else getC R j := by
  unfold getC
  rw [List.getD_eq_getElem?_getD, List.getElem?_set, List.getD_eq_getElem?_getD]
  by_cases e : r = j.toNat
  · rw [if_pos e, if_pos (by omega), if_pos (by omega)]; rfl
  · rw [if_neg e, if_neg (by omega)]
theorem step_ok2 {x : S38} (h : (stepS s x).ok = true) : s.ok = true ∧ (stepS s x).steps = s.steps ++ [x] := by
  unfold stepS at h ⊢
  split at h
  · cases h
  · rename_i e; rw [if_neg e]; exact ⟨h, rfl⟩
theorem hold_ok2 {v : Nat} (h : (holdS s v).ok = true) : s.ok = true ∧ 0 ≤ firstF s.taken 0 := by
  unfold holdS at h
  simp only at h
  split at h
  · cases h
  · exact ⟨h, by omega⟩
theorem SI.step1 (h : SI L bl n K M s Lv c R O) {x : S38} {R' O' : Cells} (hx : doV L bl R O x = some (some (R', O'))) (hok : (stepS s x).ok = true) : runS L bl (stepS s x).steps (List.replicate K none) (List.replicate M none) = some (some (R', O')) := by
  rw [(step_ok2 hok).2, runS_append L bl _ _ _ _ _ _ h.run, runS, hx]
  rfl
/-- A number takes a register, and a step writes its value there. -/
theorem SI.put (h : SI L bl n K M s Lv c R O) (v : Nat) (hv : v < n) (hneg : atS s v < 0) (x : S38) (l : List Int) (hok : (stepS (holdS s v) x).ok = true) (hK : (holdS s v).regs ≤ K) (hx : doV L bl R O x = some (some (R.set (holdR s) (some l), O))) (c' : Nat → List Int) (hc : c' v = l ∧ ∀ u, u ≠ v → c' u = c u) :
    SI L bl n K M (stepS (holdS s v) x) Lv c' (R.set (holdR s) (some l)) O := by
  have hv2 : v < s.at_.length := by rw [h.al]; exact hv
  have ho := step_ok2 hok
  have hf := (hold_ok2 ho.1).2
  have hg := firstF_get s.taken 0 hf
  have hr : s.taken[holdR s]? = some false := by have := hg.2; rwa [Nat.sub_zero] at this
  have e : (holdS s v).regs = max s.regs ((holdR s : Int) + 1) := rfl
  have hrK : holdR s < R.length := by rw [h.rl]; omega
  have hrt : holdR s < s.taken.length := (List.getElem?_eq_some_iff.1 hr).1
  have hat : ∀ u, atS (stepS (holdS s v) x) u = if u = v then (holdR s : Int) else atS s u := fun u => by rw [atS_step, atS_hold s v u hv2]
  have hne : ∀ u, u < n → Lv u → 0 ≤ atS s u → atS s u ≠ (holdR s : Int) := fun u hu hl h0 e2 => by
    have := (h.live u hu hl h0).1
    rw [e2, Int.toNat_natCast, hr] at this; cases this
  have hh : SI L bl n K M (holdS s v) (fun _ => False) c R O := ⟨h.run, h.rl, ho.1, by show (s.taken.set _ _).length = _; rw [List.length_set]; exact h.tl, by show (s.at_.set _ _).length = _; rw [List.length_set]; exact h.al, fun u hu => by rw [atS_hold s v u hv2, e]; have := h.lt u hu; split <;> omega, fun _ _ f => f.elim, fun _ _ _ _ f => f.elim⟩
  refine ⟨hh.step1 hx hok, by rw [List.length_set]; exact h.rl, hok, by rw [taken_step]; exact hh.tl, by rw [at_step]; exact hh.al, fun u hu => by rw [atS_step, regs_step]; exact hh.lt u hu, fun u hu hl h0 => ?_, fun u w hu hw hl hlw h0 h1 e2 => ?_⟩
  · rw [hat] at h0 ⊢
    rw [taken_step]
    show (s.taken.set (holdR s) true)[_]? = some true ∧ _
    by_cases c1 : u = v
    · rw [if_pos c1] at h0 ⊢
      rw [getC_set R _ _ hrK _ h0, if_pos rfl, Int.toNat_natCast, List.getElem?_set, if_pos rfl, if_pos hrt, c1, hc.1]
      exact ⟨rfl, rfl⟩
    · rw [if_neg c1] at h0 ⊢
      have := hne u hu hl h0
      obtain ⟨a, b⟩ := h.live u hu hl h0
      rw [getC_set R _ _ hrK _ h0, if_neg this, List.getElem?_set, if_neg (by omega), hc.2 u c1]
      exact ⟨a, b⟩
  · rw [hat] at h0 e2
    rw [hat] at h1 e2
    by_cases c1 : u = v
    · by_cases c2 : w = v
      · rw [c1, c2]
      · rw [if_pos c1, if_neg c2] at e2
        rw [if_neg c2] at h1
        exact absurd e2.symm (hne w hw hlw h1)
    · by_cases c2 : w = v
      · rw [if_neg c1, if_pos c2] at e2
        rw [if_neg c1] at h0
        exact absurd e2 (hne u hu hl h0)
      · rw [if_neg c1] at h0 e2
        rw [if_neg c2] at h1 e2
        exact h.inj u w hu hw hl hlw h0 h1 e2
/-- A step writes anew the register of a live number. -/
theorem SI.rew (h : SI L bl n K M s Lv c R O) (v : Nat) (hv : v < n) (hl0 : Lv v) (hat : 0 ≤ atS s v) (hK : s.regs ≤ K) (x : S38) (l : List Int) (hok : (stepS s x).ok = true) (hx : doV L bl R O x = some (some (R.set (atS s v).toNat (some l), O))) (c' : Nat → List Int) (hc : c' v = l ∧ ∀ u, u ≠ v → c' u = c u) :
    SI L bl n K M (stepS s x) Lv c' (R.set (atS s v).toNat (some l)) O := by
  have hrK : (atS s v).toNat < R.length := by have := h.lt v hv; rw [h.rl]; omega
  refine ⟨h.step1 hx hok, by rw [List.length_set]; exact h.rl, hok, by rw [taken_step]; exact h.tl, by rw [at_step]; exact h.al, fun u hu => by rw [atS_step, regs_step]; exact h.lt u hu, fun u hu hl h0 => ?_, fun u w hu hw hl hlw h0 h1 e2 => ?_⟩
  · rw [atS_step] at h0 ⊢
    rw [taken_step]
    obtain ⟨a, b⟩ := h.live u hu hl h0
    refine ⟨a, ?_⟩
    rw [getC_set R _ _ hrK _ h0]
    by_cases c1 : u = v
    · rw [if_pos (by rw [c1]; omega), c1, hc.1]
    · rw [if_neg (fun e => c1 (h.inj u v hu hv hl hl0 h0 hat (by omega))), hc.2 u c1]; exact b
  · rw [atS_step] at h0 h1 e2
    rw [atS_step] at e2
    exact h.inj u w hu hw hl hlw h0 h1 e2
/-- Registers given back: those of numbers that are no longer asked for. -/
theorem SI.free (h : SI L bl n K M s Lv c R O) (Lv' : Nat → Prop) (hsub : ∀ u, Lv' u → Lv u) (tk : List Bool) (htl : tk.length = 256) (htk : ∀ u, u < n → Lv' u → 0 ≤ atS s u → tk[(atS s u).toNat]? = some true) :
    SI L bl n K M { s with taken := tk } Lv' c R O :=
  ⟨h.run, h.rl, h.ok, htl, h.al, h.lt, fun u hu hl h0 => ⟨htk u hu hl h0, (h.live u hu (hsub u hl) h0).2⟩, fun u v hu hv hl hlv => h.inj u v hu hv (hsub u hl) (hsub v hlv)⟩
theorem inR_of {r : Nat} {m : Nat} (h : r < m) : inR (r : Int) m := by unfold inR; omega
theorem holdS_at (s : GS) (v : Nat) (hv : v < s.at_.length) : atS (holdS s v) v = (holdR s : Int) := by rw [atS_hold s v v hv, if_pos rfl]
theorem hold_regs (s : GS) (v : Nat) : (holdS s v).regs = max s.regs ((holdR s : Int) + 1) := rfl
theorem SI.load (h : SI L bl n K M s Lv c R O) (I : List Int) (v : Nat) (hin : I.length ≤ n) (hb : ∀ u : Nat, u < I.length → inR (rd I u) bl.length) (hc : ∀ u : Nat, u < I.length → c u = rd_L13 bl (rd I u)) (hok : (loadS s I v).ok = true) (hK : (loadS s I v).regs ≤ K) :
    ∃ R', SI L bl n K M (loadS s I v) Lv c R' O := by
  unfold loadS at *
  by_cases c1 : I.length ≤ v
  · simp only [if_pos c1] at *; exact ⟨R, h⟩
  simp only [if_neg c1] at *
  by_cases c2 : 0 ≤ atS s v
  · simp only [if_pos c2] at *; exact ⟨R, h⟩
  simp only [if_neg c2] at *
  have hv2 : v < s.at_.length := by rw [h.al]; omega
  rw [holdS_at s v hv2] at *
  have hK2 : (holdS s v).regs ≤ K := by rw [← regs_step (holdS s v) ⟨2, (holdR s : Int), rd I v, 0⟩]; exact hK
  have hrK : holdR s < R.length := by rw [hold_regs] at hK2; rw [h.rl]; omega
  have := h.put v (by omega) (by omega) ⟨2, (holdR s : Int), rd I v, 0⟩ (rd_L13 bl (rd I v)) hok hK2 (by
    unfold doV
    simp only [show ¬ (2 : Int) = 1 from by decide, if_false, if_true]
    rw [if_pos (inR_of hrK), if_pos (hb v (by omega)), Int.toNat_natCast]) c ⟨hc v (by omega), fun _ _ => rfl⟩
  exact ⟨_, ⟨this.run, this.rl, this.ok, this.tl, this.al, this.lt, this.live, this.inj⟩⟩
theorem load_regs (s : GS) (I : List Int) (v : Nat) : s.regs ≤ (loadS s I v).regs := by
  unfold loadS
  split
  · exact Int.le_refl _
  split
  · exact Int.le_refl _
  show s.regs ≤ (stepS (holdS s v) _).regs
  rw [regs_step, hold_regs]; omega
theorem loads_regs (I : List Int) : ∀ (l : List S62) (s : GS), s.regs ≤ (loadsN I l s).regs
  | [], s => Int.le_refl _
  | t :: r, s => Int.le_trans (load_regs s I _) (loads_regs I r _)
theorem macs_regs (own : Nat) : ∀ (l : List S62) (s : GS), (macsN own l s).regs = s.regs
  | [], s => rfl
  | t :: r, s => (macs_regs own r _).trans (regs_step _ _)
end
theorem not_ok {a b : Bool} (h : a = false → b = false) (hb : b = true) : a = true := by cases a with
  | true => rfl
  | false => rw [h rfl] at hb; cases hb
theorem SI.loads {L : Nat} {bl : List (List Int)} {n K M : Nat} {Lv : Nat → Prop} {c : Nat → List Int} {O : Cells} (I : List Int) (hin : I.length ≤ n) (hb : ∀ u : Nat, u < I.length → inR (rd I u) bl.length) (hc : ∀ u : Nat, u < I.length → c u = rd_L13 bl (rd I u)) :
    ∀ (l : List S62) (s : GS) (R : Cells), SI L bl n K M s Lv c R O → (loadsN I l s).ok = true → (loadsN I l s).regs ≤ K → ∃ R', SI L bl n K M (loadsN I l s) Lv c R' O
  | [], s, R, h, _, _ => ⟨R, h⟩
  | t :: r, s, R, h, hok, hK => by
    have ho : (loadS s I t.f0.toNat).ok = true := not_ok (fun e => loads_ok I r _ e) hok
    obtain ⟨R', h'⟩ := h.load I t.f0.toNat hin hb hc ho (Int.le_trans (loads_regs I r _) hK)
    exact SI.loads I hin hb hc r _ R' h' hok hK
/-- The products of a node, summed into its register. -/
theorem SI.macs {L : Nat} {bl : List (List Int)} {n K M : Nat} {Lv : Nat → Prop} {O : Cells} (hL : L ≤ 140737488351232) (own : Nat) (hown : own < n) (hLown : Lv own) (V : List (List Int)) :
    ∀ (l : List S62) (s : GS) (c : Nat → List Int) (R : Cells), SI L bl n K M s Lv c R O → 0 ≤ atS s own → s.regs ≤ K → (∀ t ∈ l, 0 ≤ t.f0 ∧ t.f0 < (own : Int) ∧ Lv t.f0.toNat ∧ 0 ≤ atS s t.f0.toNat ∧ 0 ≤ t.f1 ∧ t.f1 < 256 ∧ c t.f0.toNat = rd_L13 V t.f0 ∧ (rd_L13 V t.f0).length = L ∧ byteL (rd_L13 V t.f0)) → (macsN own l s).ok = true →
    ∃ R' c', SI L bl n K M (macsN own l s) Lv c' R' O ∧ c' own = rowF V (c own) l ∧ ∀ u, u ≠ own → c' u = c u
  | [], s, c, R, h, _, _, _, _ => ⟨R, c, h, rfl, fun _ _ => rfl⟩
  | t :: r, s, c, R, h, ha, hK, ht, hok => by
    obtain ⟨t0, t1, t2, t3, t4, t5, t6, t7, t8⟩ := ht t (by simp)
    have ho : (stepS s ⟨3, atS s own, atS s t.f0.toNat, t.f1⟩).ok = true := not_ok (fun e => macs_ok own r _ e) hok
    have l1 := h.lt own hown
    have l2 := h.lt t.f0.toNat (by omega)
    have h' := h.rew own hown hLown ha hK ⟨3, atS s own, atS s t.f0.toNat, t.f1⟩ (xorB (c own) (scB t.f1 (rd_L13 V t.f0))) ho (by
      unfold doV
      simp only [show ¬ (3 : Int) = 1 from by decide, show ¬ (3 : Int) = 2 from by decide, if_false, if_true]
      rw [if_pos (show inR (atS s own) R.length by rw [h.rl]; unfold inR; omega), if_pos (show inR (atS s t.f0.toNat) R.length by rw [h.rl]; unfold inR; omega), (h.live own hown hLown ha).2, (h.live t.f0.toNat (by omega) t2 t3).2, t6]
      simp only
      rw [scale_f _ _ t4 t5 t8 (by omega)]
      rfl) (fun u => if u = own then xorB (c own) (scB t.f1 (rd_L13 V t.f0)) else c u) ⟨if_pos rfl, fun u hu => if_neg hu⟩
    obtain ⟨R', c', h2, h3, h4⟩ := SI.macs hL own hown hLown V r _ _ _ h' (by rw [atS_step]; exact ha) (by rw [regs_step]; exact hK) (fun x hx => by
      obtain ⟨x0, x1, x2, x3, x4, x5, x6, x7, x8⟩ := ht x (by simp [hx])
      refine ⟨x0, x1, x2, by rw [atS_step]; exact x3, x4, x5, ?_, x7, x8⟩
      rw [if_neg (by omega)]; exact x6) hok
    refine ⟨R', c', h2, ?_, fun u hu => by rw [h4 u hu, if_neg hu]⟩
    rw [h3, if_pos rfl, rowF]
/-- What is given back at a node's end is asked for no longer. -/
theorem done_keep {L : Nat} {bl : List (List Int)} {n K M : Nat} {s0 : GS} {Lv Lv' : Nat → Prop} {c : Nat → List Int} {R O : Cells} (h : SI L bl n K M s0 Lv c R O) (hsub : ∀ u, Lv' u → Lv u) (us : List Int) (i own : Int) (v : Nat) (hv : v < n) (hl : Lv v) (h0 : 0 ≤ atS s0 v)
    (hfree : us.getD v 0 = i ∨ us.getD v 0 < 0 → ¬ Lv' v) (tk : List Bool) (htl : tk.length = 256) (hT : ∀ u, u < n → Lv' u → 0 ≤ atS s0 u → tk[(atS s0 u).toNat]? = some true) :
    ∃ tk', doneS { s0 with taken := tk } us i own v = { s0 with taken := tk' } ∧ tk'.length = 256 ∧ ∀ u, u < n → Lv' u → 0 ≤ atS s0 u → tk'[(atS s0 u).toNat]? = some true := by
  have key : ¬ Lv' v → ∃ tk', ({ s0 with taken := tk.set (atS s0 v).toNat false } : GS) = { s0 with taken := tk' } ∧ tk'.length = 256 ∧ ∀ u, u < n → Lv' u → 0 ≤ atS s0 u → tk'[(atS s0 u).toNat]? = some true := fun hn =>
    ⟨_, rfl, by rw [List.length_set]; exact htl, fun u hu hlu hu0 => by
      rw [List.getElem?_set, if_neg]
      · exact hT u hu hlu hu0
      · intro e
        have := h.inj v u hv hu hl (hsub u hlu) h0 hu0 (by omega)
        subst this; exact hn hlu⟩
  unfold doneS
  by_cases c1 : us.getD v 0 = i
  · rw [if_pos c1]; exact key (hfree (.inl c1))
  rw [if_neg c1]
  by_cases c2 : (v : Int) = own
  · rw [if_pos c2]
    by_cases c3 : us.getD v 0 < 0
    · rw [if_pos c3]; exact key (hfree (.inr c3))
    · rw [if_neg c3]; exact ⟨tk, rfl, htl, hT⟩
  · rw [if_neg c2]; exact ⟨tk, rfl, htl, hT⟩
theorem dones_keep {L : Nat} {bl : List (List Int)} {n K M : Nat} {s0 : GS} {Lv Lv' : Nat → Prop} {c : Nat → List Int} {R O : Cells} (h : SI L bl n K M s0 Lv c R O) (hsub : ∀ u, Lv' u → Lv u) (us : List Int) (i own : Int) :
    ∀ (l : List S62) (tk : List Bool), (∀ t ∈ l, t.f0.toNat < n ∧ Lv t.f0.toNat ∧ 0 ≤ atS s0 t.f0.toNat ∧ (us.getD t.f0.toNat 0 = i ∨ us.getD t.f0.toNat 0 < 0 → ¬ Lv' t.f0.toNat)) → tk.length = 256 → (∀ u, u < n → Lv' u → 0 ≤ atS s0 u → tk[(atS s0 u).toNat]? = some true) →
    ∃ tk', donesN us i own l { s0 with taken := tk } = { s0 with taken := tk' } ∧ tk'.length = 256 ∧ ∀ u, u < n → Lv' u → 0 ≤ atS s0 u → tk'[(atS s0 u).toNat]? = some true
  | [], tk, _, htl, hT => ⟨tk, rfl, htl, hT⟩
  | t :: r, tk, ht, htl, hT => by
    obtain ⟨a, b, d, e⟩ := ht t (by simp)
    obtain ⟨tk1, e1, l1, T1⟩ := done_keep h hsub us i own t.f0.toNat a b d e tk htl hT
    obtain ⟨tk2, e2, l2, T2⟩ := dones_keep h hsub us i own r tk1 (fun x hx => ht x (by simp [hx])) l1 T1
    exact ⟨tk2, by rw [donesN, e1]; exact e2, l2, T2⟩
end Go.Proofs.Ytlflfpkjbjbldaa.Spec

namespace Go.Proofs.Ytlflfpkjbjbldaa.Spec
open Go.RowKit Go.Proofs.Ytlflfpkjbjbldaa.PA Go.Proofs.YtlflfpkjbjbldaaW.PrintWords Go.Proofs.YtlflfpkjbjbldaaW.PrintLast Go.Proofs.YtlflfpkjbjbldaaW.PrintMore
set_option linter.unusedVariables false
set_option linter.unusedSectionVars false
theorem done_regs (s : GS) (us : List Int) (i own : Int) (v : Nat) : (doneS s us i own v).regs = s.regs := by unfold doneS; split; rfl; split; (split <;> rfl); rfl
theorem dones_regs (us : List Int) (i own : Int) : ∀ (l : List S62) (s : GS), (donesN us i own l s).regs = s.regs
  | [], _ => rfl
  | t :: r, s => (dones_regs us i own r _).trans (done_regs _ _ _ _ _)
theorem node_regs (I us : List Int) (i : Nat) (ts : List S62) (s : GS) : (nodeS I us i ts s).regs = (holdS (loadsN I ts s) (I.length + i)).regs := by
  unfold nodeS
  simp only
  rw [done_regs, dones_regs, macs_regs, regs_step]
theorem node_regs_le (I us : List Int) (i : Nat) (ts : List S62) (s : GS) : s.regs ≤ (nodeS I us i ts s).regs := by
  rw [node_regs, hold_regs]
  have := loads_regs I ts s
  omega
theorem at_loads (I : List Int) : ∀ (l : List S62) (s : GS), (loadsN I l s).at_.length = s.at_.length
  | [], _ => rfl
  | t :: r, s => (at_loads I r _).trans (at_load s I _)
theorem loads_mono (I : List Int) : ∀ (l : List S62) (s : GS) (u : Nat), (∀ t ∈ l, t.f0.toNat < s.at_.length) → 0 ≤ atS s u → 0 ≤ atS (loadsN I l s) u
  | [], _, _, _, h => h
  | t :: r, s, u, hl, h => loads_mono I r _ u (fun x hx => by rw [at_load]; exact hl x (by simp [hx])) (load_mono s I _ u (hl t (by simp)) h)
theorem loads_here (I : List Int) : ∀ (l : List S62) (s : GS), (∀ t ∈ l, t.f0.toNat < s.at_.length) → (∀ t ∈ l, I.length ≤ t.f0.toNat → 0 ≤ atS s t.f0.toNat) → ∀ t ∈ l, 0 ≤ atS (loadsN I l s) t.f0.toNat
  | t :: r, s, hl, h, x, hx => by
    have hl2 : ∀ y ∈ r, y.f0.toNat < (loadS s I t.f0.toNat).at_.length := fun y hy => by rw [at_load]; exact hl y (by simp [hy])
    rcases List.mem_cons.1 hx with rfl | hx
    · exact loads_mono I r _ _ hl2 (load_here s I _ (hl x (by simp)) (h x (by simp)))
    · exact loads_here I r _ hl2 (fun y hy hi => load_mono s I _ _ (hl t (by simp)) (h y (by simp [hy]) hi)) x hx
def LvU (us : List Int) (i : Nat) (u : Nat) : Prop := (i : Int) ≤ us.getD u 0
theorem SI.node {L : Nat} {bl : List (List Int)} {n K M : Nat} {s : GS} {R O : Cells} {us : List Int} {i : Nat} (hL : L ≤ 140737488351232) (I : List Int) (V : List (List Int)) (ts : List S62) (h : SI L bl n K M s (LvU us i) (fun u => rd_L13 V (u : Int)) R O)
    (hown : I.length + i < n) (hneg : atS s (I.length + i) < 0) (hheld : ∀ u, I.length ≤ u → u < I.length + i → 0 ≤ atS s u)
    (hb : ∀ u : Nat, u < I.length → inR (rd I u) bl.length) (hc : ∀ u : Nat, u < I.length → rd_L13 V (u : Int) = rd_L13 bl (rd I u)) (hrow : rd_L13 V ((I.length + i : Nat) : Int) = rowF V (List.replicate L 0) ts)
    (ht : ∀ t ∈ ts, 0 ≤ t.f0 ∧ t.f0 < ((I.length + i : Nat) : Int) ∧ LvU us i t.f0.toNat ∧ 0 ≤ t.f1 ∧ t.f1 < 256 ∧ (rd_L13 V t.f0).length = L ∧ byteL (rd_L13 V t.f0))
    (hok : (nodeS I us i ts s).ok = true) (hK : (nodeS I us i ts s).regs ≤ K) : ∃ R', SI L bl n K M (nodeS I us i ts s) (LvU us (i + 1)) (fun u => rd_L13 V (u : Int)) R' O := by
  have hown2 : ((I.length + i : Nat) : Int) = (I.length : Int) + (i : Int) := by omega
  rw [node_regs] at hK
  have hal := h.al
  have htl : ∀ t ∈ ts, t.f0.toNat < s.at_.length := fun t htm => by have := ht t htm; omega
  have hherel := loads_here I ts s htl (fun t htm hi => hheld _ hi (by have := ht t htm; omega))
  have hnegl := neg_loads (ins := I) (I.length + i) (by omega) ts s hneg
  have hok' := hok
  unfold nodeS at hok ⊢
  simp only at hok ⊢
  have o1 := not_ok (fun e => done_ok _ us i _ _ e) hok
  have o2 := not_ok (fun e => dones_ok us i _ ts _ e) o1
  have o3 := not_ok (fun e => macs_ok _ ts _ e) o2
  have o4 := not_ok (fun e => step_ok _ _ e) o3
  have o5 := not_ok (fun e => hold_ok _ _ e) o4
  obtain ⟨R1, h1⟩ := SI.loads I (by omega) hb hc ts s R h o5 (by rw [hold_regs] at hK; omega)
  generalize loadsN I ts s = s1 at *
  have h1' : SI L bl n K M s1 (fun u => LvU us i u ∨ u = I.length + i) (fun u => rd_L13 V (u : Int)) R1 O :=
    ⟨h1.run, h1.rl, h1.ok, h1.tl, h1.al, h1.lt, fun u hu hl h0 => h1.live u hu (hl.resolve_right (fun e => by subst e; omega)) h0, fun u v hu hv hl hlv h0 h00 => h1.inj u v hu hv (hl.resolve_right (fun e => by subst e; omega)) (hlv.resolve_right (fun e => by subst e; omega)) h0 h00⟩
  have hv2 : I.length + i < s1.at_.length := by rw [h1.al]; exact hown
  have hrK : holdR s1 < R1.length := by rw [hold_regs] at hK; rw [h1.rl]; omega
  rw [holdS_at s1 _ hv2] at *
  have h2 := h1'.put (I.length + i) hown hnegl ⟨1, (holdR s1 : Int), 0, 0⟩ (List.replicate L 0) o3 hK (by
    unfold doV
    simp only [if_true]
    rw [if_pos (inR_of hrK), Int.toNat_natCast]) (fun u => if u = I.length + i then List.replicate L 0 else rd_L13 V (u : Int)) ⟨if_pos rfl, fun u hu => if_neg hu⟩
  have hat2 : ∀ u, atS (stepS (holdS s1 (I.length + i)) ⟨1, (holdR s1 : Int), 0, 0⟩) u = if u = I.length + i then (holdR s1 : Int) else atS s1 u := fun u => by rw [atS_step, atS_hold s1 _ u hv2]
  have hK2 : (stepS (holdS s1 (I.length + i)) ⟨1, (holdR s1 : Int), 0, 0⟩).regs ≤ K := by rw [regs_step]; exact hK
  generalize stepS (holdS s1 (I.length + i)) ⟨1, (holdR s1 : Int), 0, 0⟩ = s2 at *
  obtain ⟨R3, c3, h3, hc3, hc3'⟩ := SI.macs hL (I.length + i) hown (.inr rfl) V ts s2 _ _ h2 (by rw [hat2, if_pos rfl]; omega) hK2 (fun t htm => by
    obtain ⟨t0, t1, t2, t3, t4, t5, t6⟩ := ht t htm
    have e : t.f0.toNat ≠ I.length + i := by omega
    refine ⟨t0, t1, .inl t2, ?_, t3, t4, ?_, t5, t6⟩
    · rw [hat2, if_neg e]; exact hherel t htm
    · rw [if_neg e, Int.toNat_of_nonneg t0]) o2
  have ec : c3 = (fun u : Nat => rd_L13 V (u : Int)) := funext fun u => by
    by_cases e : u = I.length + i
    · rw [e, hc3, if_pos rfl, hrow]
    · rw [hc3' u e, if_neg e]
  subst ec
  have hat3 : ∀ u, atS (macsN (I.length + i) ts s2) u = atS s2 u := fun u => atS_of (at_macs _ ts s2) u
  generalize macsN (I.length + i) ts s2 = s3 at *
  have hsub : ∀ u, LvU us (i + 1) u → LvU us i u ∨ u = I.length + i := fun u hu => .inl (by unfold LvU at *; omega)
  have hfree : ∀ v, us.getD v 0 = (i : Int) ∨ us.getD v 0 < 0 → ¬ LvU us (i + 1) v := fun v hv hl => by unfold LvU at hl; omega
  obtain ⟨tk1, e1, l1, T1⟩ := dones_keep h3 hsub us i ((I.length + i : Nat) : Int) ts s3.taken (fun t htm => by
    obtain ⟨t0, t1, t2, t3, t4, t5, t6⟩ := ht t htm
    have e : t.f0.toNat ≠ I.length + i := by omega
    exact ⟨by omega, .inl t2, by rw [hat3, hat2, if_neg e]; exact hherel t htm, hfree _⟩) h3.tl (fun u hu hl h0 => (h3.live u hu (hsub u hl) h0).1)
  obtain ⟨tk2, e2, l2, T2⟩ := done_keep h3 hsub us i ((I.length + i : Nat) : Int) (I.length + i) hown (.inr rfl) (by rw [hat3, hat2, if_pos rfl]; omega) (hfree _) tk1 l1 T1
  refine ⟨R3, ?_⟩
  have e3 : donesN us (i : Int) ((I.length + i : Nat) : Int) ts s3 = { s3 with taken := tk1 } := e1
  rw [e3, e2]
  exact h3.free _ hsub tk2 l2 T2
end Go.Proofs.Ytlflfpkjbjbldaa.Spec

namespace Go.Proofs.Ytlflfpkjbjbldaa.Spec
open Go.RowKit Go.Proofs.Ytlflfpkjbjbldaa.PA Go.Proofs.YtlflfpkjbjbldaaW.PrintWords Go.Proofs.YtlflfpkjbjbldaaW.PrintLast Go.Proofs.YtlflfpkjbjbldaaW.PrintMore
set_option linter.unusedVariables false
set_option linter.unusedSectionVars false
theorem node_at (I us : List Int) (i : Nat) (ts : List S62) (s : GS) : (nodeS I us i ts s).at_ = (holdS (loadsN I ts s) (I.length + i)).at_ := by
  unfold nodeS
  simp only
  rw [at_done, at_dones, at_macs, at_step]
theorem nodes_regs (I us : List Int) : ∀ (l : List (List S62)) (i : Nat) (s : GS), s.regs ≤ (nodesS I us i l s).regs
  | [], _, _ => Int.le_refl _
  | ts :: r, i, s => Int.le_trans (node_regs_le I us i ts s) (nodes_regs I us r (i + 1) _)
theorem outs_regs (I : List Int) : ∀ (l : List Int) (d : Nat) (s : GS), s.regs ≤ (outsS I d l s).regs
  | [], _, _ => Int.le_refl _
  | v :: r, d, s => by
    refine Int.le_trans ?_ (outs_regs I r (d + 1) _)
    rw [regs_step]; exact load_regs s I _
/-- What a flow that may be says of a node's terms. -/
def TermsOk (L : Nat) (V : List (List Int)) (us : List Int) (nin i : Nat) (ts : List S62) : Prop :=
  ∀ t ∈ ts, 0 ≤ t.f0 ∧ t.f0 < ((nin + i : Nat) : Int) ∧ LvU us i t.f0.toNat ∧ 0 ≤ t.f1 ∧ t.f1 < 256 ∧ (rd_L13 V t.f0).length = L ∧ byteL (rd_L13 V t.f0)
theorem SI.nodes {L : Nat} {bl : List (List Int)} {n K M : Nat} {O : Cells} {us : List Int} (hL : L ≤ 140737488351232) (I : List Int) (V : List (List Int))
    (hb : ∀ u : Nat, u < I.length → inR (rd I u) bl.length) (hc : ∀ u : Nat, u < I.length → rd_L13 V (u : Int) = rd_L13 bl (rd I u)) :
    ∀ (l : List (List S62)) (i : Nat) (s : GS) (R : Cells), I.length + i + l.length = n → SI L bl n K M s (LvU us i) (fun u => rd_L13 V (u : Int)) R O → (∀ u, I.length + i ≤ u → u < n → atS s u < 0) → (∀ u, I.length ≤ u → u < I.length + i → 0 ≤ atS s u) →
    (∀ j (h : j < l.length), rd_L13 V ((I.length + (i + j) : Nat) : Int) = rowF V (List.replicate L 0) l[j] ∧ TermsOk L V us I.length (i + j) l[j]) → (nodesS I us i l s).ok = true → (nodesS I us i l s).regs ≤ K →
    ∃ R', SI L bl n K M (nodesS I us i l s) (LvU us (i + l.length)) (fun u => rd_L13 V (u : Int)) R' O ∧ ∀ u, I.length ≤ u → u < n → 0 ≤ atS (nodesS I us i l s) u
  | [], i, s, R, hn, h, hneg, hheld, _, _, _ => ⟨R, h, fun u a b => hheld u a (by simp only [List.length_nil] at hn; omega)⟩
  | ts :: r, i, s, R, hn, h, hneg, hheld, hl, hok, hK => by
    rw [List.length_cons] at hn
    have h0 := hl 0 (by simp)
    simp only [Nat.add_zero, List.getElem_cons_zero] at h0
    have o1 : (nodeS I us i ts s).ok = true := not_ok (fun e => nodes_ok I us r _ _ e) hok
    obtain ⟨R1, h1⟩ := h.node hL I V ts (by omega) (hneg _ (Nat.le_refl _) (by omega)) hheld hb hc h0.1 h0.2 o1 (Int.le_trans (nodes_regs I us r (i + 1) _) hK)
    have hal := h.al
    have htl : ∀ t ∈ ts, t.f0.toNat < s.at_.length := fun t htm => by have := h0.2 t htm; omega
    have hat : ∀ u, atS (nodeS I us i ts s) u = if u = I.length + i then (holdR (loadsN I ts s) : Int) else atS (loadsN I ts s) u := fun u => by
      rw [atS_of (node_at I us i ts s), atS_hold _ _ _ (by rw [at_loads, hal]; omega)]
    obtain ⟨R2, h2, h3⟩ := SI.nodes hL I V hb hc r (i + 1) _ R1 (by omega) h1 (fun u a b => by
      rw [hat, if_neg (by omega)]; exact neg_loads u (by omega) ts s (hneg u (by omega) b)) (fun u a b => by
      rw [hat]
      by_cases e : u = I.length + i
      · rw [if_pos e]; omega
      · rw [if_neg e]; exact loads_mono I ts s u htl (hheld u a (by omega))) (fun j hj => by
      have := hl (j + 1) (by simpa using hj)
      simp only [List.getElem_cons_succ] at this
      rw [show i + (j + 1) = i + 1 + j from by omega] at this
      exact this) hok hK
    refine ⟨R2, ?_, h3⟩
    rw [List.length_cons, show i + (r.length + 1) = i + 1 + r.length from by omega]; exact h2
/-- What has come out after d outputs. -/
def outC (V : List (List Int)) (l : List Int) (m : Nat) : Cells := l.map (fun v => some (rd_L13 V v)) ++ List.replicate m none
theorem outC_get (V : List (List Int)) (l : List Int) (m : Nat) (hm : 0 < m) : getC (outC V l m) (l.length : Int) = none := by
  unfold getC outC
  rw [Int.toNat_natCast, List.getD_eq_getElem?_getD, List.getElem?_append_right (by simp), List.length_map, Nat.sub_self, List.getElem?_replicate, if_pos hm]
  rfl
theorem outC_set (V : List (List Int)) (l : List Int) (m : Nat) (v : Int) : (outC V l (m + 1)).set l.length (some (rd_L13 V v)) = outC V (l ++ [v]) m := by
  unfold outC
  rw [List.set_append_right _ _ (by simp), List.length_map, Nat.sub_self, List.replicate_succ, List.set_cons_zero]
  simp
theorem SI.outs {L : Nat} {bl : List (List Int)} {n K M : Nat} {us : List Int} {N : Nat} (I : List Int) (V : List (List Int)) (hin : I.length ≤ n)
    (hb : ∀ u : Nat, u < I.length → inR (rd I u) bl.length) (hc : ∀ u : Nat, u < I.length → rd_L13 V (u : Int) = rd_L13 bl (rd I u)) :
    ∀ (l done : List Int) (s : GS) (R : Cells), done.length + l.length = M → SI L bl n K M s (LvU us N) (fun u => rd_L13 V (u : Int)) R (outC V done l.length) → (∀ u, I.length ≤ u → u < n → 0 ≤ atS s u) → (∀ v ∈ l, 0 ≤ v ∧ v < (n : Int) ∧ LvU us N v.toNat) →
    (outsS I done.length l s).ok = true → (outsS I done.length l s).regs ≤ K → ∃ R', runS L bl (outsS I done.length l s).steps (List.replicate K none) (List.replicate M none) = some (some (R', outC V (done ++ l) 0))
  | [], done, s, R, hM, h, _, _, _, _ => ⟨R, by rw [List.append_nil]; exact h.run⟩
  | v :: r, done, s, R, hM, h, hheld, hv, hok, hK => by
    rw [List.length_cons] at hM
    obtain ⟨v0, v1, v2⟩ := hv v (by simp)
    have o1 : (stepS (loadS s I v.toNat) ⟨4, done.length, atS (loadS s I v.toNat) v.toNat, 0⟩).ok = true := not_ok (fun e => outs_ok I r _ _ e) hok
    have hKs := Int.le_trans (outs_regs I r (done.length + 1) (stepS (loadS s I v.toNat) ⟨4, done.length, atS (loadS s I v.toNat) v.toNat, 0⟩)) hK
    rw [regs_step] at hKs
    obtain ⟨R1, h1⟩ := h.load I v.toNat hin hb hc (not_ok (fun e => step_ok _ _ e) o1) hKs
    have hal := h.al
    have hvl : v.toNat < s.at_.length := by omega
    have hh : 0 ≤ atS (loadS s I v.toNat) v.toNat := load_here s I _ hvl (fun a => hheld _ a (by omega))
    have hheld1 : ∀ u, I.length ≤ u → u < n → 0 ≤ atS (loadS s I v.toNat) u := fun u a b => load_mono s I _ u hvl (hheld u a b)
    have hokr : (outsS I (done.length + 1) r (stepS (loadS s I v.toNat) ⟨4, done.length, atS (loadS s I v.toNat) v.toNat, 0⟩)).ok = true := hok
    have hKr : (outsS I (done.length + 1) r (stepS (loadS s I v.toNat) ⟨4, done.length, atS (loadS s I v.toNat) v.toNat, 0⟩)).regs ≤ K := hK
    show ∃ R', runS L bl (outsS I (done.length + 1) r (stepS (loadS s I v.toNat) ⟨4, done.length, atS (loadS s I v.toNat) v.toNat, 0⟩)).steps _ _ = _
    generalize loadS s I v.toNat = s1 at *
    have hlive := (h1.live v.toNat (by omega) v2 hh).2
    have hlt := h1.lt v.toNat (by omega)
    have hrun := h1.step1 (x := ⟨4, done.length, atS s1 v.toNat, 0⟩) (R' := R1) (O' := outC V (done ++ [v]) r.length) (by
      unfold doV
      simp only [show ¬ (4 : Int) = 1 from by decide, show ¬ (4 : Int) = 2 from by decide, show ¬ (4 : Int) = 3 from by decide, if_false, if_true]
      rw [if_pos (show inR (atS s1 v.toNat) R1.length by rw [h1.rl]; unfold inR; omega), hlive]
      simp only
      rw [List.length_cons, if_pos (show inR (done.length : Int) (outC V done (r.length + 1)).length by unfold inR outC; simp; omega), outC_get V done (r.length + 1) (by omega), Int.toNat_natCast]
      simp only
      rw [Int.toNat_of_nonneg v0, outC_set]) o1
    have h2 : SI L bl n K M (stepS s1 ⟨4, done.length, atS s1 v.toNat, 0⟩) (LvU us N) (fun u => rd_L13 V (u : Int)) R1 (outC V (done ++ [v]) r.length) :=
      ⟨hrun, h1.rl, o1, by rw [taken_step]; exact h1.tl, by rw [at_step]; exact h1.al, fun u hu => by rw [atS_step, regs_step]; exact h1.lt u hu, fun u hu hl h0 => by rw [atS_step] at h0 ⊢; rw [taken_step]; exact h1.live u hu hl h0, fun u w hu hw hl hlw h0 h00 e => by rw [atS_step] at h0 h00 e; rw [atS_step] at e; exact h1.inj u w hu hw hl hlw h0 h00 e⟩
    have e1 : done.length + 1 = (done ++ [v]).length := by simp
    rw [e1] at hokr hKr ⊢
    obtain ⟨R2, h3⟩ := SI.outs I V hin hb hc r (done ++ [v]) _ R1 (by simp; omega) h2 (fun u a b => by rw [atS_step]; exact hheld1 u a b) (fun x hx => hv x (by simp [hx])) hokr hKr
    exact ⟨R2, by rw [h3, List.append_assoc]; rfl⟩
end Go.Proofs.Ytlflfpkjbjbldaa.Spec
