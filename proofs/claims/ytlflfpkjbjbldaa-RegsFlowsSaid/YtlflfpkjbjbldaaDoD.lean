import Derived.Test.YtlflfpkjbjbldaaDoB
namespace Go.Proofs.Ytlflfpkjbjbldaa.PA
open Go.RowKit Go.Proofs.YtlflfpkjbjbldaaW.PrintWords Go.Proofs.YtlflfpkjbjbldaaW.PrintLast Go.Proofs.YtlflfpkjbjbldaaW.PrintMore
attribute [local go_sem] max2_int min2_int max_two min_two max_three min_three max_four min_four
set_option linter.unusedVariables false
set_option linter.unusedSimpArgs false
/-- A row of bytes with room, and bytes put behind it. -/
theorem app_run (W : World) (base g cap : Nat) (size : Nat) (l : List Int) (A : Option Addr) (c : Nat) (hown : W.ownsRow base 5 1 (.slice (some ⟨g, 0, none⟩) 0 cap) 0 []) (hr : Kd.C (Kd.int .u8) W A size l) (hs : size ≤ 140737488351232) (hb : base ≤ W.heap.size) :
    ∃ g' cap' W', (Builtin.append_ #[68, 68] 68 #[.slice (some ⟨g, 0, none⟩) 0 cap, .slice A size c]).run Try.prog W = .ok (.slice (some ⟨g', 0, none⟩) size cap') W' ∧ W'.ownsRow base 5 1 (.slice (some ⟨g', 0, none⟩) size cap') size (nums .u8 l) ∧ W.grownBy W' (some g) ∧ (g' = g ∨ g' = W.heap.size) := by
  have hR : ReadsInt W .u8 A size l := readsInt_of.2 (Kd.reads_of_C (d := (0 : Int)) hr)
  obtain ⟨i0, hi, hzz⟩ := Option.map_eq_some_iff.1 info5
  simp only [Prod.mk.injEq] at hzz
  obtain ⟨hz0, hz1, hz2⟩ := hzz
  have hfin : ∀ (v1 : Value) (w1 : World), (Builtin.append_ #[68, 68] 68 #[.slice (some ⟨g, 0, none⟩) 0 cap, .slice A size c]).run Try.prog W = .ok v1 w1 → w1.ownsRow base 5 1 v1 size (nums .u8 l) → W.grownBy w1 (some g) → v1 ≠ .slice none 0 0 → (v1.ownBlock = some g ∨ v1.ownBlock = some W.heap.size) → ∃ g' cap' W', (Builtin.append_ #[68, 68] 68 #[.slice (some ⟨g, 0, none⟩) 0 cap, .slice A size c]).run Try.prog W = .ok (.slice (some ⟨g', 0, none⟩) size cap') W' ∧ W'.ownsRow base 5 1 (.slice (some ⟨g', 0, none⟩) size cap') size (nums .u8 l) ∧ W.grownBy W' (some g) ∧ (g' = g ∨ g' = W.heap.size) := by
    intro v1 w1 h1 h2 h3 h4 h5
    rcases h2.2 with ⟨rfl, _⟩ | ⟨g', cap', cur, rfl, _⟩
    · exact absurd rfl h4
    · refine ⟨g', cap', w1, h1, h2, h3, ?_⟩
      rcases h5 with h5 | h5
      · exact .inl (Option.some.inj h5)
      · exact .inr (Option.some.inj h5)
  rcases A with _ | ad
  · have h0 : size = 0 := by
      rcases Nat.eq_zero_or_pos size with h0 | h0
      · exact h0
      · obtain ⟨ad, h, _⟩ := hR.2.2 h0; cases h
    subst h0
    obtain rfl : l = [] := List.eq_nil_of_length_eq_zero hR.1
    refine hfin (.slice (some ⟨g, 0, none⟩) 0 cap) W ?_ hown (World.grownBy.refl W _) (by simp) (.inl rfl)
    rcases hown.2 with ⟨h, _⟩ | ⟨g', cap', cur, h, _, _, hnc, _⟩
    · cases h
    · simp [Builtin.append_, run_underlying Try.underlying68, sizeOf, typeInfo, hi, Builtin.lenOf, Builtin.firstCells, storeCells]
  · obtain ⟨v1, w1, hr1, h2, h3, h4, h5⟩ := run_append_own_at (P := Try.prog) W base 68 68 5 i0 _ 1 1 Try.underlying68 hi hz0 hz1 hz2 rfl (by decide) (.slice (some ⟨g, 0, none⟩) 0 cap) 0 [] hown ad size c (nums .u8 l) (by simp [nums, hR.1])
      (fun j u hu => by
        have hj : j < l.length := by
          rcases Nat.lt_or_ge j l.length with h | h
          · exact h
          · simp [nums, List.getElem?_eq_none h] at hu
        obtain ⟨ad', h', hc⟩ := hR.2.2 (by have := hR.1; omega)
        injection h' with h'
        subst h'
        have := hc j (by have := hR.1; omega)
        simp [nums, List.getElem?_eq_getElem hj] at hu
        subst hu
        rw [this]
        simp [List.getD_eq_getElem?_getD, List.getElem?_eq_getElem hj])
      (by intro u hu; simp only [nums, List.mem_map] at hu; obtain ⟨q, _, rfl⟩ := hu; rfl) (by simp only [maxLen]; omega) (by omega) hb
    exact hfin v1 w1 hr1 (by simpa using h2) h3 (fun e => by have := (h4.1 e).1; cases this) h5
theorem mk0_run (size : Nat) (hs : size ≤ 140737488351232) (W : World) : (Instr.makeSlice 68 (.int .i64 0) (.int .i64 (size : Int))).run Try.prog W = .ok (.slice (some ⟨W.heap.size, 0, none⟩) 0 size) (W.alloc (.cells (madeCells #[.int .u8 0] size) 5)) := by
  obtain ⟨i0, hi, hzz⟩ := Option.map_eq_some_iff.1 info5
  simp only [Prod.mk.injEq] at hzz
  obtain ⟨hz0, hz1, hz2⟩ := hzz
  have h := run_make (P := Try.prog) W 68 5 i0 _ Try.underlying68 hi hz0 .i64 .i64 0 (size : Int) (Int.le_refl _) (by omega) (by rw [hz2]; omega) (by omega)
  simp only [Int.toNat_zero, Int.toNat_natCast, hz1, Nat.mul_one] at h
  exact h
theorem mk0_row (W : World) (base size : Nat) (hb : base ≤ W.heap.size) (hs : size ≤ 140737488351232) : (W.alloc (.cells (madeCells #[.int .u8 0] size) 5)).ownsRow base 5 1 (.slice (some ⟨W.heap.size, 0, none⟩) 0 size) 0 [] :=
  World.ownsRow_made W _ size hb (by simp only [maxLen]; omega) (by simp [size_madeCells])
theorem own_len {w : World} {base size cap g : Nat} {l : List Int} (h : w.ownsRow base 5 1 (.slice (some ⟨g, 0, none⟩) size cap) size (nums .u8 l)) : l.length = size := by have := h.1; simpa [nums] using this
/-- A byte of a register is turned in place. -/
theorem MH.put {base : Nat} {w : World} {m gr go : Nat} {vB : Value} {size : Nat} {R O : List (Option MR)} (h : MH base w m gr go vB size R O) (D : Nat) (r : MR) (hD : R[D]? = some (some r)) (i x : Int) :
    MH base (w.setCell ⟨r.g, i.toNat, none⟩ (.int .u8 x)) m gr go vB size (R.set D (some { r with l := r.l.set i.toNat x })) O := by
  have hDl : D < R.length := (List.getElem?_eq_some_iff.1 hD).1
  have hmem : some r ∈ R ++ O := List.mem_append.2 (.inl (List.mem_of_getElem? hD))
  have hnb := h.nb r hmem
  have hDR : (R ++ O)[D]? = some (some r) := by rw [List.getElem?_append_left hDl]; exact hD
  have key : ∀ (i_ : Nat) (a : MR), (R.set D (some { r with l := r.l.set i.toNat x }) ++ O)[i_]? = some (some a) → (i_ = D ∧ a = { r with l := r.l.set i.toNat x }) ∨ (i_ ≠ D ∧ (R ++ O)[i_]? = some (some a)) := by
    intro i_ a ha
    by_cases hi : i_ = D
    · subst hi
      rw [List.getElem?_append_left (by rw [List.length_set]; exact hDl), List.getElem?_set, if_pos rfl, if_pos hDl] at ha
      exact .inl ⟨rfl, (Option.some.inj (Option.some.inj ha)).symm⟩
    · refine .inr ⟨hi, ?_⟩
      rw [List.getElem?_append, List.length_set] at ha
      rw [List.getElem?_append]
      split
      · rename_i hl; rwa [if_pos hl, List.getElem?_set, if_neg (Ne.symm hi)] at ha
      · rename_i hl; rwa [if_neg hl] at ha
  refine ⟨?_, ?_, ?_, fun y hy => ?_, fun i_ j a b ha hb e => ?_, h.ne, h.bm, h.br, h.bo, by simpa [World.setCell] using h.bw, h.sz, by rw [List.length_set]; exact h.rl, h.ol⟩
  · rw [List.length_set]
    exact (Below.heap_setCell w ⟨r.g, i.toNat, none⟩ _ m (fun e => hnb.1 e.symm)).trans h.blk
  · have e : encMs size (R.set D (some { r with l := r.l.set i.toNat x })) = encMs size R := by
      apply Array.toList_inj.1
      simp only [encMs, List.map_set]
      refine List.ext_getElem? fun j => ?_
      rw [List.getElem?_set]
      split
      · rename_i hj; subst hj
        simp [hDl, encM]
        have : R[D] = some r := (List.getElem?_eq_some_iff.1 hD).2
        rw [this]
      · rfl
    rw [e]
    exact (Below.heap_setCell w ⟨r.g, i.toNat, none⟩ _ gr (fun e => hnb.2.1 e.symm)).trans h.rr
  · exact (Below.heap_setCell w ⟨r.g, i.toNat, none⟩ _ go (fun e => hnb.2.2.1 e.symm)).trans h.ro
  · obtain ⟨i_, hi_⟩ := List.getElem?_of_mem hy
    rcases key i_ y hi_ with ⟨rfl, rfl⟩ | ⟨hi, hy'⟩
    · exact (own_store (h.own r hmem) i x).1
    · have hne : y.g ≠ r.g := fun e => hi (h.apart i_ D y r hy' hDR e)
      exact own_move (h.own y (List.mem_of_getElem? hy')) (fun k hk => Below.heap_setCell w ⟨r.g, i.toNat, none⟩ _ k (fun e => hne ((Option.some.inj hk).trans e)))
  · rcases key i_ a ha with ⟨rfl, rfl⟩ | ⟨hi, ha'⟩
    · rcases key j b hb with ⟨rfl, rfl⟩ | ⟨hj, hb'⟩
      · rfl
      · exact h.apart _ j r b hDR hb' e
    · rcases key j b hb with ⟨rfl, rfl⟩ | ⟨hj, hb'⟩
      · exact h.apart i_ _ a r ha' hDR e
      · exact h.apart i_ j a b ha' hb' e
end Go.Proofs.Ytlflfpkjbjbldaa.PA
