import Derived.Test.YtlflfpkjbjbldaaDoE
namespace Go.Proofs.Ytlflfpkjbjbldaa.PA
open Go.RowKit Go.Proofs.YtlflfpkjbjbldaaW.PrintWords Go.Proofs.YtlflfpkjbjbldaaW.PrintLast Go.Proofs.YtlflfpkjbjbldaaW.PrintMore
attribute [local go_sem] max2_int min2_int max_two min_two max_three min_three max_four min_four
set_option linter.unusedVariables false
set_option linter.unusedSimpArgs false
def getC (R : Cells) (i : Int) : Option (List Int) := R.getD i.toNat none
/-- What a step comes to: none: it can't be done. -/
def doV (size : Nat) (bl : List (List Int)) (R O : Cells) (s : S38) : Option (Option (Cells × Cells)) :=
  if s.f0 = 1 then some (if inR s.f1 R.length then some (R.set s.f1.toNat (some (List.replicate size 0)), O) else none)
  else if s.f0 = 2 then some (if inR s.f1 R.length then (if inR s.f2 bl.length then some (R.set s.f1.toNat (some (rd_L13 bl s.f2)), O) else none) else none)
  else if s.f0 = 3 then (if inR s.f1 R.length then (if inR s.f2 R.length then (match getC R s.f1, getC R s.f2 with
    | some a, some b => (field_Scale.f s.f3 b).bind fun y => some (some (R.set s.f1.toNat (some (xorL a y)), O))
    | _, _ => some none) else some none) else some none)
  else if s.f0 = 4 then some (if inR s.f2 R.length then (match getC R s.f2 with
    | some a => if inR s.f1 O.length then (match getC O s.f1 with
      | none => some (R, O.set s.f1.toNat (some a))
      | some _ => none) else none
    | none => none) else none)
  else some none
theorem plain_len (R : List (Option MR)) : (plainM R).length = R.length := by simp [plainM]
theorem getC_plain (R : List (Option MR)) (D : Nat) (hD : D < R.length) : getC (plainM R) (D : Int) = R[D].map MR.l := by simp [getC, plainM, hD, List.getD_eq_getElem?_getD]
theorem scale_len {c : Int} {l y : List Int} (h : field_Scale.f c l = some y) : y.length = l.length := by
  unfold field_Scale.f at h
  split at h
  · split at h
    · rw [← Option.some.inj h]; simp
    · cases h
  · cases h
theorem inR_nat {n : Int} {len : Nat} (h : inR n len) : ∃ k : Nat, n = (k : Int) ∧ k < len := ⟨n.toNat, by have := h.1; omega, by have := h.1; have := h.2; omega⟩
theorem do_calls {w0 w : World} {m gr go : Nat} {AB : Option Addr} {cB : Nat} {size : Nat} {R O : List (Option MR)} (bl : List (List Int)) (h : MH w0.heap.size w m gr go (.slice AB bl.length cB) size R O) (hB : Below w0.heap.size w0 w) (hbl : Kd.C (Kd.slice 5 (Kd.int .u8)) w0 AB bl.length bl)
    (hall : ∀ S : Nat, S < bl.length → (rd_L13 bl (S : Int)).length = size) (s : S38) (X : Option (Cells × Cells)) (hX : doV size bl (plainM R) (plainM O) s = some X) :
    Calls Try.prog 24 #[.pointer (some ⟨m, 0, none⟩), .agg #[.int .u8 s.f0, .int .i64 s.f1, .int .i64 s.f2, .int .u8 s.f3]] w (DoP w0.heap.size w0 m gr go (.slice AB bl.length cB) size X) := by
  have hnB : bl.length ≤ 9223372036854775807 := hbl.2.1
  obtain ⟨f0, f1, f2, f3⟩ := s
  unfold doV at hX
  simp only [plain_len] at hX
  by_cases k1 : f0 = 1
  · subst k1
    simp only [if_true, Option.some.injEq] at hX
    by_cases hd : inR f1 R.length
    · rw [if_pos hd] at hX
      subst hX
      exact do_clear_yes h hB f1 f2 f3 hd
    · rw [if_neg hd] at hX
      subst hX
      exact do_clear_no h hB hnB f1 f2 f3 hd
  rw [if_neg k1] at hX
  by_cases k2 : f0 = 2
  · subst k2
    simp only [if_true, Option.some.injEq] at hX
    by_cases hd : inR f1 R.length
    · rw [if_pos hd] at hX
      by_cases hs : inR f2 bl.length
      · rw [if_pos hs] at hX
        subst hX
        obtain ⟨D, rfl, hD⟩ := inR_nat hd
        obtain ⟨S, rfl, hS⟩ := inR_nat hs
        simp only [Int.toNat_natCast]
        exact do_load_yes bl h hB hbl f3 D S hD hS (hall S hS)
      · rw [if_neg hs] at hX
        subst hX
        exact do_load_no2 h hB hnB f1 f2 f3 hd hs
    · rw [if_neg hd] at hX
      subst hX
      exact do_load_no1 h hB hnB f1 f2 f3 hd
  rw [if_neg k2] at hX
  by_cases k3 : f0 = 3
  · subst k3
    simp only [if_true] at hX
    by_cases hd : inR f1 R.length
    · rw [if_pos hd] at hX
      by_cases hs : inR f2 R.length
      · rw [if_pos hs] at hX
        obtain ⟨D, rfl, hD⟩ := inR_nat hd
        obtain ⟨S, rfl, hS⟩ := inR_nat hs
        rw [getC_plain R D hD, getC_plain R S hS] at hX
        cases hx : R[D] with
        | none =>
          rw [hx] at hX
          obtain rfl : none = X := by simpa using hX
          exact do_mac_no3 h hB hnB f3 D S hD hS hx
        | some a =>
          cases hy : R[S] with
          | none =>
            rw [hx, hy] at hX
            obtain rfl : none = X := by simpa using hX
            exact do_mac_no4 h hB hnB f3 D S hD hS a hx hy
          | some b =>
            rw [hx, hy] at hX
            simp only [Option.map_some] at hX
            obtain ⟨y, hsc, hX⟩ := Option.bind_eq_some_iff.1 hX
            obtain rfl := Option.some.inj hX
            simp only [Int.toNat_natCast]
            have hlb := own_len (h.own b (List.mem_append.2 (.inl (hy ▸ List.getElem_mem hS))))
            exact do_mac_yes h hB f3 D S hD hS a b hx hy y hsc ((scale_len hsc).trans hlb)
      · rw [if_neg hs] at hX
        obtain rfl := Option.some.inj hX
        exact do_mac_no2 h hB hnB f1 f2 f3 hd hs
    · rw [if_neg hd] at hX
      obtain rfl := Option.some.inj hX
      exact do_mac_no1 h hB hnB f1 f2 f3 hd
  rw [if_neg k3] at hX
  by_cases k4 : f0 = 4
  · subst k4
    simp only [if_true, Option.some.injEq] at hX
    by_cases hs : inR f2 R.length
    · rw [if_pos hs] at hX
      obtain ⟨S, rfl, hS⟩ := inR_nat hs
      rw [getC_plain R S hS] at hX
      cases hy : R[S] with
      | none =>
        rw [hy] at hX
        obtain rfl : none = X := by simpa using hX
        exact do_out_no2 h hB hnB f1 f3 S hS hy
      | some r =>
        rw [hy] at hX
        simp only [Option.map_some] at hX
        by_cases hd : inR f1 O.length
        · rw [if_pos hd] at hX
          obtain ⟨D, rfl, hD⟩ := inR_nat hd
          rw [getC_plain O D hD] at hX
          cases hx : O[D] with
          | none =>
            rw [hx] at hX
            simp only [Option.map_none, Int.toNat_natCast] at hX
            subst hX
            exact do_out_yes h hB f3 D S hD hS r hy hx
          | some r' =>
            rw [hx] at hX
            obtain rfl : none = X := by simpa using hX
            exact do_out_no4 h hB hnB f3 D S hS hD r r' hy hx
        · rw [if_neg hd] at hX
          subst hX
          exact do_out_no3 h hB hnB f1 f3 S hS r hy hd
    · rw [if_neg hs] at hX
      subst hX
      exact do_out_no1 h hB hnB f1 f2 f3 hs
  rw [if_neg k4] at hX
  obtain rfl := Option.some.inj hX
  exact do_other h hB hnB f0 f1 f2 f3 k1 k2 k3 k4
/-- All steps. -/
def runS (size : Nat) (bl : List (List Int)) : List S38 → Cells → Cells → Option (Option (Cells × Cells))
  | [], R, O => some (some (R, O))
  | s :: r, R, O => (doV size bl R O s).bind fun X => match X with
    | none => some none
    | some (R', O') => runS size bl r R' O'
def sizeB (bl : List (List Int)) : Nat := (rd_L13 bl 0).length
def mayP (steps : List S38) (regs outs : Int) : Prop := 0 ≤ regs ∧ regs ≤ 256 ∧ 0 ≤ outs ∧ outs ≤ 64 ∧ steps.length ≤ 65536
instance (steps : List S38) (regs outs : Int) : Decidable (mayP steps regs outs) := inferInstanceAs (Decidable (_ ∧ _))
def endR (X : Option (Cells × Cells)) : List (List Int) × Int := match X with
  | none => ([], 2)
  | some (_, O) => if O.all (fun o => o.isSome) = true then (O.map (fun o => o.getD []), 0) else ([], 2)
def regs_Run.f (l0 : List S38) (a1 a2 a3 : Int) (bl : List (List Int)) : Option (List (List Int) × Int) :=
  if bl.all (fun b => decide (b.length = sizeB bl)) = true then (if sizeB bl ≤ 140737488351232 then (if mayP l0 a1 a2 then (runS (sizeB bl) bl l0 (List.replicate a1.toNat none) (List.replicate a2.toNat none)).bind fun X => some (endR X) else some ([], 2)) else none) else some ([], 3)
/-- What came out, as a row of rows. -/
theorem MH.outs {base : Nat} {w : World} {m gr go : Nat} {vB : Value} {size : Nat} {R O : List (Option MR)} (h : MH base w m gr go vB size R O) (ha : (plainM O).all (fun o => o.isSome) = true) :
    Kd.S (Kd.slice 5 (Kd.int .u8)) 68 w base (fun _ => True) (.slice (some ⟨go, 0, none⟩) O.length O.length) ((plainM O).map (fun o => o.getD [])) := by
  have hsome : ∀ j (hj : j < O.length), ∃ r, O[j] = some r := fun j hj => by
    have h1 := List.all_eq_true.1 ha ((plainM O)[j]'(by rw [plain_len]; exact hj)) (List.getElem_mem _)
    cases hO : O[j] with
    | none => simp [plainM, hO] at h1
    | some r => exact ⟨r, rfl⟩
  have hol := h.ol
  refine ⟨fun k => (List.range O.length).findIdx (fun j => match O[j]? with | some (some r) => r.g == k | _ => false), fun _ _ => trivial, (encMs size O).toList, ?_, ?_⟩
  · rw [List.length_zipIdx, List.length_map, plain_len]
    refine ⟨by simp [encMs, Kd.tag, Kd.slice], .inr ⟨go, O.length, encMs size O, rfl, h.bo, h.ro, Nat.le_refl _, by simp only [maxLen]; omega, by simp [encMs, Kd.tag, Kd.slice], List.take_of_length_le (by simp [encMs, Kd.tag, Kd.slice])⟩⟩
  · refine ⟨by simp [encMs, plainM, Kd.tag, Kd.slice], fun j p hj => ?_⟩
    have hjl : j < O.length := by
      have := (List.getElem?_eq_some_iff.1 hj).1
      simpa [plainM] using this
    obtain ⟨r, hr⟩ := hsome j hjl
    have hp : p = (r.l, j) := by
      rw [List.getElem?_zipIdx] at hj
      simp [plainM, hjl, hr] at hj
      exact hj.symm
    subst hp
    have hmem : some r ∈ R ++ O := List.mem_append.2 (.inr (hr ▸ List.getElem_mem hjl))
    have ho := h.own r hmem
    have hl := own_len ho
    refine ⟨.slice (some ⟨r.g, 0, none⟩) size r.cap, ?_, ?_⟩
    · have : (encMs size O).toList = O.map (encM size) := by simp [encMs]
      rw [this]
      show ((O.map (encM size)).drop (j * 1)).take 1 = _
      rw [Nat.mul_one, List.drop_eq_getElem_cons (by simpa using hjl)]
      simp [hr, encM]
    · refine Kd.R_of_own (enc := Value.int .u8) (by rw [hl]; exact ho) (fun k hk => ?_)
      obtain rfl : r.g = k := Option.some.inj hk
      have hnb := h.nb r hmem
      refine ⟨⟨trivial, fun e => hnb.2.2.1 (Option.some.inj e)⟩, ?_⟩
      show (List.range O.length).findIdx _ = j
      rw [List.findIdx_eq (by simpa using hjl)]
      refine ⟨by simp [hjl, hr], fun i hi => ?_⟩
      have hil : i < O.length := by omega
      obtain ⟨r', hr'⟩ := hsome i hil
      simp only [List.getElem_range, List.getElem?_eq_getElem hil, hr']
      rw [beq_eq_false_iff_ne]
      intro e
      have := h.apart (R.length + i) (R.length + j) r' r (by rw [List.getElem?_append_right (by omega), Nat.add_sub_cancel_left, List.getElem?_eq_getElem hil, hr']) (by rw [List.getElem?_append_right (by omega), Nat.add_sub_cancel_left, List.getElem?_eq_getElem hjl, hr]) e
      omega
end Go.Proofs.Ytlflfpkjbjbldaa.PA
