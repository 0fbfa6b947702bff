-- Written by wip/tools/mp.py (the kit's print, run over several laws with some functions given by hand).
import Derived.Test.YtfnhnniecclleaaPAx0
import Derived.Test.YtfnhnniecclleaaPAx2
import Derived.Test.YtfnhnniecclleaaPAx5
import Derived.Test.YtfnhnniecclleaaPAx9
import Derived.Test.YtfnhnniecclleaaPAx10
import Derived.Test.YtfnhnniecclleaaPAx3
import Derived.Test.YtfnhnniecclleaaShort
namespace Go.Proofs.Ytfnhnniecclleaa.PA
open Go.RowKit Go.Proofs.Ytfnhnniecclleaa.Sh Go.Proofs.YtfnhnniecclleaaW.PrintWords Go.Proofs.YtfnhnniecclleaaW.PrintLast Go.Proofs.YtfnhnniecclleaaW.PrintMore
attribute [local go_sem] max2_int min2_int max_two min_two max_three min_three max_four min_four   -- for this text's walks alone
set_option linter.unusedVariables false
set_option linter.unusedSimpArgs false

/-! ### slices_Clone_byte_byte_49: function 49 -/
def slices_Clone_byte_byte_49.f (l0 : List (List Int)) : Option ((List (List Int))) := (some (([] : List (List Int)) : List (List Int))).bind fun y312 => (if y312.length + l0.length < 5864062014805 then (some (y312 ++ l0)) else (none))
set_option maxHeartbeats 8000000 in
set_option maxRecDepth 100000 in
theorem slices_Clone_byte_byte_49.calls (P0_ : Nat → Prop) (A0 : Option Addr) (c0 : Nat) (l0 : List (List Int)) (r : List (List Int)) (w : World) (hs0 : Kd.V (Kd.slice 5 (Kd.int .u8)) 45 w w.heap.size (fun k_ => P0_ k_) (.slice A0 l0.length c0) l0) (h : slices_Clone_byte_byte_49.f l0 = some r) :
  Calls Try.prog 49 #[.slice A0 l0.length c0] w fun e w' => ∃ v0_ : Value, e = .returned (v0_) ∧ Kd.N (Kd.slice 5 (Kd.int .u8)) 45 w' w.heap.size (fun k_ => (P0_ k_ ∨ w.heap.size ≤ k_)) v0_ r ∧ Below w.heap.size w w' := by
 have hq_ : ∀ (w : World) (a : Option Addr) (n c n' c' : Nat), (binOp .eql 38 (.slice a n c) (.slice none n' c')).run Try.prog w = .ok (.bool a.isNone) w := fun w a n c n' c' => Lib.run_eql_slice_nil w _ _ a n c n' c' Try.underlying38
 rcases A0 with _ | a0_
 ·have hl_ : l0 = [] := by
   cases l0 with
   | nil => rfl
   | cons x r_ => exact absurd ((Kd.V_reads' hs0).2.2.2.2 (by simp)) (by rintro ⟨ad, h, _⟩; cases h)
  subst hl_
  have hr_ : [] = r := by simpa [slices_Clone_byte_byte_49.f] using h
  subst hr_
  go_enter Try.func49, Try.ntmps49
  go_wp2
  go_ret
  exact ⟨_, rfl, Kd.N_nil _ _ _ _ _, Below.refl _ _⟩
 have HO0 := Aside0.mk (show Kd.V (Kd.slice 5 (Kd.int .u8)) 45 w w.heap.size (fun k_ => (P0_ k_ ∨ w.heap.size ≤ k_)) (.slice (some a0_) l0.length c0) l0 from Kd.V_mono hs0 (fun k_ hk => .inl hk))
 have HB := Aside0.mk (Below.refl w.heap.size w)
 have H : ((some (([] : List (List Int)) : List (List Int))).bind fun y312 => (if y312.length + l0.length < 5864062014805 then (some (y312 ++ l0)) else (none))) = some r := h
 clear h
 obtain ⟨y312, hy312⟩ : ∃ y_ : List (List Int), y_ = (([] : List (List Int))) := ⟨_, rfl⟩
 replace H : (if y312.length + l0.length < 5864062014805 then (some (y312 ++ l0)) else (none)) = some r := by first | (rw [hy312]; with_reducible exact H) | (have H2_ := (Option.bind_some _ _).symm.trans H; rw [hy312]; with_reducible exact H2_) | (have H2_ := (Option.bind_some _ _).symm.trans H; with_reducible exact H2_) | with_reducible exact H | (rw [hy312]; exact H) | exact H
 have Ny312 := Aside0.mk hy312
 clear hy312
 by_cases c2 : y312.length + l0.length < 5864062014805
 ·rw [if_pos c2] at H
  have LMc2 := Aside0.mk c2
  clear c2
  obtain ⟨y315, hy315⟩ : ∃ y_ : List (List Int), y_ = (y312 ++ l0) := ⟨_, rfl⟩
  replace H : (some y315) = some r := by first | (rw [hy315]; with_reducible exact H) | (have H2_ := (Option.bind_some _ _).symm.trans H; rw [hy315]; with_reducible exact H2_) | (have H2_ := (Option.bind_some _ _).symm.trans H; with_reducible exact H2_) | with_reducible exact H | (rw [hy315]; exact H) | exact H
  have Ny315 := Aside0.mk hy315
  clear hy315
  obtain rfl := Option.some.inj H
  go_enter Try.func49, Try.ntmps49
  go_wp2_with (first | ((with_reducible refine gate_dst (N := 5) rfl ?_); refine Kd.N_lit (Kd.slice 5 (Kd.int .u8)) _ 45 ?hg (N' := 5) ?hd (xs := ([] : List (List Int))) (inner := []) (ok := (fun k_ => (P0_ k_ ∨ w.heap.size ≤ k_))) (okp := (fun k_ => (P0_ k_ ∨ w.heap.size ≤ k_))) ?hr ?hp (fun _ hk => hk) ((show ∀ k_, w.heap.size ≤ k_ → (fun k_ => (P0_ k_ ∨ w.heap.size ≤ k_)) k_ from fun k_ hk => (.inr (Nat.le_trans (below_size bl) hk))) _ (Nat.le_refl _)) (Below.refl _ _) (Nat.le_refl _) (by simp) ?_; (case hd => rfl); (case hg => rfl); (case hr => first | (go_simp; done) | (go_simp; rfl)); (case hp => exact (Reps.none _ _)); intro v313 w3 ho4 hb hg_ hnew_; clear hg_ hnew_; (first | rw [← Ny312.out] at ho4 | (simp only [Int.reduceToNat] at ho4; rw [← Ny312.out] at ho4)); have n0_ := Aside0.mk (Kd.V_elder' (kV HO0) (by first | exact Kd.N_base ho4 | exact Kd.S_base ho4) hb); have n1_ := Aside0.mk (Kd.N_lower ho4 (below_size bl)); have n2_ := Aside0.mk (below_step bl hb); clear HO0; clear HB; have HO0 := n0_; have HO314 := n1_; have HB := n2_; clear n0_ n1_ n2_; clear hb ho4) | ((with_reducible refine gate_builtin (b := .append) (xs := #[.tmp 5, .tmp 6]) rfl ?_); at_builtin; refine Kd.N_append_rows (Kd.slice 5 (Kd.int .u8)) (w0 := w) w.heap.size rfl (.tmp 5) (.tmp 6) 38 45 (.slice none 0 0) 24 rfl Try.underlying38 info45 rfl (by decide) (by omega) v313 y312 l0 _ _ _ (fun k_ => (P0_ k_ ∨ w.heap.size ≤ k_)) (fun k_ => ((fun k_ => (P0_ k_ ∨ w.heap.size ≤ k_))) k_ ∧ some k_ ≠ (v313 : Value).ownBlock) rfl rfl ?aO ?aR (fun _ hk => hk) ?aF ?aB ?aS ?aL ?_; (case aR => exact (by skip; exact Kd.V_F (Kd.V_mono (ok' := (fun k_ => ((fun k_ => (P0_ k_ ∨ w.heap.size ≤ k_))) k_ ∧ some k_ ≠ (v313 : Value).ownBlock)) (HO0.out) (fun k_ hk => ⟨hk.1, hk.2⟩)))); (case aB => exact bl); (case aF => exact (fun k_ hk => (.inr (Nat.le_trans (below_size bl) hk)))); (case aO => exact (kN HO314)); (case aS => exact (below_size bl)); (case aL => have := LMc2.out; omega); intro v316 w5 ho hb hg hat; rw [← Ny315.out] at ho; have n0_ := Aside0.mk (Kd.V_afterv (ok := (fun k_ => (P0_ k_ ∨ w.heap.size ≤ k_))) (kV HO0) hg hat); have n1_ := Aside0.mk (hb); have n2_ := Aside0.mk (ho); clear HO0; clear HB; clear HO314; have HO0 := n0_; have HB := n1_; have HO317 := n2_; clear n0_ n1_ n2_; clear ho hb hg hat))
  go_ret
  exact ⟨_, by first | rfl | (simp [errW_none, errW_some] <;> rfl) | (simp [*, errW_none, errW_some] <;> rfl), by (with_reducible repeat (first | apply Kd.N_alloc | apply Kd.N_drewN | apply Kd.N_drew)); exact HO317.out, bl⟩
 ·rw [if_neg c2] at H
  exact absurd H (by simp)

/-! ### field_double: function 56 -/
def field_double.f (a0 : Int) : Option (Int) := if (Go.bits .and .u8 a0 128) = 0 then (some ((a0 * 2) % 256)) else (some (Go.bits .xor .u8 ((a0 * 2) % 256) 29))
set_option maxHeartbeats 8000000 in
set_option maxRecDepth 100000 in
theorem field_double.calls (a0 : Int) (r : Int) (w : World) (h : field_double.f a0 = some r) :
  Calls Try.prog 56 #[.int .u8 a0] w fun e w' => e = .returned (.int .u8 r) ∧ Drawn0 w w' := by
 have H : (if (Go.bits .and .u8 a0 128) = 0 then (some ((a0 * 2) % 256)) else (some (Go.bits .xor .u8 ((a0 * 2) % 256) 29))) = some r := h
 clear h
 by_cases c2 : (Go.bits .and .u8 a0 128) = 0
 ·rw [if_pos c2] at H
  have c2b0 : ((Go.bits .and .u8 a0 128) == 0) = true := beq_iff_eq.mpr c2
  have c2b1 : ((Go.bits .and .u8 a0 128) != 0) = false := bne_eq_false_iff_eq.mpr c2
  clear c2
  obtain rfl := Option.some.inj H
  go_enter Try.func56, Try.ntmps56
  go_wp2
  go_ret
  exact ⟨by first | rfl | (simp; done) | (simp [*]; done), by repeat (first | exact Drawn0.refl _ | apply Drawn0.step)⟩
 ·rw [if_neg c2] at H
  have c2b0 : ((Go.bits .and .u8 a0 128) == 0) = false := beq_eq_false_iff_ne.mpr c2
  have c2b1 : ((Go.bits .and .u8 a0 128) != 0) = true := bne_iff_ne.mpr c2
  obtain rfl := Option.some.inj H
  go_enter Try.func56, Try.ntmps56
  go_wp2
  go_ret
  exact ⟨by first | rfl | (simp; done) | (simp [*]; done), by repeat (first | exact Drawn0.refl _ | apply Drawn0.step)⟩

/-! ### field_Scale: function 50 (by hand) -/
def dbl (a : Int) : Int := if (Go.bits .and .u8 a 128) = 0 then (a * 2) % 256 else Go.bits .xor .u8 ((a * 2) % 256) 29
theorem dbl_f (a : Int) : field_double.f a = some (dbl a) := by unfold field_double.f dbl; split <;> rfl
def exA : Nat → Int
  | 0 => 1
  | n + 1 => dbl (exA n)
def tabZ : Array Value := (List.replicate 510 (Value.int .u8 0) ++ List.replicate 256 (Value.int .i64 0)).toArray
def tabN : Nat → Array Value
  | 0 => tabZ
  | n + 1 => (((tabN n).setIfInBounds n (.int .u8 (exA n))).setIfInBounds (n + 255) (.int .u8 (exA n))).setIfInBounds (510 + (exA n).toNat) (.int .i64 n)
theorem tabZ_size : tabZ.size = 766 := by rw [tabZ, List.size_toArray, List.length_append, List.length_replicate, List.length_replicate]
theorem tabN_size : ∀ n, (tabN n).size = 766
  | 0 => by rw [tabN, tabZ_size]
  | n + 1 => by rw [tabN, Array.size_setIfInBounds, Array.size_setIfInBounds, Array.size_setIfInBounds, tabN_size n]
theorem infoT : (Try.prog.info? 87).map (fun i => (i.zero, i.size)) = some (some (.agg tabZ), 766) := by kernel_rfl
theorem exA_range : ∀ n, n < 256 → 0 < exA n ∧ exA n < 256 := by decide +kernel
def exGen : Nat → Int → List Int
  | 0, _ => []
  | n + 1, a => a :: exGen n (dbl a)
theorem exGen_get : ∀ (n i m : Nat), i < n → (exGen n (exA m))[i]? = some (exA (m + i))
  | n + 1, 0, m, _ => rfl
  | n + 1, i + 1, m, h => by
    have := exGen_get n i (m + 1) (by omega)
    rw [exGen, List.getElem?_cons_succ]
    show (exGen n (exA (m + 1)))[i]? = _
    rw [this, Nat.add_assoc, Nat.add_comm 1 i]
theorem exGen_len : ∀ (n : Nat) (a : Int), (exGen n a).length = n
  | 0, _ => rfl
  | n + 1, a => by rw [exGen, List.length_cons, exGen_len n]
theorem exGen_nodup : (exGen 255 1).Nodup := by decide +kernel
theorem exA_inj {i j : Nat} (hi : i < 255) (hj : j < 255) (h : exA i = exA j) : i = j := by
  have h1 := exGen_get 255 i 0 hi
  have h2 := exGen_get 255 j 0 hj
  rw [Nat.zero_add] at h1 h2
  rw [h, ← h2] at h1
  exact (List.getElem?_inj (by rw [exGen_len]; exact hi) exGen_nodup).1 h1
theorem exGen_all : ∀ a : Nat, a < 256 → a ≠ 0 → (a : Int) ∈ exGen 255 1 := by decide +kernel
theorem exA_onto (a : Int) (h0 : 0 < a) (h1 : a < 256) : ∃ i, i < 255 ∧ exA i = a := by
  have h := exGen_all a.toNat (by omega) (by omega)
  rw [Int.toNat_of_nonneg (by omega)] at h
  obtain ⟨i, hi, he⟩ := List.mem_iff_getElem.1 h
  rw [exGen_len] at hi
  have h2 := exGen_get 255 i 0 hi
  rw [Nat.zero_add] at h2
  exact ⟨i, hi, by rw [← he, ← Option.some_inj, ← h2]; exact (List.getElem?_eq_getElem _)⟩
theorem exA_255 : exA 255 = 1 := by decide +kernel
theorem exA_period : ∀ n, exA (n + 255) = exA n
  | 0 => by rw [Nat.zero_add, exA_255]; rfl
  | n + 1 => by rw [show n + 1 + 255 = (n + 255) + 1 from by omega, exA, exA_period n]; rfl
theorem exA_mod (n : Nat) : exA (n % 255) = exA n := by
  induction n using Nat.strongRecOn with
  | _ n ih =>
    by_cases h : n < 255
    · rw [Nat.mod_eq_of_lt h]
    · have e := ih (n - 255) (by omega)
      have h2 := exA_period (n - 255)
      rw [show n - 255 + 255 = n from by omega] at h2
      rw [h2, ← e, ← Nat.mod_eq_sub_mod (by omega)]
theorem setI (a : Array Value) (i j : Nat) (v : Value) (h : i < a.size) : (a.setIfInBounds i v)[j]? = if i = j then some v else a[j]? := by
  rw [Array.getElem?_setIfInBounds]
  by_cases e : i = j
  · subst e; simp [h]
  · simp [e]
theorem tabN_exp : ∀ (n i : Nat), n ≤ 255 → i < n → (tabN n)[i]? = some (.int .u8 (exA i)) ∧ (tabN n)[i + 255]? = some (.int .u8 (exA i))
  | n + 1, i, hn, hi => by
    have hr := exA_range n (by omega)
    rw [tabN, setI _ _ _ _ (by simp only [Array.size_setIfInBounds, tabN_size]; omega), setI _ _ _ _ (by simp only [Array.size_setIfInBounds, tabN_size]; omega), setI _ _ _ _ (by rw [tabN_size]; omega),
      setI _ _ _ _ (by simp only [Array.size_setIfInBounds, tabN_size]; omega), setI _ _ _ _ (by simp only [Array.size_setIfInBounds, tabN_size]; omega), setI _ _ _ _ (by rw [tabN_size]; omega)]
    rw [if_neg (by omega), if_neg (by omega), if_neg (by omega : ¬ 510 + (exA n).toNat = i + 255)]
    by_cases e : n = i
    · subst e
      simp
    · have := tabN_exp n i (by omega) (by omega)
      rw [if_neg e, if_neg (by omega), if_neg (by omega), this.1, this.2]
      exact ⟨rfl, rfl⟩
theorem tabN_log : ∀ (n i : Nat), n ≤ 255 → i < n → (tabN n)[510 + (exA i).toNat]? = some (.int .i64 i)
  | n + 1, i, hn, hi => by
    have hr := exA_range n (by omega)
    have hri := exA_range i (by omega)
    rw [tabN, setI _ _ _ _ (by simp only [Array.size_setIfInBounds, tabN_size]; omega), setI _ _ _ _ (by simp only [Array.size_setIfInBounds, tabN_size]; omega), setI _ _ _ _ (by rw [tabN_size]; omega)]
    by_cases e : n = i
    · subst e
      simp
    · have hne : exA n ≠ exA i := fun h => e (exA_inj (by omega) (by omega) h)
      rw [if_neg (by omega), if_neg (by omega), if_neg (by omega)]
      exact tabN_log n i (by omega) (by omega)
def logT (a : Int) : Nat := (exGen 255 1).idxOf a
theorem logT_ex (i : Nat) (hi : i < 255) : logT (exA i) = i := by
  have h := exGen_get 255 i 0 hi
  rw [Nat.zero_add] at h
  have hl : i < (exGen 255 1).length := by rw [exGen_len]; exact hi
  have he : exA i = (exGen 255 1)[i] := by
    rw [← Option.some_inj, ← h]; exact (List.getElem?_eq_getElem _)
  unfold logT
  rw [he]
  exact exGen_nodup.idxOf_getElem i hl
def mulT (a b : Int) : Int := if a = 0 then 0 else if b = 0 then 0 else exA (logT a + logT b)

section
variable {P : Program} {ops : Array Oper} {rest : List Oper} {o : Oper} {a : Act} {Q : Exit → Act → World → Prop}
theorem alloc_row_event {W : World} (hgd : o.guard = none) {N : Tmp} (_hd : o.dst = some N) {z : Array Value} {t : TypeId} (ho : o.op = .alloc t) {n : Nat} (hi : (P.info? t).map (fun i => (i.zero, i.size)) = some (some (.agg z), n))
    (h : ∀ g, g = W.heap.size → ∀ w1, w1.heap[g]? = some (.cells z t (0, 0)) → Below W.heap.size W w1 → wpList P ops Q rest (a.put o.dst (.pointer (some ⟨g, 0, none⟩))) w1) : wpList P ops Q (o :: rest) a W := by
  refine Kd.event_run hgd (w1 := W.alloc (.cells z t (0, 0))) (v := .pointer (some ⟨W.heap.size, 0, none⟩)) ?_ (h _ rfl _ (blk_new W _) (below_alloc (Below.refl _ _) _))
  obtain ⟨i, hi0, hi1⟩ := Option.map_eq_some_iff.1 hi
  simp only [Prod.mk.injEq] at hi1
  simp [execOp, ho, Instr.alloc, zeroValue, typeInfo, hi0, hi1.1, newVar, newRow, Value.cells]
end
theorem sizeT : (Try.prog.info? 87).map (·.size) = some (tabN 255).size := by
  rw [tabN_size]
  have := congrArg (Option.map Prod.snd) infoT
  simpa [Option.map_map, Function.comp_def] using this
theorem tabZ_one (v : Value) (h : v ∈ tabZ) : v.oneCell' = true := by
  have hm := List.mem_toArray.1 h
  rcases List.mem_append.1 hm with hm | hm
  · rw [(List.mem_replicate.1 hm).2]; rfl
  · rw [(List.mem_replicate.1 hm).2]; rfl
theorem tabN_one1 (n i : Nat) (v : Value) (h : (tabN n)[i]? = some v) : v.oneCell' = true := by
  induction n generalizing i v with
  | zero => exact tabZ_one v (Array.mem_of_getElem? h)
  | succ n ih =>
    rw [tabN, Array.getElem?_setIfInBounds, Array.getElem?_setIfInBounds, Array.getElem?_setIfInBounds] at h
    split at h
    · split at h
      · cases h; rfl
      · cases h
    · split at h
      · split at h
        · cases h; rfl
        · cases h
      · split at h
        · split at h
          · cases h; rfl
          · cases h
        · exact ih i v h
theorem tabN_one : (tabN 255).all (·.oneCell') = true := by
  rw [Array.all_eq_true_iff_forall_mem]
  intro v hv
  obtain ⟨i, hi⟩ := Array.getElem?_of_mem hv
  exact tabN_one1 255 i v hi
theorem below_setRow {w W : World} {g : Nat} (h : Below w.heap.size w W) (hg : w.heap.size ≤ g) (cs : Array Value) : Below w.heap.size w (W.setRow g cs) := by
  refine h.trans ⟨rfl, rfl, rfl, ?_, fun i hi => ?_⟩
  · simp
  · exact setRow_other W g i cs (by omega)
theorem cellAt {w : World} {g t : Nat} {cs : Array Value} (h : w.heap[g]? = some (.cells cs t (0, 0))) (i : Nat) (hi : i < cs.size) : ∃ o, w.cell? ⟨g, i, none⟩ = some o := ⟨cs[i], by rw [blk_cell h, Array.getElem?_eq_getElem hi]⟩
set_option maxHeartbeats 1000000 in
set_option maxRecDepth 100000 in
theorem field_build_calls (w : World) : Calls Try.prog 54 #[] w fun e w' => e = .returned (.agg (tabN 255)) ∧ Below w.heap.size w w' := by
  have hu87 := Try.underlying87
  have HB := Aside0.mk (Below.refl w.heap.size w)
  go_enter Try.func54, Try.ntmps54
  go_wp2_with (first | ((with_reducible refine gate_dst (N := 0) rfl ?_); refine alloc_row_event ?hg (N := 0) ?hd (z := tabZ) (t := 87) ?ho infoT ?_; (case hd => rfl); (case hg => rfl); (case ho => rfl); intro g0 hg0 w1 hz0 hb0; have HZ0 := Aside0.mk hz0; have HG0 := Aside0.mk (show w.heap.size ≤ g0 by rw [hg0]; exact Nat.le_refl _); have n0_ := Aside0.mk (HB.out.trans (hb0.mono HB.out.size)); clear HB; have HB := n0_; clear n0_ hg0 hz0 hb0) | ((with_reducible refine gate_dst (N := 1) rfl ?_); refine alloc_row_event ?hg (N := 1) ?hd (z := tabZ) (t := 87) ?ho infoT ?_; (case hd => rfl); (case hg => rfl); (case ho => rfl); intro g1 hg1 w2 hz1 hb1; have HZ1 := Aside0.mk hz1; have hne := (show g0 ≠ g1 by rw [hg1]; exact Nat.ne_of_lt (blk_lt HZ0.out)); have hg1' := Aside0.mk (show w.heap.size ≤ g1 by rw [hg1]; exact HB.out.size); have n1_ := Aside0.mk ((hb1.block _ (blk_lt HZ0.out)).trans HZ0.out); clear HZ0; have HZ0 := n1_; have n0_ := Aside0.mk (HB.out.trans (hb1.mono HB.out.size)); clear HB; have HB := n0_; clear n0_ n1_ hg1 hz1 hb1))
  go_loopw [2, 3, 4] (fun v2 v3 v4 w' => ∃ n : Nat, n ≤ 255 ∧ v4 = .int .i64 n ∧ v2 = .int .u8 (exA n) ∧ Aside0 (w'.heap[g1]? = some (.cells (tabN n) 87 (0, 0))) ∧ Aside0 (w'.heap[g0]? = some (.cells tabZ 87 (0, 0))) ∧ Aside0 (Below w.heap.size w w')) (fun _ _ v _ => 255 - (intOf v).toNat)
  case atStart => exact ⟨0, by omega, rfl, rfl, HZ1, HZ0, HB⟩
  case round =>
    obtain ⟨n, hn, rfl, rfl, HT, HZ, HBr⟩ := hrel
    have HE := Aside0.mk (exA_range n (by omega))
    by_cases hlt : n < 255
    · obtain ⟨o1, hc1⟩ := cellAt HT.out n (by rw [tabN_size]; omega)
      have hf1 := blk_frozen HT.out n
      have he0 := HE.out.1
      have he1 := HE.out.2
      go_wp2_with (first | ((with_reducible refine gate_store (t := 5) (p := 13) rfl ?_); refine store_event (t := 5) (p := 13) (v := ?vo_13) (w1 := (wr.setCell ⟨g1, n, none⟩ (.int .u8 (exA n)))) ?hg ?ho ?hn ?hr ?_; (case ho => rfl); (case hg => rfl); (case hn => rfl); (case hr => first | (go_simp; done) | (go_simp; rfl)); intro w5 hw; have HT5 := Aside0.mk (show w5.heap[g1]? = some (.cells ((tabN n).setIfInBounds n (.int .u8 (exA n))) 87 (0, 0)) by rw [hw]; exact heap_setCell_same _ _ _ _ _ _ HT.out); have HZ5 := Aside0.mk (show w5.heap[g0]? = some (.cells tabZ 87 (0, 0)) by rw [hw]; exact (heap_setCell_other _ _ _ _ hne).trans HZ.out); have HB5 := Aside0.mk (show Below w.heap.size w w5 by rw [hw]; exact below_set HBr.out hg1'.out); obtain ⟨o2, hc2⟩ := cellAt HT5.out (n + 255) (by simp only [Array.size_setIfInBounds, tabN_size]; omega); have hf2 := blk_frozen HT5.out (n + 255); clear hw) | ((with_reducible refine gate_store (t := 5) (p := 15) rfl ?_); refine store_event (t := 5) (p := 15) (v := ?vo_15) (w1 := (w5.setCell ⟨g1, n + 255, none⟩ (.int .u8 (exA n)))) ?hg ?ho ?hn ?hr ?_; (case ho => rfl); (case hg => rfl); (case hn => rfl); (case hr => first | (go_simp; done) | (go_simp; rfl)); intro w6 hw; have HT6 := Aside0.mk (show w6.heap[g1]? = some (.cells (((tabN n).setIfInBounds n (.int .u8 (exA n))).setIfInBounds (n + 255) (.int .u8 (exA n))) 87 (0, 0)) by rw [hw]; exact heap_setCell_same _ _ _ _ _ _ HT5.out); have HZ6 := Aside0.mk (show w6.heap[g0]? = some (.cells tabZ 87 (0, 0)) by rw [hw]; exact (heap_setCell_other _ _ _ _ hne).trans HZ5.out); have HB6 := Aside0.mk (show Below w.heap.size w w6 by rw [hw]; exact below_set HB5.out hg1'.out); obtain ⟨o3, hc3⟩ := cellAt HT6.out (510 + (exA n).toNat) (by simp only [Array.size_setIfInBounds, tabN_size]; have := HE.out; omega); have hf3 := blk_frozen HT6.out (510 + (exA n).toNat); clear hw) | ((with_reducible refine gate_store (t := 3) (p := 19) rfl ?_); refine store_event (t := 3) (p := 19) (v := ?vo_19) (w1 := (w6.setCell ⟨g1, 510 + (exA n).toNat, none⟩ (.int .i64 n))) ?hg ?ho ?hn ?hr ?_; (case ho => rfl); (case hg => rfl); (case hn => rfl); (case hr => first | (go_simp; done) | (go_simp; rfl)); intro w7 hw; have HT7 := Aside0.mk (show w7.heap[g1]? = some (.cells (tabN (n + 1)) 87 (0, 0)) by rw [hw]; exact heap_setCell_same _ _ _ _ _ _ HT6.out); have HZ7 := Aside0.mk (show w7.heap[g0]? = some (.cells tabZ 87 (0, 0)) by rw [hw]; exact (heap_setCell_other _ _ _ _ hne).trans HZ6.out); have HB7 := Aside0.mk (show Below w.heap.size w w7 by rw [hw]; exact below_set HB6.out hg1'.out); clear hw) | (go_at_call 56; refine (field_double.calls _ _ _ (dbl_f _)).mono ?_; rintro e w8 ⟨rfl, ⟨m8, rfl⟩⟩))
      go_roundw
      case rel => exact ⟨n + 1, by omega, by go_num, rfl, HT7, HZ7, ⟨pw_below_drewN HB7.out _⟩⟩
      case measure => simp [intOf]; omega
    · obtain rfl : n = 255 := by omega
      have HI := Aside0.mk sizeT
      have H1 := Aside0.mk tabN_one
      clear hu87
      go_wp2_with (first | ((with_reducible refine gate_dst (N := 23) rfl ?_); refine wpList_load_row rfl 87 (.tmp 1) rfl g1 rfl 87 (tabN 255) (0, 0) _ HT.out Try.underlying87 rfl HI.out ?_) | ((with_reducible refine gate_store (t := 87) (p := 0) rfl ?_); refine wpList_store_row rfl 87 (.tmp 0) (.tmp 23) rfl g0 (tabN 255) rfl rfl 87 tabZ HZ.out HI.out (by rw [tabZ_size, tabN_size]) H1.out ?_; generalize hw9 : wr.setRow g0 (tabN 255) = w9; have HZ9 := Aside0.mk (show w9.heap[g0]? = some (.cells (tabN 255) 87 (0, 0)) by rw [← hw9]; exact setRow_heap _ _ _ _ _ _ HZ.out); have HB9 := Aside0.mk (show Below w.heap.size w w9 by rw [← hw9]; exact below_setRow HBr.out HG0.out _); clear hw9))
      refine bodyPost_ret (v := .agg (tabN 255)) (results_cell_row rfl _ _ g0 87 (tabN 255) (0, 0) _ rfl HZ9.out Try.underlying87 rfl HI.out) rfl ⟨rfl, HB9.out⟩

theorem tab_exp (k : Nat) (h : k < 510) : (tabN 255)[k]? = some (.int .u8 (exA k)) := by
  by_cases c : k < 255
  · exact (tabN_exp 255 k (by omega) c).1
  · have h1 := (tabN_exp 255 (k - 255) (by omega) (by omega)).2
    have h2 := exA_period (k - 255)
    rw [show k - 255 + 255 = k from by omega] at h1 h2
    rw [h1, h2]
theorem log_tab (a : Int) (h0 : 0 < a) (h1 : a < 256) : logT a < 255 ∧ (tabN 255)[510 + a.toNat]? = some (.int .i64 (logT a)) := by
  obtain ⟨i, hi, rfl⟩ := exA_onto a h0 h1
  rw [logT_ex i hi]
  exact ⟨hi, tabN_log 255 i (by omega) hi⟩
set_option maxHeartbeats 1000000 in
set_option maxRecDepth 100000 in
theorem field_mul_calls (g : Nat) (a b : Int) (w : World) (hT : w.heap[g]? = some (.cells (tabN 255) 87 (0, 0))) (ha0 : 0 ≤ a) (ha : a < 256) (hb0 : 0 ≤ b) (hb : b < 256) :
    Calls Try.prog 55 #[.pointer (some ⟨g, 0, none⟩), .int .u8 a, .int .u8 b] w fun e w' => e = .returned (.int .u8 (mulT a b)) ∧ Drawn0 w w' := by
  have hu87 := Try.underlying87
  have HT := Aside0.mk hT
  clear hT
  by_cases c0 : a = 0
  · subst c0
    go_enter Try.func55, Try.ntmps55
    go_wp2
    repeat (go_quiet (fail); try go_wp2)
    go_ret
    exact ⟨rfl, by repeat (first | exact Drawn0.refl _ | apply Drawn0.step)⟩
  · have c0' : (a == 0) = false := by simpa using c0
    by_cases c1 : b = 0
    · subst c1
      have hm : mulT a 0 = 0 := by unfold mulT; rw [if_neg c0, if_pos rfl]
      rw [hm]
      clear c0
      go_enter Try.func55, Try.ntmps55
      go_wp2
      repeat (go_quiet (fail); try go_wp2)
      go_ret
      exact ⟨rfl, by repeat (first | exact Drawn0.refl _ | apply Drawn0.step)⟩
    · have c1' : (b == 0) = false := by simpa using c1
      have hm : mulT a b = exA (logT a + logT b) := by unfold mulT; rw [if_neg c0, if_neg c1]
      rw [hm]
      obtain ⟨hi, hta⟩ := log_tab a (by omega) ha
      obtain ⟨hj, htb⟩ := log_tab b (by omega) hb
      have hte := tab_exp (logT a + logT b) (by omega)
      clear c0 c1 hm
      generalize logT a = i at hi hta hte ⊢
      generalize logT b = j at hj htb hte ⊢
      have hca : w.cell? ⟨g, 510 + a.toNat, none⟩ = some (.int .i64 i) := by rw [blk_cell HT.out, hta]
      have hcb : w.cell? ⟨g, 510 + b.toNat, none⟩ = some (.int .i64 j) := by rw [blk_cell HT.out, htb]
      have hce : w.cell? ⟨g, i + j, none⟩ = some (.int .u8 (exA (i + j))) := by rw [blk_cell HT.out, hte]
      clear hta htb hte
      generalize exA (i + j) = r at hce ⊢
      go_enter Try.func55, Try.ntmps55
      go_wp2
      repeat (go_quiet (fail); try go_wp2)
      go_ret
      exact ⟨rfl, by repeat (first | exact Drawn0.refl _ | apply Drawn0.step)⟩

def inByte (a : Int) : Bool := decide (0 ≤ a) && decide (a < 256)
def field_Scale.f (c : Int) (l : List Int) : Option (List Int) := if (inByte c && l.all inByte) = true then (if l.length ≤ 281474976710656 then some (l.map (mulT c)) else none) else none
set_option maxHeartbeats 1000000 in
set_option maxRecDepth 100000 in
theorem field_Scale.calls (a0 : Int) (A1 : Option Addr) (c1 : Nat) (l1 : List Int) (r : List Int) (w : World) (hr1 : Kd.C (Kd.int .u8) w A1 l1.length l1) (hc1 : l1.length ≤ c1) (h : field_Scale.f a0 l1 = some r) :
    Calls Try.prog 50 #[.int .u8 a0, .slice A1 l1.length c1] w fun e w' => ∃ v0_ : Value, e = .returned v0_ ∧ Kd.R (Kd.int .u8) 5 w' w.heap.size (fun _ => True) v0_ r ∧ Below w.heap.size w w' := by
  have hn1 := hr1.2.1
  have HR := Aside0.mk hr1
  rw [field_Scale.f] at h
  by_cases hb : (inByte a0 && l1.all inByte) = true
  · rw [if_pos hb] at h
    by_cases hm : l1.length ≤ 281474976710656
    · rw [if_pos hm] at h
      obtain rfl := Option.some.inj h
      simp only [Bool.and_eq_true, inByte, decide_eq_true_eq, List.all_eq_true] at hb
      have HBY := Aside0.mk hb
      have HM := Aside0.mk hm
      have HI := Aside0.mk sizeT
      have H1 := Aside0.mk tabN_one
      have HB := Aside0.mk (Below.refl w.heap.size w)
      clear hr1 h hb hm
      go_enter Try.func50, Try.ntmps50
      go_wp2_with (first | (go_at_call 54; refine (field_build_calls _).mono ?_; rintro e w1 ⟨rfl, hb1⟩; have n0_ := Aside0.mk (HB.out.trans (hb1.mono HB.out.size)); clear HB hb1; have HB := n0_; clear n0_) | ((with_reducible refine gate_dst (N := 5) rfl ?_); refine alloc_row_event ?hg (N := 5) ?hd (z := tabZ) (t := 87) ?ho infoT ?_; (case hd => rfl); (case hg => rfl); (case ho => rfl); intro gt hgt w2 hz hbz; have HZ := Aside0.mk hz; have HG := Aside0.mk (show w.heap.size ≤ gt by rw [hgt]; exact HB.out.size); have n0_ := Aside0.mk (HB.out.trans (hbz.mono HB.out.size)); clear HB; have HB := n0_; clear n0_ hgt hz hbz) | ((with_reducible refine gate_store (t := 87) (p := 5) rfl ?_); refine wpList_store_row rfl 87 (.tmp 5) (.tmp 9) rfl gt (tabN 255) rfl rfl 87 tabZ HZ.out HI.out (by rw [tabZ_size, tabN_size]) H1.out ?_; generalize hw9 : w2.setRow gt (tabN 255) = w3; have HT3 := Aside0.mk (show w3.heap[gt]? = some (.cells (tabN 255) 87 (0, 0)) by rw [← hw9]; exact setRow_heap _ _ _ _ _ _ HZ.out); have n0_ := Aside0.mk (show Below w.heap.size w w3 by rw [← hw9]; exact below_setRow HB.out HG.out _); clear hw9 HB; have HB := n0_; clear n0_) | ((with_reducible refine gate_dst (N := 12) rfl ?_); refine Kd.R_make (Kd.int .u8) _ 5 rfl (N := 12) rfl 45 _ _ rfl (l1.length : Int) rfl rfl Try.underlying45 (.int .u8 0) 1 info5 rfl (by decide) (by omega) (0 : Int) (ok := fun _ => True) (okp := fun _ => True) rfl (fun _ hk => hk) trivial (by omega) ?hl (Below.refl _ _) (Nat.le_refl _) ?_; (case hl => have := HM.out; simp only [Int.toNat_natCast, Nat.mul_one]; exact this); intro u w4 ho4 hb4 hg_ hnew_; clear hg_ hnew_; have HO4 := Aside0.mk (Kd.R_lower ho4 HB.out.size); have HT4 := Aside0.mk ((hb4.block _ (blk_lt HT3.out)).trans HT3.out); have n0_ := Aside0.mk (HB.out.trans (hb4.mono HB.out.size)); clear HB ho4 hb4; have HB := n0_; clear n0_))
      go_loopw [7, 8, 15] (fun v7 v8 v15 w' => ∃ (i : Nat) (xs : List Int), i ≤ l1.length ∧ v15 = .int .i64 i ∧ Aside0 (xs = (l1.take i).map (mulT a0) ++ List.replicate (l1.length - i) 0) ∧ Aside0 (Kd.R (Kd.int .u8) 5 w' w.heap.size (fun _ => True) u xs) ∧ Aside0 (w'.heap[gt]? = some (.cells (tabN 255) 87 (0, 0))) ∧ Aside0 (Below w.heap.size w w')) (fun _ _ v _ => l1.length - (intOf v).toNat)
      case atStart => exact ⟨0, _, Nat.zero_le _, rfl, ⟨rfl⟩, ⟨by simpa using HO4.out⟩, HT4, HB⟩
      case round =>
        obtain ⟨i, xs, hi, rfl, HX, HO, HT, HBr⟩ := hrel
        have hxl : xs.length = l1.length := by rw [HX.out]; simp; omega
        by_cases hlt : i < l1.length
        · obtain ⟨ad, e1, hx⟩ := Kd.at_int (Kd.C_below HR.out HBr.out) (i : Int) (by omega) (by omega)
          cases e1
          simp only [Int.toNat_natCast] at hx
          have hel : rd l1 i = l1[i] := by simp [rd, hlt]
          have hmem := HBY.out.2 l1[i] (List.getElem_mem hlt)
          rw [← hel] at hmem
          obtain ⟨Ao, co, eo⟩ := Kd.R_slice HO.out
          subst eo
          obtain ⟨g, cg, eg, gb, gl, cl, HG5⟩ := Kd.R_form HO.out (by omega)
          cases eg
          have HMU := Aside0.mk (fun W hW => field_mul_calls gt a0 (rd l1 i) W hW HBY.out.1.1 HBY.out.1.2 hmem.1 hmem.2)
          have HNX := Aside0.mk (show xs.set i (mulT a0 (rd l1 i)) = (l1.take (i + 1)).map (mulT a0) ++ List.replicate (l1.length - (i + 1)) 0 by
            rw [HX.out, hel, List.take_succ_eq_append_getElem hlt, List.map_append, show l1.length - i = (l1.length - (i + 1)) + 1 from by omega, List.replicate_succ, List.set_append]
            simp [Nat.min_eq_left (Nat.le_of_lt hlt)])
          have hgt := blk_ne HG5 HT.out (by decide)
          have HXL := Aside0.mk hxl
          have hxl1 : l1.length ≤ xs.length := by omega
          have hj : (i : Int) < (xs.length : Int) := by omega
          clear hel hmem HG5 hxl
          generalize rd l1 (i : Int) = b at hx HMU HNX
          go_wp2_with (first | (go_at_call 55; refine (HMU.out _ HT.out).mono ?_; rintro e w5 ⟨rfl, ⟨m5, rfl⟩⟩; obtain ⟨hc5, hf5⟩ := Kd.R_celln 0 (Kd.R_drewN HO.out m5) (i : Int) (by omega) hj; simp only [Int.toNat_natCast] at hc5 hf5))
          go_roundw
          case rel => exact ⟨i + 1, xs.set i (mulT a0 b), by omega, by go_num, HNX, ⟨by have h9 := (Kd.R_putg (enc := Value.int .u8) (h1 := fun _ => rfl) (Kd.R_drewN HO.out m5) (i : Int) (mulT a0 b)).1; simp only [Int.toNat_natCast] at h9; exact h9⟩, ⟨(heap_setCell_other _ _ _ _ (fun e => hgt e.symm)).trans HT.out⟩, ⟨below_set (pw_below_drewN HBr.out m5) gb⟩⟩
          case measure => simp [intOf]; omega
        · have hx2 := HX.out
          rw [List.take_of_length_le (by omega), show l1.length - i = 0 from by omega, List.replicate_zero, List.append_nil] at hx2
          go_wp2
          go_ret
          exact ⟨_, rfl, by rw [← hx2]; exact HO.out, HBr.out⟩
    · rw [if_neg hm] at h; cases h
  · rw [if_neg hb] at h; cases h

/-! ### slices_Clone_byte_byte_51: function 51 -/
def slices_Clone_byte_byte_51.f (l0 : List Int) : Option (List Int) := (some (([] : List Int) : List Int)).bind fun y318 => (if y318.length + l0.length < 140737488355328 then (some (y318 ++ l0)) else (none))
set_option maxHeartbeats 8000000 in
set_option maxRecDepth 100000 in
theorem slices_Clone_byte_byte_51.calls (A0 : Option Addr) (c0 : Nat) (l0 : List Int) (r : List Int) (w : World) (hr0 : Kd.C (Kd.int .u8) w A0 l0.length l0) (hc0 : l0.length ≤ c0) (h : slices_Clone_byte_byte_51.f l0 = some r) :
  Calls Try.prog 51 #[.slice A0 l0.length c0] w fun e w' => ∃ v0_ : Value, e = .returned (v0_) ∧ Kd.R (Kd.int .u8) 5 w' w.heap.size (fun _ => True) v0_ r ∧ Below w.heap.size w w' := by
 have hq_ : ∀ (w : World) (a : Option Addr) (n c n' c' : Nat), (binOp .eql 45 (.slice a n c) (.slice none n' c')).run Try.prog w = .ok (.bool a.isNone) w := fun w a n c n' c' => Lib.run_eql_slice_nil w _ _ a n c n' c' Try.underlying45
 rcases A0 with _ | a0_
 ·have hl_ : l0 = [] := by
   cases l0 with
   | nil => rfl
   | cons x r_ => exact absurd (hr0.2.2 (by simp)) (by rintro ⟨ad, h, _⟩; cases h)
  subst hl_
  have hr_ : [] = r := by simpa [slices_Clone_byte_byte_51.f] using h
  subst hr_
  go_enter Try.func51, Try.ntmps51
  go_wp2
  go_ret
  exact ⟨_, rfl, Kd.R_nil _ _ _ _ _, Below.refl _ _⟩
 have HR0 := Aside0.mk hr0
 have HC0 := Aside0.mk hc0
 clear hr0 hc0
 have HB := Aside0.mk (Below.refl w.heap.size w)
 have H : ((some (([] : List Int) : List Int)).bind fun y318 => (if y318.length + l0.length < 140737488355328 then (some (y318 ++ l0)) else (none))) = some r := h
 clear h
 obtain ⟨y318, hy318⟩ : ∃ y_ : List Int, y_ = (([] : List Int)) := ⟨_, rfl⟩
 replace H : (if y318.length + l0.length < 140737488355328 then (some (y318 ++ l0)) else (none)) = some r := by first | (rw [hy318]; with_reducible exact H) | (have H2_ := (Option.bind_some _ _).symm.trans H; rw [hy318]; with_reducible exact H2_) | (have H2_ := (Option.bind_some _ _).symm.trans H; with_reducible exact H2_) | with_reducible exact H | (rw [hy318]; exact H) | exact H
 have Ny318 := Aside0.mk hy318
 clear hy318
 by_cases c2 : y318.length + l0.length < 140737488355328
 ·rw [if_pos c2] at H
  have LMc2 := Aside0.mk c2
  clear c2
  obtain ⟨y321, hy321⟩ : ∃ y_ : List Int, y_ = (y318 ++ l0) := ⟨_, rfl⟩
  replace H : (some y321) = some r := by first | (rw [hy321]; with_reducible exact H) | (have H2_ := (Option.bind_some _ _).symm.trans H; rw [hy321]; with_reducible exact H2_) | (have H2_ := (Option.bind_some _ _).symm.trans H; with_reducible exact H2_) | with_reducible exact H | (rw [hy321]; exact H) | exact H
  have Ny321 := Aside0.mk hy321
  clear hy321
  obtain rfl := Option.some.inj H
  go_enter Try.func51, Try.ntmps51
  go_wp2_with (first | ((with_reducible refine gate_dst (N := 5) rfl ?_); refine Kd.R_lit (Kd.int .u8) _ 5 ?hg (N := 5) ?hd (xs := ([] : List Int)) (inner := []) (ok := fun _ => True) (okp := fun _ => True) ?hr ?hp (fun _ hk => hk) trivial (Below.refl _ _) (Nat.le_refl _) (by simp) ?_; (case hd => rfl); (case hg => rfl); (case hr => first | (go_simp; done) | (go_simp; rfl)); (case hp => exact (Reps.none _ _)); intro v319 w3 ho4 hb hg_ hnew_; clear hg_ hnew_; (first | rw [← Ny318.out] at ho4 | (simp only [Int.reduceToNat] at ho4; rw [← Ny318.out] at ho4)); have n0_ := Aside0.mk (Kd.R_lower ho4 (below_size bl)); have n1_ := Aside0.mk (below_step bl hb); clear HB; have HO320 := n0_; have HB := n1_; clear n0_ n1_; clear hb ho4) | ((with_reducible refine gate_builtin (b := .append) (xs := #[.tmp 5, .tmp 6]) rfl ?_); at_builtin; refine Kd.R_append_rows (Kd.int .u8) (w0 := w) w.heap.size rfl (.tmp 5) (.tmp 6) 45 5 (.int .u8 0) 1 rfl Try.underlying45 info5 rfl (by decide) (by omega) v319 y318 l0 _ _ _ (fun _ => True) (fun _ => False) rfl rfl ?aO ?aR (fun _ _ h => h) (fun _ h => h.elim) ?aF ?aB ?aS ?aL ?_; (case aR => repeat (first | exact (Kd.C_below HR0.out HB.out) | (with_reducible refine Kd.C_alloc ?_ _) | (with_reducible refine Kd.C_drewN ?_ _) | (with_reducible refine Kd.C_drew ?_))); (case aB => exact bl); (case aF => exact (fun _ _ => trivial)); (case aO => exact (kR HO320)); (case aS => exact (below_size bl)); (case aL => have := LMc2.out; omega); intro v322 w5 ho hb hg hat; rw [← Ny321.out] at ho; have n0_ := Aside0.mk (hb); have n1_ := Aside0.mk (ho); clear HB; clear HO320; have HB := n0_; have HO323 := n1_; clear n0_ n1_; clear ho hb hg hat))
  go_ret
  exact ⟨_, by first | rfl | (simp [errW_none, errW_some] <;> rfl) | (simp [*, errW_none, errW_some] <;> rfl), by (with_reducible repeat (first | apply Kd.R_alloc | apply Kd.R_drewN | apply Kd.R_drew)); exact HO323.out, bl⟩
 ·rw [if_neg c2] at H
  exact absurd H (by simp)

end Go.Proofs.Ytfnhnniecclleaa.PA
