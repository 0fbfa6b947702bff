-- Written by wip/tools/mp.py (the kit's print, run over several laws with some functions given by hand).
import Derived.Test.YtlflfpkjbjbldaaPAx0
import Derived.Test.YtlflfpkjbjbldaaPAx2
import Derived.Test.YtlflfpkjbjbldaaPAx10
namespace Go.Proofs.Ytlflfpkjbjbldaa.PA
open Go.RowKit Go.Proofs.YtlflfpkjbjbldaaW.PrintWords Go.Proofs.YtlflfpkjbjbldaaW.PrintLast Go.Proofs.YtlflfpkjbjbldaaW.PrintMore
attribute [local go_sem] max2_int min2_int max_two min_two max_three min_three max_four min_four   -- for this text's walks alone
set_option linter.unusedVariables false
set_option linter.unusedSimpArgs false

/-! ### field_Scale: function 36 (by hand) -/
def dbl (a : Int) : Int := if (Go.bits .and .u8 a 128) = 0 then (a * 2) % 256 else Go.bits .xor .u8 ((a * 2) % 256) 29
theorem dbl_f (a : Int) : field_double.f a = some (dbl a) := by unfold field_double.f dbl; split <;> rfl
def exA : Nat → Int
  | 0 => 1
  | n + 1 => dbl (exA n)
def tabZ : Array Value := (List.replicate 510 (Value.int .u8 0) ++ List.replicate 256 (Value.int .i64 0)).toArray
def tabN : Nat → Array Value
  | 0 => tabZ
  | n + 1 => (((tabN n).setIfInBounds n (.int .u8 (exA n))).setIfInBounds (n + 255) (.int .u8 (exA n))).setIfInBounds (510 + (exA n).toNat) (.int .i64 n)
theorem tabZ_size : tabZ.size = 766 := by rw [tabZ, List.size_toArray, List.length_append, List.length_replicate, List.length_replicate]
theorem tabN_size : ∀ n, (tabN n).size = 766
  | 0 => by rw [tabN, tabZ_size]
  | n + 1 => by rw [tabN, Array.size_setIfInBounds, Array.size_setIfInBounds, Array.size_setIfInBounds, tabN_size n]
theorem infoT : (Try.prog.info? 97).map (fun i => (i.zero, i.size)) = some (some (.agg tabZ), 766) := by kernel_rfl
theorem exA_range : ∀ n, n < 256 → 0 < exA n ∧ exA n < 256 := by decide +kernel
def exGen : Nat → Int → List Int
  | 0, _ => []
  | n + 1, a => a :: exGen n (dbl a)
theorem exGen_get : ∀ (n i m : Nat), i < n → (exGen n (exA m))[i]? = some (exA (m + i))
  | n + 1, 0, m, _ => rfl
  | n + 1, i + 1, m, h => by
    have := exGen_get n i (m + 1) (by omega)
    rw [exGen, List.getElem?_cons_succ]
    show (exGen n (exA (m + 1)))[i]? = _
    rw [this, Nat.add_assoc, Nat.add_comm 1 i]
theorem exGen_len : ∀ (n : Nat) (a : Int), (exGen n a).length = n
  | 0, _ => rfl
  | n + 1, a => by rw [exGen, List.length_cons, exGen_len n]
theorem exGen_nodup : (exGen 255 1).Nodup := by decide +kernel
theorem exA_inj {i j : Nat} (hi : i < 255) (hj : j < 255) (h : exA i = exA j) : i = j := by
  have h1 := exGen_get 255 i 0 hi
  have h2 := exGen_get 255 j 0 hj
  rw [Nat.zero_add] at h1 h2
  rw [h, ← h2] at h1
  exact (List.getElem?_inj (by rw [exGen_len]; exact hi) exGen_nodup).1 h1
theorem exGen_all : ∀ a : Nat, a < 256 → a ≠ 0 → (a : Int) ∈ exGen 255 1 := by decide +kernel
theorem exA_onto (a : Int) (h0 : 0 < a) (h1 : a < 256) : ∃ i, i < 255 ∧ exA i = a := by
  have h := exGen_all a.toNat (by omega) (by omega)
  rw [Int.toNat_of_nonneg (by omega)] at h
  obtain ⟨i, hi, he⟩ := List.mem_iff_getElem.1 h
  rw [exGen_len] at hi
  have h2 := exGen_get 255 i 0 hi
  rw [Nat.zero_add] at h2
  exact ⟨i, hi, by rw [← he, ← Option.some_inj, ← h2]; exact (List.getElem?_eq_getElem _)⟩
theorem exA_255 : exA 255 = 1 := by decide +kernel
theorem exA_period : ∀ n, exA (n + 255) = exA n
  | 0 => by rw [Nat.zero_add, exA_255]; rfl
  | n + 1 => by rw [show n + 1 + 255 = (n + 255) + 1 from by omega, exA, exA_period n]; rfl
theorem exA_mod (n : Nat) : exA (n % 255) = exA n := by
  induction n using Nat.strongRecOn with
  | _ n ih =>
    by_cases h : n < 255
    · rw [Nat.mod_eq_of_lt h]
    · have e := ih (n - 255) (by omega)
      have h2 := exA_period (n - 255)
      rw [show n - 255 + 255 = n from by omega] at h2
      rw [h2, ← e, ← Nat.mod_eq_sub_mod (by omega)]
theorem setI (a : Array Value) (i j : Nat) (v : Value) (h : i < a.size) : (a.setIfInBounds i v)[j]? = if i = j then some v else a[j]? := by
  rw [Array.getElem?_setIfInBounds]
  by_cases e : i = j
  · subst e; simp [h]
  · simp [e]
theorem tabN_exp : ∀ (n i : Nat), n ≤ 255 → i < n → (tabN n)[i]? = some (.int .u8 (exA i)) ∧ (tabN n)[i + 255]? = some (.int .u8 (exA i))
  | n + 1, i, hn, hi => by
    have hr := exA_range n (by omega)
    rw [tabN, setI _ _ _ _ (by simp only [Array.size_setIfInBounds, tabN_size]; omega), setI _ _ _ _ (by simp only [Array.size_setIfInBounds, tabN_size]; omega), setI _ _ _ _ (by rw [tabN_size]; omega),
      setI _ _ _ _ (by simp only [Array.size_setIfInBounds, tabN_size]; omega), setI _ _ _ _ (by simp only [Array.size_setIfInBounds, tabN_size]; omega), setI _ _ _ _ (by rw [tabN_size]; omega)]
    rw [if_neg (by omega), if_neg (by omega), if_neg (by omega : ¬ 510 + (exA n).toNat = i + 255)]
    by_cases e : n = i
    · subst e
      simp
    · have := tabN_exp n i (by omega) (by omega)
      rw [if_neg e, if_neg (by omega), if_neg (by omega), this.1, this.2]
      exact ⟨rfl, rfl⟩
theorem tabN_log : ∀ (n i : Nat), n ≤ 255 → i < n → (tabN n)[510 + (exA i).toNat]? = some (.int .i64 i)
  | n + 1, i, hn, hi => by
    have hr := exA_range n (by omega)
    have hri := exA_range i (by omega)
    rw [tabN, setI _ _ _ _ (by simp only [Array.size_setIfInBounds, tabN_size]; omega), setI _ _ _ _ (by simp only [Array.size_setIfInBounds, tabN_size]; omega), setI _ _ _ _ (by rw [tabN_size]; omega)]
    by_cases e : n = i
    · subst e
      simp
    · have hne : exA n ≠ exA i := fun h => e (exA_inj (by omega) (by omega) h)
      rw [if_neg (by omega), if_neg (by omega), if_neg (by omega)]
      exact tabN_log n i (by omega) (by omega)
def logT (a : Int) : Nat := (exGen 255 1).idxOf a
theorem logT_ex (i : Nat) (hi : i < 255) : logT (exA i) = i := by
  have h := exGen_get 255 i 0 hi
  rw [Nat.zero_add] at h
  have hl : i < (exGen 255 1).length := by rw [exGen_len]; exact hi
  have he : exA i = (exGen 255 1)[i] := by
    rw [← Option.some_inj, ← h]; exact (List.getElem?_eq_getElem _)
  unfold logT
  rw [he]
  exact exGen_nodup.idxOf_getElem i hl
def mulT (a b : Int) : Int := if a = 0 then 0 else if b = 0 then 0 else exA (logT a + logT b)

section
variable {P : Program} {ops : Array Oper} {rest : List Oper} {o : Oper} {a : Act} {Q : Exit → Act → World → Prop}
theorem alloc_row_event {W : World} (hgd : o.guard = none) {N : Tmp} (_hd : o.dst = some N) {z : Array Value} {t : TypeId} (ho : o.op = .alloc t) {n : Nat} (hi : (P.info? t).map (fun i => (i.zero, i.size)) = some (some (.agg z), n))
    (h : ∀ g, g = W.heap.size → ∀ w1, w1.heap[g]? = some (.cells z t (0, 0)) → Below W.heap.size W w1 → wpList P ops Q rest (a.put o.dst (.pointer (some ⟨g, 0, none⟩))) w1) : wpList P ops Q (o :: rest) a W := by
  refine Kd.event_run hgd (w1 := W.alloc (.cells z t (0, 0))) (v := .pointer (some ⟨W.heap.size, 0, none⟩)) ?_ (h _ rfl _ (blk_new W _) (below_alloc (Below.refl _ _) _))
  obtain ⟨i, hi0, hi1⟩ := Option.map_eq_some_iff.1 hi
  simp only [Prod.mk.injEq] at hi1
  simp [execOp, ho, Instr.alloc, zeroValue, typeInfo, hi0, hi1.1, newVar, newRow, Value.cells]
end
theorem sizeT : (Try.prog.info? 97).map (·.size) = some (tabN 255).size := by
  rw [tabN_size]
  have := congrArg (Option.map Prod.snd) infoT
  simpa [Option.map_map, Function.comp_def] using this
theorem tabZ_one (v : Value) (h : v ∈ tabZ) : v.oneCell' = true := by
  have hm := List.mem_toArray.1 h
  rcases List.mem_append.1 hm with hm | hm
  · rw [(List.mem_replicate.1 hm).2]; rfl
  · rw [(List.mem_replicate.1 hm).2]; rfl
theorem tabN_one1 (n i : Nat) (v : Value) (h : (tabN n)[i]? = some v) : v.oneCell' = true := by
  induction n generalizing i v with
  | zero => exact tabZ_one v (Array.mem_of_getElem? h)
  | succ n ih =>
    rw [tabN, Array.getElem?_setIfInBounds, Array.getElem?_setIfInBounds, Array.getElem?_setIfInBounds] at h
    split at h
    · split at h
      · cases h; rfl
      · cases h
    · split at h
      · split at h
        · cases h; rfl
        · cases h
      · split at h
        · split at h
          · cases h; rfl
          · cases h
        · exact ih i v h
theorem tabN_one : (tabN 255).all (·.oneCell') = true := by
  rw [Array.all_eq_true_iff_forall_mem]
  intro v hv
  obtain ⟨i, hi⟩ := Array.getElem?_of_mem hv
  exact tabN_one1 255 i v hi
theorem below_setRow {w W : World} {g : Nat} (h : Below w.heap.size w W) (hg : w.heap.size ≤ g) (cs : Array Value) : Below w.heap.size w (W.setRow g cs) := by
  refine h.trans ⟨rfl, rfl, rfl, ?_, fun i hi => ?_⟩
  · simp
  · exact setRow_other W g i cs (by omega)
theorem cellAt {w : World} {g t : Nat} {cs : Array Value} (h : w.heap[g]? = some (.cells cs t (0, 0))) (i : Nat) (hi : i < cs.size) : ∃ o, w.cell? ⟨g, i, none⟩ = some o := ⟨cs[i], by rw [blk_cell h, Array.getElem?_eq_getElem hi]⟩
set_option maxHeartbeats 1000000 in
set_option maxRecDepth 100000 in
theorem field_build_calls (w : World) : Calls Try.prog 45 #[] w fun e w' => e = .returned (.agg (tabN 255)) ∧ Below w.heap.size w w' := by
  have hu97 := Try.underlying97
  have HB := Aside0.mk (Below.refl w.heap.size w)
  go_enter Try.func45, Try.ntmps45
  go_wp2_with (first | ((with_reducible refine gate_dst (N := 0) rfl ?_); refine alloc_row_event ?hg (N := 0) ?hd (z := tabZ) (t := 97) ?ho infoT ?_; (case hd => rfl); (case hg => rfl); (case ho => rfl); intro g0 hg0 w1 hz0 hb0; have HZ0 := Aside0.mk hz0; have HG0 := Aside0.mk (show w.heap.size ≤ g0 by rw [hg0]; exact Nat.le_refl _); have n0_ := Aside0.mk (HB.out.trans (hb0.mono HB.out.size)); clear HB; have HB := n0_; clear n0_ hg0 hz0 hb0) | ((with_reducible refine gate_dst (N := 1) rfl ?_); refine alloc_row_event ?hg (N := 1) ?hd (z := tabZ) (t := 97) ?ho infoT ?_; (case hd => rfl); (case hg => rfl); (case ho => rfl); intro g1 hg1 w2 hz1 hb1; have HZ1 := Aside0.mk hz1; have hne := (show g0 ≠ g1 by rw [hg1]; exact Nat.ne_of_lt (blk_lt HZ0.out)); have hg1' := Aside0.mk (show w.heap.size ≤ g1 by rw [hg1]; exact HB.out.size); have n1_ := Aside0.mk ((hb1.block _ (blk_lt HZ0.out)).trans HZ0.out); clear HZ0; have HZ0 := n1_; have n0_ := Aside0.mk (HB.out.trans (hb1.mono HB.out.size)); clear HB; have HB := n0_; clear n0_ n1_ hg1 hz1 hb1))
  go_loopw [2, 3, 4] (fun v2 v3 v4 w' => ∃ n : Nat, n ≤ 255 ∧ v4 = .int .i64 n ∧ v2 = .int .u8 (exA n) ∧ Aside0 (w'.heap[g1]? = some (.cells (tabN n) 97 (0, 0))) ∧ Aside0 (w'.heap[g0]? = some (.cells tabZ 97 (0, 0))) ∧ Aside0 (Below w.heap.size w w')) (fun _ _ v _ => 255 - (intOf v).toNat)
  case atStart => exact ⟨0, by omega, rfl, rfl, HZ1, HZ0, HB⟩
  case round =>
    obtain ⟨n, hn, rfl, rfl, HT, HZ, HBr⟩ := hrel
    have HE := Aside0.mk (exA_range n (by omega))
    by_cases hlt : n < 255
    · obtain ⟨o1, hc1⟩ := cellAt HT.out n (by rw [tabN_size]; omega)
      have hf1 := blk_frozen HT.out n
      have he0 := HE.out.1
      have he1 := HE.out.2
      go_wp2_with (first | ((with_reducible refine gate_store (t := 5) (p := 13) rfl ?_); refine store_event (t := 5) (p := 13) (v := ?vo_13) (w1 := (wr.setCell ⟨g1, n, none⟩ (.int .u8 (exA n)))) ?hg ?ho ?hn ?hr ?_; (case ho => rfl); (case hg => rfl); (case hn => rfl); (case hr => first | (go_simp; done) | (go_simp; rfl)); intro w5 hw; have HT5 := Aside0.mk (show w5.heap[g1]? = some (.cells ((tabN n).setIfInBounds n (.int .u8 (exA n))) 97 (0, 0)) by rw [hw]; exact heap_setCell_same _ _ _ _ _ _ HT.out); have HZ5 := Aside0.mk (show w5.heap[g0]? = some (.cells tabZ 97 (0, 0)) by rw [hw]; exact (heap_setCell_other _ _ _ _ hne).trans HZ.out); have HB5 := Aside0.mk (show Below w.heap.size w w5 by rw [hw]; exact below_set HBr.out hg1'.out); obtain ⟨o2, hc2⟩ := cellAt HT5.out (n + 255) (by simp only [Array.size_setIfInBounds, tabN_size]; omega); have hf2 := blk_frozen HT5.out (n + 255); clear hw) | ((with_reducible refine gate_store (t := 5) (p := 15) rfl ?_); refine store_event (t := 5) (p := 15) (v := ?vo_15) (w1 := (w5.setCell ⟨g1, n + 255, none⟩ (.int .u8 (exA n)))) ?hg ?ho ?hn ?hr ?_; (case ho => rfl); (case hg => rfl); (case hn => rfl); (case hr => first | (go_simp; done) | (go_simp; rfl)); intro w6 hw; have HT6 := Aside0.mk (show w6.heap[g1]? = some (.cells (((tabN n).setIfInBounds n (.int .u8 (exA n))).setIfInBounds (n + 255) (.int .u8 (exA n))) 97 (0, 0)) by rw [hw]; exact heap_setCell_same _ _ _ _ _ _ HT5.out); have HZ6 := Aside0.mk (show w6.heap[g0]? = some (.cells tabZ 97 (0, 0)) by rw [hw]; exact (heap_setCell_other _ _ _ _ hne).trans HZ5.out); have HB6 := Aside0.mk (show Below w.heap.size w w6 by rw [hw]; exact below_set HB5.out hg1'.out); obtain ⟨o3, hc3⟩ := cellAt HT6.out (510 + (exA n).toNat) (by simp only [Array.size_setIfInBounds, tabN_size]; have := HE.out; omega); have hf3 := blk_frozen HT6.out (510 + (exA n).toNat); clear hw) | ((with_reducible refine gate_store (t := 3) (p := 19) rfl ?_); refine store_event (t := 3) (p := 19) (v := ?vo_19) (w1 := (w6.setCell ⟨g1, 510 + (exA n).toNat, none⟩ (.int .i64 n))) ?hg ?ho ?hn ?hr ?_; (case ho => rfl); (case hg => rfl); (case hn => rfl); (case hr => first | (go_simp; done) | (go_simp; rfl)); intro w7 hw; have HT7 := Aside0.mk (show w7.heap[g1]? = some (.cells (tabN (n + 1)) 97 (0, 0)) by rw [hw]; exact heap_setCell_same _ _ _ _ _ _ HT6.out); have HZ7 := Aside0.mk (show w7.heap[g0]? = some (.cells tabZ 97 (0, 0)) by rw [hw]; exact (heap_setCell_other _ _ _ _ hne).trans HZ6.out); have HB7 := Aside0.mk (show Below w.heap.size w w7 by rw [hw]; exact below_set HB6.out hg1'.out); clear hw) | (go_at_call 48; refine (field_double.calls _ _ _ (dbl_f _)).mono ?_; rintro e w8 ⟨rfl, ⟨m8, rfl⟩⟩))
      go_roundw
      case rel => exact ⟨n + 1, by omega, by go_num, rfl, HT7, HZ7, ⟨pw_below_drewN HB7.out _⟩⟩
      case measure => simp [intOf]; omega
    · obtain rfl : n = 255 := by omega
      have HI := Aside0.mk sizeT
      have H1 := Aside0.mk tabN_one
      clear hu97
      go_wp2_with (first | ((with_reducible refine gate_dst (N := 23) rfl ?_); refine wpList_load_row rfl 97 (.tmp 1) rfl g1 rfl 97 (tabN 255) (0, 0) _ HT.out Try.underlying97 rfl HI.out ?_) | ((with_reducible refine gate_store (t := 97) (p := 0) rfl ?_); refine wpList_store_row rfl 97 (.tmp 0) (.tmp 23) rfl g0 (tabN 255) rfl rfl 97 tabZ HZ.out HI.out (by rw [tabZ_size, tabN_size]) H1.out ?_; generalize hw9 : wr.setRow g0 (tabN 255) = w9; have HZ9 := Aside0.mk (show w9.heap[g0]? = some (.cells (tabN 255) 97 (0, 0)) by rw [← hw9]; exact setRow_heap _ _ _ _ _ _ HZ.out); have HB9 := Aside0.mk (show Below w.heap.size w w9 by rw [← hw9]; exact below_setRow HBr.out HG0.out _); clear hw9))
      refine bodyPost_ret (v := .agg (tabN 255)) (results_cell_row rfl _ _ g0 97 (tabN 255) (0, 0) _ rfl HZ9.out Try.underlying97 rfl HI.out) rfl ⟨rfl, HB9.out⟩

theorem tab_exp (k : Nat) (h : k < 510) : (tabN 255)[k]? = some (.int .u8 (exA k)) := by
  by_cases c : k < 255
  · exact (tabN_exp 255 k (by omega) c).1
  · have h1 := (tabN_exp 255 (k - 255) (by omega) (by omega)).2
    have h2 := exA_period (k - 255)
    rw [show k - 255 + 255 = k from by omega] at h1 h2
    rw [h1, h2]
theorem log_tab (a : Int) (h0 : 0 < a) (h1 : a < 256) : logT a < 255 ∧ (tabN 255)[510 + a.toNat]? = some (.int .i64 (logT a)) := by
  obtain ⟨i, hi, rfl⟩ := exA_onto a h0 h1
  rw [logT_ex i hi]
  exact ⟨hi, tabN_log 255 i (by omega) hi⟩
set_option maxHeartbeats 1000000 in
set_option maxRecDepth 100000 in
theorem field_mul_calls (g : Nat) (a b : Int) (w : World) (hT : w.heap[g]? = some (.cells (tabN 255) 97 (0, 0))) (ha0 : 0 ≤ a) (ha : a < 256) (hb0 : 0 ≤ b) (hb : b < 256) :
    Calls Try.prog 46 #[.pointer (some ⟨g, 0, none⟩), .int .u8 a, .int .u8 b] w fun e w' => e = .returned (.int .u8 (mulT a b)) ∧ Drawn0 w w' := by
  have hu97 := Try.underlying97
  have HT := Aside0.mk hT
  clear hT
  by_cases c0 : a = 0
  · subst c0
    go_enter Try.func46, Try.ntmps46
    go_wp2
    repeat (go_quiet (fail); try go_wp2)
    go_ret
    exact ⟨rfl, by repeat (first | exact Drawn0.refl _ | apply Drawn0.step)⟩
  · have c0' : (a == 0) = false := by simpa using c0
    by_cases c1 : b = 0
    · subst c1
      have hm : mulT a 0 = 0 := by unfold mulT; rw [if_neg c0, if_pos rfl]
      rw [hm]
      clear c0
      go_enter Try.func46, Try.ntmps46
      go_wp2
      repeat (go_quiet (fail); try go_wp2)
      go_ret
      exact ⟨rfl, by repeat (first | exact Drawn0.refl _ | apply Drawn0.step)⟩
    · have c1' : (b == 0) = false := by simpa using c1
      have hm : mulT a b = exA (logT a + logT b) := by unfold mulT; rw [if_neg c0, if_neg c1]
      rw [hm]
      obtain ⟨hi, hta⟩ := log_tab a (by omega) ha
      obtain ⟨hj, htb⟩ := log_tab b (by omega) hb
      have hte := tab_exp (logT a + logT b) (by omega)
      clear c0 c1 hm
      generalize logT a = i at hi hta hte ⊢
      generalize logT b = j at hj htb hte ⊢
      have hca : w.cell? ⟨g, 510 + a.toNat, none⟩ = some (.int .i64 i) := by rw [blk_cell HT.out, hta]
      have hcb : w.cell? ⟨g, 510 + b.toNat, none⟩ = some (.int .i64 j) := by rw [blk_cell HT.out, htb]
      have hce : w.cell? ⟨g, i + j, none⟩ = some (.int .u8 (exA (i + j))) := by rw [blk_cell HT.out, hte]
      clear hta htb hte
      generalize exA (i + j) = r at hce ⊢
      go_enter Try.func46, Try.ntmps46
      go_wp2
      repeat (go_quiet (fail); try go_wp2)
      go_ret
      exact ⟨rfl, by repeat (first | exact Drawn0.refl _ | apply Drawn0.step)⟩

def inByte (a : Int) : Bool := decide (0 ≤ a) && decide (a < 256)
def field_Scale.f (c : Int) (l : List Int) : Option (List Int) := if (inByte c && l.all inByte) = true then (if l.length ≤ 281474976710656 then some (l.map (mulT c)) else none) else none
set_option maxHeartbeats 1000000 in
set_option maxRecDepth 100000 in
theorem field_Scale.calls (a0 : Int) (A1 : Option Addr) (c1 : Nat) (l1 : List Int) (r : List Int) (w : World) (hr1 : Kd.C (Kd.int .u8) w A1 l1.length l1) (hc1 : l1.length ≤ c1) (h : field_Scale.f a0 l1 = some r) :
    Calls Try.prog 36 #[.int .u8 a0, .slice A1 l1.length c1] w fun e w' => ∃ v0_ : Value, e = .returned v0_ ∧ Kd.R (Kd.int .u8) 5 w' w.heap.size (fun _ => True) v0_ r ∧ Below w.heap.size w w' := by
  have hn1 := hr1.2.1
  have HR := Aside0.mk hr1
  rw [field_Scale.f] at h
  by_cases hb : (inByte a0 && l1.all inByte) = true
  · rw [if_pos hb] at h
    by_cases hm : l1.length ≤ 281474976710656
    · rw [if_pos hm] at h
      obtain rfl := Option.some.inj h
      simp only [Bool.and_eq_true, inByte, decide_eq_true_eq, List.all_eq_true] at hb
      have HBY := Aside0.mk hb
      have HM := Aside0.mk hm
      have HI := Aside0.mk sizeT
      have H1 := Aside0.mk tabN_one
      have HB := Aside0.mk (Below.refl w.heap.size w)
      clear hr1 h hb hm
      go_enter Try.func36, Try.ntmps36
      go_wp2_with (first | (go_at_call 45; refine (field_build_calls _).mono ?_; rintro e w1 ⟨rfl, hb1⟩; have n0_ := Aside0.mk (HB.out.trans (hb1.mono HB.out.size)); clear HB hb1; have HB := n0_; clear n0_) | ((with_reducible refine gate_dst (N := 5) rfl ?_); refine alloc_row_event ?hg (N := 5) ?hd (z := tabZ) (t := 97) ?ho infoT ?_; (case hd => rfl); (case hg => rfl); (case ho => rfl); intro gt hgt w2 hz hbz; have HZ := Aside0.mk hz; have HG := Aside0.mk (show w.heap.size ≤ gt by rw [hgt]; exact HB.out.size); have n0_ := Aside0.mk (HB.out.trans (hbz.mono HB.out.size)); clear HB; have HB := n0_; clear n0_ hgt hz hbz) | ((with_reducible refine gate_store (t := 97) (p := 5) rfl ?_); refine wpList_store_row rfl 97 (.tmp 5) (.tmp 9) rfl gt (tabN 255) rfl rfl 97 tabZ HZ.out HI.out (by rw [tabZ_size, tabN_size]) H1.out ?_; generalize hw9 : w2.setRow gt (tabN 255) = w3; have HT3 := Aside0.mk (show w3.heap[gt]? = some (.cells (tabN 255) 97 (0, 0)) by rw [← hw9]; exact setRow_heap _ _ _ _ _ _ HZ.out); have n0_ := Aside0.mk (show Below w.heap.size w w3 by rw [← hw9]; exact below_setRow HB.out HG.out _); clear hw9 HB; have HB := n0_; clear n0_) | ((with_reducible refine gate_dst (N := 12) rfl ?_); refine Kd.R_make (Kd.int .u8) _ 5 rfl (N := 12) rfl 68 _ _ rfl (l1.length : Int) rfl rfl Try.underlying68 (.int .u8 0) 1 info5 rfl (by decide) (by omega) (0 : Int) (ok := fun _ => True) (okp := fun _ => True) rfl (fun _ hk => hk) trivial (by omega) ?hl (Below.refl _ _) (Nat.le_refl _) ?_; (case hl => have := HM.out; simp only [Int.toNat_natCast, Nat.mul_one]; exact this); intro u w4 ho4 hb4 hg_ hnew_; clear hg_ hnew_; have HO4 := Aside0.mk (Kd.R_lower ho4 HB.out.size); have HT4 := Aside0.mk ((hb4.block _ (blk_lt HT3.out)).trans HT3.out); have n0_ := Aside0.mk (HB.out.trans (hb4.mono HB.out.size)); clear HB ho4 hb4; have HB := n0_; clear n0_))
      go_loopw [7, 8, 15] (fun v7 v8 v15 w' => ∃ (i : Nat) (xs : List Int), i ≤ l1.length ∧ v15 = .int .i64 i ∧ Aside0 (xs = (l1.take i).map (mulT a0) ++ List.replicate (l1.length - i) 0) ∧ Aside0 (Kd.R (Kd.int .u8) 5 w' w.heap.size (fun _ => True) u xs) ∧ Aside0 (w'.heap[gt]? = some (.cells (tabN 255) 97 (0, 0))) ∧ Aside0 (Below w.heap.size w w')) (fun _ _ v _ => l1.length - (intOf v).toNat)
      case atStart => exact ⟨0, _, Nat.zero_le _, rfl, ⟨rfl⟩, ⟨by simpa using HO4.out⟩, HT4, HB⟩
      case round =>
        obtain ⟨i, xs, hi, rfl, HX, HO, HT, HBr⟩ := hrel
        have hxl : xs.length = l1.length := by rw [HX.out]; simp; omega
        by_cases hlt : i < l1.length
        · obtain ⟨ad, e1, hx⟩ := Kd.at_int (Kd.C_below HR.out HBr.out) (i : Int) (by omega) (by omega)
          cases e1
          simp only [Int.toNat_natCast] at hx
          have hel : rd l1 i = l1[i] := by simp [rd, hlt]
          have hmem := HBY.out.2 l1[i] (List.getElem_mem hlt)
          rw [← hel] at hmem
          obtain ⟨Ao, co, eo⟩ := Kd.R_slice HO.out
          subst eo
          obtain ⟨g, cg, eg, gb, gl, cl, HG5⟩ := Kd.R_form HO.out (by omega)
          cases eg
          have HMU := Aside0.mk (fun W hW => field_mul_calls gt a0 (rd l1 i) W hW HBY.out.1.1 HBY.out.1.2 hmem.1 hmem.2)
          have HNX := Aside0.mk (show xs.set i (mulT a0 (rd l1 i)) = (l1.take (i + 1)).map (mulT a0) ++ List.replicate (l1.length - (i + 1)) 0 by
            rw [HX.out, hel, List.take_succ_eq_append_getElem hlt, List.map_append, show l1.length - i = (l1.length - (i + 1)) + 1 from by omega, List.replicate_succ, List.set_append]
            simp [Nat.min_eq_left (Nat.le_of_lt hlt)])
          have hgt := blk_ne HG5 HT.out (by decide)
          have HXL := Aside0.mk hxl
          have hxl1 : l1.length ≤ xs.length := by omega
          have hj : (i : Int) < (xs.length : Int) := by omega
          clear hel hmem HG5 hxl
          generalize rd l1 (i : Int) = b at hx HMU HNX
          go_wp2_with (first | (go_at_call 46; refine (HMU.out _ HT.out).mono ?_; rintro e w5 ⟨rfl, ⟨m5, rfl⟩⟩; obtain ⟨hc5, hf5⟩ := Kd.R_celln 0 (Kd.R_drewN HO.out m5) (i : Int) (by omega) hj; simp only [Int.toNat_natCast] at hc5 hf5))
          go_roundw
          case rel => exact ⟨i + 1, xs.set i (mulT a0 b), by omega, by go_num, HNX, ⟨by have h9 := (Kd.R_putg (enc := Value.int .u8) (h1 := fun _ => rfl) (Kd.R_drewN HO.out m5) (i : Int) (mulT a0 b)).1; simp only [Int.toNat_natCast] at h9; exact h9⟩, ⟨(heap_setCell_other _ _ _ _ (fun e => hgt e.symm)).trans HT.out⟩, ⟨below_set (pw_below_drewN HBr.out m5) gb⟩⟩
          case measure => simp [intOf]; omega
        · have hx2 := HX.out
          rw [List.take_of_length_le (by omega), show l1.length - i = 0 from by omega, List.replicate_zero, List.append_nil] at hx2
          go_wp2
          go_ret
          exact ⟨_, rfl, by rw [← hx2]; exact HO.out, HBr.out⟩
    · rw [if_neg hm] at h; cases h
  · rw [if_neg hb] at h; cases h

-- NOT PRINTED: function 24 (regs_machine_do)

-- NOT PRINTED: function 37 (slices_IndexFunc_byte_byte)

-- NOT PRINTED: function 25 (slices_ContainsFunc_byte_byte)

-- NOT PRINTED: function 12 (regs_Run)

/-! ### recoupref01_Copy: function 27 -/
def recoupref01_Copy.f (l0 : List Int) : Option (List Int) := (some (([] : List Int) : List Int)).bind fun y223 => (if y223.length + l0.length < 140737488355328 then (some (y223 ++ l0)) else (none))
set_option maxHeartbeats 8000000 in
set_option maxRecDepth 100000 in
theorem recoupref01_Copy.calls (A0 : Option Addr) (c0 : Nat) (l0 : List Int) (r : List Int) (w : World) (hr0 : Kd.C (Kd.int .u8) w A0 l0.length l0) (hc0 : l0.length ≤ c0) (h : recoupref01_Copy.f l0 = some r) :
  Calls Try.prog 27 #[.slice A0 l0.length c0] w fun e w' => ∃ v0_ : Value, e = .returned (v0_) ∧ Kd.R (Kd.int .u8) 5 w' w.heap.size (fun _ => True) v0_ r ∧ Below w.heap.size w w' := by
 have HR0 := Aside0.mk hr0
 have HC0 := Aside0.mk hc0
 clear hr0 hc0
 have HB := Aside0.mk (Below.refl w.heap.size w)
 have H : ((some (([] : List Int) : List Int)).bind fun y223 => (if y223.length + l0.length < 140737488355328 then (some (y223 ++ l0)) else (none))) = some r := h
 clear h
 obtain ⟨y223, hy223⟩ : ∃ y_ : List Int, y_ = (([] : List Int)) := ⟨_, rfl⟩
 replace H : (if y223.length + l0.length < 140737488355328 then (some (y223 ++ l0)) else (none)) = some r := by first | (rw [hy223]; with_reducible exact H) | (have H2_ := (Option.bind_some _ _).symm.trans H; rw [hy223]; with_reducible exact H2_) | (have H2_ := (Option.bind_some _ _).symm.trans H; with_reducible exact H2_) | with_reducible exact H | (rw [hy223]; exact H) | exact H
 have Ny223 := Aside0.mk hy223
 clear hy223
 by_cases c2 : y223.length + l0.length < 140737488355328
 ·rw [if_pos c2] at H
  have LMc2 := Aside0.mk c2
  clear c2
  obtain ⟨y226, hy226⟩ : ∃ y_ : List Int, y_ = (y223 ++ l0) := ⟨_, rfl⟩
  replace H : (some y226) = some r := by first | (rw [hy226]; with_reducible exact H) | (have H2_ := (Option.bind_some _ _).symm.trans H; rw [hy226]; with_reducible exact H2_) | (have H2_ := (Option.bind_some _ _).symm.trans H; with_reducible exact H2_) | with_reducible exact H | (rw [hy226]; exact H) | exact H
  have Ny226 := Aside0.mk hy226
  clear hy226
  obtain rfl := Option.some.inj H
  go_enter Try.func27, Try.ntmps27
  go_wp2_with (first | ((with_reducible refine gate_dst (N := 3) rfl ?_); refine Kd.R_lit (Kd.int .u8) _ 5 ?hg (N := 3) ?hd (xs := ([] : List Int)) (inner := []) (ok := fun _ => True) (okp := fun _ => True) ?hr ?hp (fun _ hk => hk) trivial (Below.refl _ _) (Nat.le_refl _) (by simp) ?_; (case hd => rfl); (case hg => rfl); (case hr => first | (go_simp; done) | (go_simp; rfl)); (case hp => exact (Reps.none _ _)); intro v224 w3 ho4 hb hg_ hnew_; clear hg_ hnew_; (first | rw [← Ny223.out] at ho4 | (simp only [Int.reduceToNat] at ho4; rw [← Ny223.out] at ho4)); have n0_ := Aside0.mk (Kd.R_lower ho4 (below_size (by repeat (first | (with_reducible first | exact HB.out | apply below_alloc | apply pw_below_drewN | apply below_drew1) | exact HB.out)))); have n1_ := Aside0.mk (below_step (by repeat (first | (with_reducible first | exact HB.out | apply below_alloc | apply pw_below_drewN | apply below_drew1) | exact HB.out)) hb); clear HB; have HO225 := n0_; have HB := n1_; clear n0_ n1_; clear hb ho4) | ((with_reducible refine gate_builtin (b := .append) (xs := #[.tmp 3, .tmp 4]) rfl ?_); at_builtin; refine Kd.R_append_rows (Kd.int .u8) (w0 := w) w.heap.size rfl (.tmp 3) (.tmp 4) 68 5 (.int .u8 0) 1 rfl Try.underlying68 info5 rfl (by decide) (by omega) v224 y223 l0 _ _ _ (fun _ => True) (fun _ => False) rfl rfl ?aO ?aR (fun _ _ h => h) (fun _ h => h.elim) ?aF ?aB ?aS ?aL ?_; (case aR => repeat (first | exact (Kd.C_below HR0.out HB.out) | (with_reducible refine Kd.C_alloc ?_ _) | (with_reducible refine Kd.C_drewN ?_ _) | (with_reducible refine Kd.C_drew ?_))); (case aB => exact (by repeat (first | (with_reducible first | exact HB.out | apply below_alloc | apply pw_below_drewN | apply below_drew1) | exact HB.out))); (case aF => exact (fun _ _ => trivial)); (case aO => exact (by (with_reducible repeat (first | apply Kd.R_alloc | apply Kd.R_drewN | apply Kd.R_drew)); exact HO225.out)); (case aS => exact (below_size (by repeat (first | (with_reducible first | exact HB.out | apply below_alloc | apply pw_below_drewN | apply below_drew1) | exact HB.out)))); (case aL => have := LMc2.out; omega); intro v227 w5 ho hb hg hat; rw [← Ny226.out] at ho; have n0_ := Aside0.mk (hb); have n1_ := Aside0.mk (ho); clear HB; clear HO225; have HB := n0_; have HO228 := n1_; clear n0_ n1_; clear ho hb hg hat))
  go_ret
  exact ⟨_, by first | rfl | (simp [errW_none, errW_some] <;> rfl) | (simp [*, errW_none, errW_some] <;> rfl), by (with_reducible repeat (first | apply Kd.R_alloc | apply Kd.R_drewN | apply Kd.R_drew)); exact HO228.out, by repeat (first | (with_reducible first | exact HB.out | apply below_alloc | apply pw_below_drewN | apply below_drew1) | exact HB.out)⟩
 ·rw [if_neg c2] at H
  exact absurd H (by simp)

/-! ### recoupref01_Mul: function 38 -/
mutual
def recoupref01_Mul.l0 : Nat → Int → Int → Int → Int → Option (Int)
 | 0, _, _, _, _ => none
 | k + 1, x0, x1, x5, x6 => if x6 < 8 then (if 0 ≤ (IntKind.u64.wrap (x6)) then (if (Go.bits .and .u8 (shr .u8 x1 (IntKind.u64.wrap (x6))) 1) = 1 then (recoupref01_Mul.l0 k x0 x1 (Go.bits .xor .i64 x5 (shl .i64 (wrap64 (x0)) (IntKind.u64.wrap (x6)))) (wrap64 (x6 + 1))) else (recoupref01_Mul.l0 k x0 x1 x5 (wrap64 (x6 + 1)))) else (none)) else (recoupref01_Mul.l1 k x5 14)
def recoupref01_Mul.l1 : Nat → Int → Int → Option (Int)
 | 0, _, _ => none
 | k + 1, x5, x7 => if x7 ≥ 8 then (if 0 ≤ (IntKind.u64.wrap (x7)) then (if (Go.bits .and .i64 (shr .i64 x5 (IntKind.u64.wrap (x7))) 1) = 1 then (if 0 ≤ (IntKind.u64.wrap (wrap64 (x7 - 8))) then (recoupref01_Mul.l1 k (Go.bits .xor .i64 x5 (shl .i64 285 (IntKind.u64.wrap (wrap64 (x7 - 8))))) (wrap64 (x7 - 1))) else (none)) else (recoupref01_Mul.l1 k x5 (wrap64 (x7 - 1)))) else (none)) else (some ((x5) % 256))
end
def recoupref01_Mul.f (k : Nat) (a0 : Int) (a1 : Int) : Option (Int) := recoupref01_Mul.l0 k a0 a1 0 0
set_option maxHeartbeats 8000000 in
set_option maxRecDepth 100000 in
theorem recoupref01_Mul.calls (k : Nat) (a0 : Int) (a1 : Int) (r : Int) (w : World) (h : recoupref01_Mul.f k a0 a1 = some r) :
  Calls Try.prog 38 #[.int .u8 a0, .int .u8 a1] w fun e w' => e = .returned (.int .u8 r) ∧ Drawn0 w w' := by
 have H : (recoupref01_Mul.l0 k a0 a1 0 0) = some r := h
 clear h
 have H' := Aside0.mk H
 clear H
 go_enter Try.func38, Try.ntmps38
 go_wp2
 go_loopg [5, 6] k (fun kq v5 v6 w' => ∃ (x5_1 : Int) (x6_1 : Int), v5 = .int .i64 x5_1 ∧ v6 = .int .i64 x6_1 ∧ Aside0 (recoupref01_Mul.l0 kq a0 a1 x5_1 x6_1 = some r) ∧ Aside0 (kq ≤ k) ∧ Drawn0 w w')
 case atStart => exact ⟨(0), (0), (by first | rfl | (simp; done) | (simp [*]; done)), (by first | rfl | (simp; done) | (simp [*]; done)), H', ⟨Nat.le_refl _⟩, by repeat (first | exact Drawn0.refl _ | apply Drawn0.step)⟩
 case round =>
  clear H'
  try clear p2
  obtain ⟨x5_1, x6_1, rfl, rfl, HA, HK1, ⟨m1, rfl⟩⟩ := hrel
  cases gk with
  | zero => exact absurd HA.out (by simp [recoupref01_Mul.l0])
  | succ k1 =>
   have H := HA.out
   clear HA
   simp only [recoupref01_Mul.l0] at H
   by_cases c3 : x6_1 < 8
   ·rw [if_pos c3] at H
    have c3b0 : decide (x6_1 < 8) = true := decide_eq_true c3
    clear c3
    obtain ⟨ji4, hji4⟩ : ∃ j_ : Int, (IntKind.u64.wrap (x6_1)) = j_ := ⟨_, rfl⟩
    replace H : (if 0 ≤ (ji4) then (if (Go.bits .and .u8 (shr .u8 a1 (ji4)) 1) = 1 then (recoupref01_Mul.l0 k1 a0 a1 (Go.bits .xor .i64 x5_1 (shl .i64 (wrap64 (a0)) (ji4))) (wrap64 (x6_1 + 1))) else (recoupref01_Mul.l0 k1 a0 a1 x5_1 (wrap64 (x6_1 + 1)))) else (none)) = some r := by first | (rw [hji4] at H; exact H) | (simp only [hji4] at H ⊢; exact H)
    by_cases c5 : 0 ≤ (ji4)
    ·rw [if_pos c5] at H
     have c5b0 := eq_true c5
     have c5b1 : decide (0 ≤ (ji4)) = true := decide_eq_true c5
     clear c5
     obtain ⟨ji6, hji6⟩ : ∃ j_ : Int, (shr .u8 a1 (ji4)) = j_ := ⟨_, rfl⟩
     replace H : (if (Go.bits .and .u8 (ji6) 1) = 1 then (recoupref01_Mul.l0 k1 a0 a1 (Go.bits .xor .i64 x5_1 (shl .i64 (wrap64 (a0)) (ji4))) (wrap64 (x6_1 + 1))) else (recoupref01_Mul.l0 k1 a0 a1 x5_1 (wrap64 (x6_1 + 1)))) = some r := by first | (rw [hji6] at H; exact H) | (simp only [hji6] at H ⊢; exact H)
     have hji6_ : (a1 / 2 ^ min (ji4).toNat 8) = ji6 := hji6
     have hji6z : (ji4) ≤ 8 → (a1 / 2 ^ (ji4).toNat) = ji6 := shr_small hji6
     by_cases c7 : (Go.bits .and .u8 (ji6) 1) = 1
     ·rw [if_pos c7] at H
      have c7b0 : ((Go.bits .and .u8 (ji6) 1) == 1) = true := beq_iff_eq.mpr c7
      have c7b1 : ((Go.bits .and .u8 (ji6) 1) != 1) = false := bne_eq_false_iff_eq.mpr c7
      clear c7
      have c8b0 := eq_true (of_decide_eq_true (by first | (with_reducible assumption) | assumption) : 0 ≤ (ji4))
      obtain ⟨ji9, hji9⟩ : ∃ j_ : Int, (shl .i64 (wrap64 (a0)) (ji4)) = j_ := ⟨_, rfl⟩
      replace H : (recoupref01_Mul.l0 k1 a0 a1 (Go.bits .xor .i64 x5_1 (ji9)) (wrap64 (x6_1 + 1))) = some r := by first | (rw [hji9] at H; exact H) | (simp only [hji9] at H ⊢; exact H)
      have hji9_ : (IntKind.i64.wrap ((wrap64 (a0)) * 2 ^ min (ji4).toNat 64)) = ji9 := hji9
      have hji9z : (ji4) ≤ 64 → (IntKind.i64.wrap ((wrap64 (a0)) * 2 ^ (ji4).toNat)) = ji9 := shl_small hji9
      have hji9y : (wrap64 ((wrap64 (a0)) * 2 ^ min (ji4).toNat 64)) = ji9 := (i64_w _).symm.trans hji9_
      have hji9x : (ji4) ≤ 64 → (wrap64 ((wrap64 (a0)) * 2 ^ (ji4).toNat)) = ji9 := fun h_ => (i64_w _).symm.trans (hji9z h_)
      have H' := Aside0.mk H
      clear H
      go_wp2
      go_roundg k1
      case measure => have := HK1.out; omega
      case rel => exact ⟨(Go.bits .xor .i64 x5_1 (ji9)), (wrap64 (x6_1 + 1)), (by first | rfl | (simp; done) | (simp only [← hji9] <;> (first | rfl | simp)) | (simp [*]; done)), (by first | rfl | (simp; done) | (simp [*]; done)), H', ⟨by have := HK1.out; omega⟩, by repeat (first | exact Drawn0.refl _ | apply Drawn0.step)⟩
     ·rw [if_neg c7] at H
      have c7b0 : ((Go.bits .and .u8 (ji6) 1) == 1) = false := beq_eq_false_iff_ne.mpr c7
      have c7b1 : ((Go.bits .and .u8 (ji6) 1) != 1) = true := bne_iff_ne.mpr c7
      have H' := Aside0.mk H
      clear H
      go_wp2
      go_roundg k1
      case measure => have := HK1.out; omega
      case rel => exact ⟨(x5_1), (wrap64 (x6_1 + 1)), (by first | rfl | (simp; done) | (simp [*]; done)), (by first | rfl | (simp; done) | (simp [*]; done)), H', ⟨by have := HK1.out; omega⟩, by repeat (first | exact Drawn0.refl _ | apply Drawn0.step)⟩
    ·rw [if_neg c5] at H
     exact absurd H (by simp)
   ·rw [if_neg c3] at H
    have c3b0 : decide (x6_1 < 8) = false := decide_eq_false c3
    clear c3
    have H' := Aside0.mk H
    clear H
    go_wp2
    go_loopg [5, 7] k1 (fun kq v5 v7 w' => ∃ (x5_2 : Int) (x7_2 : Int), v5 = .int .i64 x5_2 ∧ v7 = .int .i64 x7_2 ∧ Aside0 (recoupref01_Mul.l1 kq x5_2 x7_2 = some r) ∧ Aside0 (kq ≤ k1) ∧ Drawn0 w w')
    case atStart => exact ⟨(x5_1), (14), (by first | rfl | (simp; done) | (simp [*]; done)), (by first | rfl | (simp; done) | (simp [*]; done)), H', ⟨Nat.le_refl _⟩, by repeat (first | exact Drawn0.refl _ | apply Drawn0.step)⟩
    case round =>
     clear H'
     try clear p2
     try clear c3
     try clear c3b0
     try clear c5
     try clear c5b0
     try clear c5b1
     try clear p6
     try clear c7
     try clear c7b0
     try clear c7b1
     try clear c8
     try clear c8b0
     try clear p2
     obtain ⟨x5_2, x7_2, rfl, rfl, HA, HK2, ⟨m2, rfl⟩⟩ := hrel
     cases gk with
     | zero => exact absurd HA.out (by simp [recoupref01_Mul.l1])
     | succ k2 =>
      have H := HA.out
      clear HA
      simp only [recoupref01_Mul.l1] at H
      by_cases c10 : x7_2 ≥ 8
      ·rw [if_pos c10] at H
       have c10b0 : decide (8 ≤ x7_2) = true := decide_eq_true c10
       clear c10
       obtain ⟨ji11, hji11⟩ : ∃ j_ : Int, (IntKind.u64.wrap (x7_2)) = j_ := ⟨_, rfl⟩
       replace H : (if 0 ≤ (ji11) then (if (Go.bits .and .i64 (shr .i64 x5_2 (ji11)) 1) = 1 then (if 0 ≤ (IntKind.u64.wrap (wrap64 (x7_2 - 8))) then (recoupref01_Mul.l1 k2 (Go.bits .xor .i64 x5_2 (shl .i64 285 (IntKind.u64.wrap (wrap64 (x7_2 - 8))))) (wrap64 (x7_2 - 1))) else (none)) else (recoupref01_Mul.l1 k2 x5_2 (wrap64 (x7_2 - 1)))) else (none)) = some r := by first | (rw [hji11] at H; exact H) | (simp only [hji11] at H ⊢; exact H)
       by_cases c12 : 0 ≤ (ji11)
       ·rw [if_pos c12] at H
        have c12b0 := eq_true c12
        have c12b1 : decide (0 ≤ (ji11)) = true := decide_eq_true c12
        clear c12
        obtain ⟨ji13, hji13⟩ : ∃ j_ : Int, (shr .i64 x5_2 (ji11)) = j_ := ⟨_, rfl⟩
        replace H : (if (Go.bits .and .i64 (ji13) 1) = 1 then (if 0 ≤ (IntKind.u64.wrap (wrap64 (x7_2 - 8))) then (recoupref01_Mul.l1 k2 (Go.bits .xor .i64 x5_2 (shl .i64 285 (IntKind.u64.wrap (wrap64 (x7_2 - 8))))) (wrap64 (x7_2 - 1))) else (none)) else (recoupref01_Mul.l1 k2 x5_2 (wrap64 (x7_2 - 1)))) = some r := by first | (rw [hji13] at H; exact H) | (simp only [hji13] at H ⊢; exact H)
        have hji13_ : (x5_2 / 2 ^ min (ji11).toNat 64) = ji13 := hji13
        have hji13z : (ji11) ≤ 64 → (x5_2 / 2 ^ (ji11).toNat) = ji13 := shr_small hji13
        by_cases c14 : (Go.bits .and .i64 (ji13) 1) = 1
        ·rw [if_pos c14] at H
         have c14b0 : ((Go.bits .and .i64 (ji13) 1) == 1) = true := beq_iff_eq.mpr c14
         have c14b1 : ((Go.bits .and .i64 (ji13) 1) != 1) = false := bne_eq_false_iff_eq.mpr c14
         clear c14
         obtain ⟨ji15, hji15⟩ : ∃ j_ : Int, (IntKind.u64.wrap (wrap64 (x7_2 - 8))) = j_ := ⟨_, rfl⟩
         replace H : (if 0 ≤ (ji15) then (recoupref01_Mul.l1 k2 (Go.bits .xor .i64 x5_2 (shl .i64 285 (ji15))) (wrap64 (x7_2 - 1))) else (none)) = some r := by first | (rw [hji15] at H; exact H) | (simp only [hji15] at H ⊢; exact H)
         by_cases c16 : 0 ≤ (ji15)
         ·rw [if_pos c16] at H
          have c16b0 := eq_true c16
          have c16b1 : decide (0 ≤ (ji15)) = true := decide_eq_true c16
          clear c16
          obtain ⟨ji17, hji17⟩ : ∃ j_ : Int, (shl .i64 285 (ji15)) = j_ := ⟨_, rfl⟩
          replace H : (recoupref01_Mul.l1 k2 (Go.bits .xor .i64 x5_2 (ji17)) (wrap64 (x7_2 - 1))) = some r := by first | (rw [hji17] at H; exact H) | (simp only [hji17] at H ⊢; exact H)
          have hji17_ : (IntKind.i64.wrap (285 * 2 ^ min (ji15).toNat 64)) = ji17 := hji17
          have hji17z : (ji15) ≤ 64 → (IntKind.i64.wrap (285 * 2 ^ (ji15).toNat)) = ji17 := shl_small hji17
          have hji17y : (wrap64 (285 * 2 ^ min (ji15).toNat 64)) = ji17 := (i64_w _).symm.trans hji17_
          have hji17x : (ji15) ≤ 64 → (wrap64 (285 * 2 ^ (ji15).toNat)) = ji17 := fun h_ => (i64_w _).symm.trans (hji17z h_)
          have H' := Aside0.mk H
          clear H
          go_wp2
          go_roundg k2
          case measure => have := HK1.out; have := HK2.out; omega
          case rel => exact ⟨(Go.bits .xor .i64 x5_2 (ji17)), (wrap64 (x7_2 - 1)), (by first | rfl | (simp; done) | (simp only [← hji17] <;> (first | rfl | simp)) | (simp [*]; done)), (by first | rfl | (simp; done) | (simp [*]; done)), H', ⟨by have := HK1.out; have := HK2.out; omega⟩, by repeat (first | exact Drawn0.refl _ | apply Drawn0.step)⟩
         ·rw [if_neg c16] at H
          exact absurd H (by simp)
        ·rw [if_neg c14] at H
         have c14b0 : ((Go.bits .and .i64 (ji13) 1) == 1) = false := beq_eq_false_iff_ne.mpr c14
         have c14b1 : ((Go.bits .and .i64 (ji13) 1) != 1) = true := bne_iff_ne.mpr c14
         have H' := Aside0.mk H
         clear H
         go_wp2
         go_roundg k2
         case measure => have := HK1.out; have := HK2.out; omega
         case rel => exact ⟨(x5_2), (wrap64 (x7_2 - 1)), (by first | rfl | (simp; done) | (simp [*]; done)), (by first | rfl | (simp; done) | (simp [*]; done)), H', ⟨by have := HK1.out; have := HK2.out; omega⟩, by repeat (first | exact Drawn0.refl _ | apply Drawn0.step)⟩
       ·rw [if_neg c12] at H
        exact absurd H (by simp)
      ·rw [if_neg c10] at H
       have c10b0 : decide (8 ≤ x7_2) = false := decide_eq_false c10
       clear c10
       obtain rfl := Option.some.inj H
       go_wp2
       go_ret
       exact ⟨by first | rfl | (simp; done) | (simp [*]; done), by repeat (first | exact Drawn0.refl _ | apply Drawn0.step)⟩

/-! ### recoupref01_Mac: function 28 -/
def recoupref01_Mac.l0 : Nat → List Int → Int → List Int → List Int → Int → Option (List Int × Int)
 | 0, _, _, _, _, _ => none
 | k + 1, x0, x1, x2, x8, x9 => if x9 < (x2.length : Int) then (if 0 ≤ x9 then (if x9 < (x0.length : Int) then ((recoupref01_Mul.f k x1 (rd x2 x9)).bind fun t231 => (if x8.length < 140737488355328 then (recoupref01_Mac.l0 k x0 x1 x2 (x8 ++ [Go.bits .xor .u8 (rd x0 x9) t231]) (wrap64 (x9 + 1))) else (none))) else (none)) else (none)) else (some (x8, 0))
def recoupref01_Mac.f (k : Nat) (l0 : List Int) (a1 : Int) (l2 : List Int) : Option (List Int × Int) := if (l0.length : Int) = (l2.length : Int) then (recoupref01_Mac.l0 k l0 a1 l2 ([] : List Int) 0) else (some (([] : List Int), 3))
def recoupref01_Mac.T7 : Bool × List (List Nat × List Nat) := (true, [([], []), ([], []), ([], []), ([1, 2], [1, 2]), ([3], [3]), ([], []), ([], []), ([], []), ([6, 7], [6, 7]), ([8], [8]), ([5, 9], [5, 9]), ([4, 10], [4, 10]), ([11], [11]), ([0, 12, 10], [0, 12]), ([13, 13, 0, 1, 2, 3, 4, 5, 6, 7, 8, 9, 10, 11, 12, 13], [0, 13])])
def recoupref01_Mac.B7 : List Nat := [0, 0, 0, 6, 14, 0, 0, 0, 192, 448, 992, 2046, 4094, 8191, 16383]
theorem recoupref01_Mac.tab7 : rtab .any (opsOf Try.f28 7) = recoupref01_Mac.T7 := by kernel_rfl
theorem recoupref01_Mac.bits7 : waitsOk recoupref01_Mac.T7.2 recoupref01_Mac.B7 = true := by kernel_rfl
set_option maxHeartbeats 8000000 in
set_option maxRecDepth 100000 in
theorem recoupref01_Mac.calls (k : Nat) (A0 : Option Addr) (c0 : Nat) (l0 : List Int) (a1 : Int) (A2 : Option Addr) (c2 : Nat) (l2 : List Int) (r1 : List Int) (r2 : Int) (w : World) (hr0 : Kd.C (Kd.int .u8) w A0 l0.length l0) (hc0 : l0.length ≤ c0) (hr2 : Kd.C (Kd.int .u8) w A2 l2.length l2) (hc2 : l2.length ≤ c2) (h : recoupref01_Mac.f k l0 a1 l2 = some (r1, r2)) :
  Calls Try.prog 28 #[.slice A0 l0.length c0, .int .u8 a1, .slice A2 l2.length c2] w fun e w' => ∃ v0_ : Value, e = .returned (.tuple #[v0_, .int .i64 r2]) ∧ Kd.R (Kd.int .u8) 5 w' w.heap.size (fun _ => True) v0_ r1 ∧ Below w.heap.size w w' := by
 have HR0 := Aside0.mk hr0
 have HC0 := Aside0.mk hc0
 clear hr0 hc0
 have HR2 := Aside0.mk hr2
 have HC2 := Aside0.mk hc2
 clear hr2 hc2
 have HB := Aside0.mk (Below.refl w.heap.size w)
 have H : (if (l0.length : Int) = (l2.length : Int) then (recoupref01_Mac.l0 k l0 a1 l2 ([] : List Int) 0) else (some (([] : List Int), 3))) = some (r1, r2) := h
 clear h
 by_cases c4 : (l0.length : Int) = (l2.length : Int)
 ·rw [if_pos c4] at H
  have c4b0 : ((l0.length : Int) == (l2.length : Int)) = true := beq_iff_eq.mpr c4
  have c4b1 : ((l0.length : Int) != (l2.length : Int)) = false := bne_eq_false_iff_eq.mpr c4
  have c4b2 : (l0.length == l2.length) = true := by first | simpa using c4 | (simp at c4 ⊢; omega)
  clear c4
  have H' := Aside0.mk H
  clear H
  go_enter Try.func28, Try.ntmps28
  go_wp2
  go_loopg [8, 9] k (fun kq v8 v9 w' => ∃ (x8_1 : List Int) (x9_1 : Int), v9 = .int .i64 x9_1 ∧ Aside0 (recoupref01_Mac.l0 kq l0 a1 l2 x8_1 x9_1 = some (r1, r2)) ∧ Aside0 (kq ≤ k) ∧ Aside0 (Kd.R (Kd.int .u8) 5 w' w.heap.size (fun _ => True) v8 x8_1) ∧ Aside0 (Below w.heap.size w w'))
  case atStart => exact ⟨(([] : List Int)), (0), (by first | rfl | (simp; done) | (simp [*]; done)), H', ⟨Nat.le_refl _⟩, ⟨by first | exact Kd.R_nil _ _ _ _ _ | exact Kd.N_nil _ _ _ _ _ | exact Kd.V_nil _ _ _ _ _ | exact Kd.Q_nil _ _ _ _ _ | exact Kd.S_nil _ _ _ _ _⟩, ⟨by repeat (first | (with_reducible first | exact HB.out | apply below_alloc | apply pw_below_drewN | apply below_drew1) | exact HB.out)⟩⟩
  case round =>
   clear H'
   try clear c2
   try clear p2
   try clear c4
   try clear c4b0
   try clear c4b1
   try clear c4b2
   obtain ⟨x8_1, x9_1, rfl, HA, HK1, HO_8, HB⟩ := hrel
   cases gk with
   | zero => exact absurd HA.out (by simp [recoupref01_Mac.l0])
   | succ k1 =>
    have H := HA.out
    clear HA
    simp only [recoupref01_Mac.l0] at H
    by_cases c5 : x9_1 < (l2.length : Int)
    ·rw [if_pos c5] at H
     have c5b0 : decide (x9_1 < (l2.length : Int)) = true := decide_eq_true c5
     clear c5
     by_cases c6 : 0 ≤ x9_1
     ·rw [if_pos c6] at H
      have c6b0 : decide (0 ≤ x9_1) = true := decide_eq_true c6
      clear c6
      by_cases c7 : x9_1 < (l0.length : Int)
      ·rw [if_pos c7] at H
       have c7b0 : decide (x9_1 < (l0.length : Int)) = true := decide_eq_true c7
       clear c7
       replace H := Option.bind_eq_some_iff.mp H
       obtain ⟨t231, A80, H⟩ := H
       replace H : (if x8_1.length < 140737488355328 then (recoupref01_Mac.l0 k1 l0 a1 l2 (x8_1 ++ [Go.bits .xor .u8 (rd l0 x9_1) t231]) (wrap64 (x9_1 + 1))) else (none)) = some (r1, r2) := H
       have A8 := Aside0.mk A80
       clear A80
       by_cases c9 : x8_1.length < 140737488355328
       ·rw [if_pos c9] at H
        have LMc9 := Aside0.mk c9
        clear c9
        obtain ⟨y232, hy232⟩ : ∃ y_ : List Int, y_ = (x8_1 ++ [Go.bits .xor .u8 (rd l0 x9_1) t231]) := ⟨_, rfl⟩
        replace H : (recoupref01_Mac.l0 k1 l0 a1 l2 y232 (wrap64 (x9_1 + 1))) = some (r1, r2) := by first | (rw [hy232]; with_reducible exact H) | (have H2_ := (Option.bind_some _ _).symm.trans H; rw [hy232]; with_reducible exact H2_) | (have H2_ := (Option.bind_some _ _).symm.trans H; with_reducible exact H2_) | with_reducible exact H | (rw [hy232]; exact H) | exact H
        have Ny232 := Aside0.mk hy232
        clear hy232
        have H' := Aside0.mk H
        clear H
        try go_wp2
        have n0_ := Aside0.mk (Kd.R_drew HO_8.out)
        have n1_ := Aside0.mk (below_drew1 HB.out)
        clear HO_8
        clear HB
        have HO_8 := n0_
        have HB := n1_
        clear n0_ n1_
        have p229 : 0 ≤ (x9_1 : Int) := of_decide_eq_true (by first | (with_reducible assumption) | assumption)
        have q229 : x9_1 < (l0.length : Int) := of_decide_eq_true (by first | (with_reducible assumption) | assumption)
        obtain ⟨ad229, e229, hx229_0⟩ := Kd.at_int HR0.out x9_1 p229 q229
        have hw229_0 := hx229_0
        cases e229
        replace hx229_0 := (HB.out.cell (World.block_lt_of_cell? w _ hx229_0)).trans hx229_0
        replace p229 := eq_true p229
        replace q229 := eq_true q229
        have p230 : 0 ≤ (x9_1 : Int) := of_decide_eq_true (by first | (with_reducible assumption) | assumption)
        have q230 : x9_1 < (l2.length : Int) := of_decide_eq_true (by first | (with_reducible assumption) | assumption)
        obtain ⟨ad230, e230, hx230_0⟩ := Kd.at_int HR2.out x9_1 p230 q230
        have hw230_0 := hx230_0
        cases e230
        replace hx230_0 := (HB.out.cell (World.block_lt_of_cell? w _ hx230_0)).trans hx230_0
        replace p230 := eq_true p230
        replace q230 := eq_true q230
        refine start_ (n := 15) (S := fun w' => w'.cell? (ad229.add (x9_1).toNat) = some (.int .u8 (rd l0 x9_1)) ∧ w'.cell? (ad230.add (x9_1).toNat) = some (.int .u8 (rd l2 x9_1))) (ds := []) #[false, false, false, false, false, false, false, false, false, false, false, false, false, false, false] (by kernel_rfl) rfl rfl ⟨((HB.out.cell (World.block_lt_of_cell? w _ hw229_0)).trans hw229_0), ((HB.out.cell (World.block_lt_of_cell? w _ hw230_0)).trans hw230_0)⟩ (fun hHeld => ?_); refine with_tabW recoupref01_Mac.tab7 recoupref01_Mac.bits7 (fun HT_ HW_ => ?_)
        generalize wr.drew = w10 at HO_8 HB hx229_0 hx230_0 hHeld ⊢
        refine pure_ (i := 0) (N := some 21) (v := ?_) (a' := ?_) #[true, false, false, false, false, false, false, false, false, false, false, false, false, false, false] rfl rfl (any_of HT_.out (by kernel_rfl)) (fun _ _ _ h => h) (Or.inl ⟨by rfl, ?_⟩) ?_ ?_
        rotate_left
        ·intro w'
         go_simp
         with_reducible rfl
        rotate_left
        ·simp only [Act.put, List.setIfInBounds_toArray, List.set_cons_zero, List.set_cons_succ, i64_w, i32_w]
         rfl
        refine pure_ (i := 1) (N := some 22) (v := ?_) (a' := ?_) #[true, true, false, false, false, false, false, false, false, false, false, false, false, false, false] rfl rfl (any_of HT_.out (by kernel_rfl)) (fun _ _ _ h => h) (Or.inl ⟨by rfl, ?_⟩) ?_ ?_
        rotate_left
        ·intro w'
         go_simp
         with_reducible rfl
        rotate_left
        ·simp only [Act.put, List.setIfInBounds_toArray, List.set_cons_zero, List.set_cons_succ, i64_w, i32_w]
         rfl
        refine pure_ (i := 2) (N := some 23) (v := ?_) (a' := ?_) #[true, true, true, false, false, false, false, false, false, false, false, false, false, false, false] rfl rfl (any_of HT_.out (by kernel_rfl)) (fun _ _ _ h => h) (Or.inl ⟨by rfl, ?_⟩) ?_ ?_
        rotate_left
        ·intro w'
         go_simp
         with_reducible rfl
        rotate_left
        ·simp only [Act.put, List.setIfInBounds_toArray, List.set_cons_zero, List.set_cons_succ, i64_w, i32_w]
         rfl
        refine pure_ (i := 3) (N := some 24) (v := ?_) (a' := ?_) #[true, true, true, true, false, false, false, false, false, false, false, false, false, false, false] rfl rfl (any_of HT_.out (by kernel_rfl)) (fun _ _ _ h => h) (Or.inl ⟨by rfl, ?_⟩) ?_ ?_
        rotate_left
        ·intro w'
         go_simp
         with_reducible rfl
        rotate_left
        ·simp only [Act.put, List.setIfInBounds_toArray, List.set_cons_zero, List.set_cons_succ, i64_w, i32_w]
         rfl
        refine pure_ (i := 5) (N := some 26) (v := ?_) (a' := ?_) #[true, true, true, true, false, true, false, false, false, false, false, false, false, false, false] rfl rfl (any_of HT_.out (by kernel_rfl)) (fun _ _ _ h => h) (Or.inl ⟨by rfl, ?_⟩) ?_ ?_
        rotate_left
        ·intro w'
         go_simp
         with_reducible rfl
        rotate_left
        ·simp only [Act.put, List.setIfInBounds_toArray, List.set_cons_zero, List.set_cons_succ, i64_w, i32_w]
         rfl
        refine pure_ (i := 6) (N := some 27) (v := ?_) (a' := ?_) #[true, true, true, true, false, true, true, false, false, false, false, false, false, false, false] rfl rfl (any_of HT_.out (by kernel_rfl)) (fun _ _ _ h => h) (Or.inl ⟨by rfl, ?_⟩) ?_ ?_
        rotate_left
        ·intro w'
         go_simp
         with_reducible rfl
        rotate_left
        ·simp only [Act.put, List.setIfInBounds_toArray, List.set_cons_zero, List.set_cons_succ, i64_w, i32_w]
         rfl
        refine pure_ (i := 7) (N := some 28) (v := ?_) (a' := ?_) #[true, true, true, true, false, true, true, true, false, false, false, false, false, false, false] rfl rfl (any_of HT_.out (by kernel_rfl)) (fun _ _ _ h => h) (Or.inl ⟨by rfl, ?_⟩) ?_ ?_
        rotate_left
        ·intro w'
         go_simp
         with_reducible rfl
        rotate_left
        ·simp only [Act.put, List.setIfInBounds_toArray, List.set_cons_zero, List.set_cons_succ, i64_w, i32_w]
         rfl
        refine pure_ (i := 8) (N := some 29) (v := ?_) (a' := ?_) #[true, true, true, true, false, true, true, true, true, false, false, false, false, false, false] rfl rfl (any_of HT_.out (by kernel_rfl)) (fun _ _ _ h => h) (Or.inl ⟨by rfl, ?_⟩) ?_ ?_
        rotate_left
        ·intro w'
         go_simp
         with_reducible rfl
        rotate_left
        ·simp only [Act.put, List.setIfInBounds_toArray, List.set_cons_zero, List.set_cons_succ, i64_w, i32_w]
         rfl
        refine take_ (i := 4) (N := some 25) (v := ?_) (a' := ?_) #[true, true, true, true, true, true, true, true, true, false, false, false, false, false, false] rfl rfl (take_ofW HT_.out HW_.out (by kernel_rfl)) (fun _ _ _ h => h) (Or.inl ⟨by rfl, ?_⟩) hHeld ?_ ?_
        rotate_left
        ·rintro w' ⟨s0, s1⟩
         go_simp
         with_reducible rfl
        rotate_left
        ·simp only [Act.put, List.setIfInBounds_toArray, List.set_cons_zero, List.set_cons_succ, i64_w, i32_w]
         rfl
        refine take_ (i := 9) (N := some 30) (v := ?_) (a' := ?_) #[true, true, true, true, true, true, true, true, true, true, false, false, false, false, false] rfl rfl (take_ofW HT_.out HW_.out (by kernel_rfl)) (fun _ _ _ h => h) (Or.inl ⟨by rfl, ?_⟩) hHeld ?_ ?_
        rotate_left
        ·rintro w' ⟨s0, s1⟩
         go_simp
         with_reducible rfl
        rotate_left
        ·simp only [Act.put, List.setIfInBounds_toArray, List.set_cons_zero, List.set_cons_succ, i64_w, i32_w]
         rfl
        refine one_ (i := 10) (N := some 31) #[true, true, true, true, true, true, true, true, true, true, true, false, false, false, false] rfl rfl (one_of HT_.out (by kernel_rfl)) (by decide) (fun K hK => ?_)
        refine goes_ Try.func38 (by kernel_rfl) rfl #[.int .u8 a1, .int .u8 (rd l2 x9_1)] (by rfl) rfl rfl (by (try simp only [List.map_toArray, List.map_cons, List.map_nil]); first | done | rfl | (simp only [List.length_drop, List.length_take]; rfl)) ?_
        with_reducible refine (recoupref01_Mul.calls k1 a1 (rd l2 x9_1) t231 _ A8.out).mono ?_
        rintro e w' ⟨rfl, ⟨nd, rfl⟩⟩
        refine ⟨_, rfl, ?_⟩
        refine hK.out _ _ ⟨((HB.out.cell (World.block_lt_of_cell? w _ hw229_0)).trans hw229_0), ((HB.out.cell (World.block_lt_of_cell? w _ hw230_0)).trans hw230_0)⟩ (fun hHeld => ?_)
        clear hK K
        refine norm_ (a' := ?_) ?_ ?_
        rotate_left
        ·show Act.put _ (some 31) _ = _
         simp only [Act.put, List.setIfInBounds_toArray, List.set_cons_zero, List.set_cons_succ, i64_w, i32_w]
         rfl
        refine pure_ (i := 11) (N := some 32) (v := ?_) (a' := ?_) #[true, true, true, true, true, true, true, true, true, true, true, true, false, false, false] rfl rfl (any_of HT_.out (by kernel_rfl)) (fun _ _ _ h => h) (Or.inl ⟨by rfl, ?_⟩) ?_ ?_
        rotate_left
        ·intro w'
         go_simp
         with_reducible rfl
        rotate_left
        ·simp only [Act.put, List.setIfInBounds_toArray, List.set_cons_zero, List.set_cons_succ, i64_w, i32_w]
         rfl
        refine one_ (i := 12) (N := some 33) #[true, true, true, true, true, true, true, true, true, true, true, true, true, false, false] rfl rfl (one_of HT_.out (by kernel_rfl)) (by decide) (fun K hK => ?_)
        refine value_ (w1 := ?_) (v := ?_) (by rfl) rfl ?_ ?_
        rotate_left 2
        ·go_simp
         constructor
         ·rfl
         ·rfl
        refine hK.out _ _ ⟨(World.cell?_alloc_lt _ _ _ (World.block_lt_of_cell? _ _ (((HB.out.cell (World.block_lt_of_cell? w _ hw229_0)).trans hw229_0)))).trans (((HB.out.cell (World.block_lt_of_cell? w _ hw229_0)).trans hw229_0)), (World.cell?_alloc_lt _ _ _ (World.block_lt_of_cell? _ _ (((HB.out.cell (World.block_lt_of_cell? w _ hw230_0)).trans hw230_0)))).trans (((HB.out.cell (World.block_lt_of_cell? w _ hw230_0)).trans hw230_0))⟩ (fun hHeld => ?_)
        clear hK K
        refine norm_ (a' := ?_) ?_ ?_
        rotate_left
        ·show Act.put _ (some 33) _ = _
         simp only [Act.put, List.setIfInBounds_toArray, List.set_cons_zero, List.set_cons_succ, i64_w, i32_w]
         rfl
        refine one_ (i := 13) (N := some 34) #[true, true, true, true, true, true, true, true, true, true, true, true, true, true, false] rfl rfl (one_of HT_.out (by kernel_rfl)) (by decide) (fun K hK => ?_)
        refine Kd.R_append_step (Kd.int .u8) (w0 := w) w.heap.size (by rfl) (.tmp 21) (.tmp 33) 68 5 (.int .u8 0) 1 rfl Try.underlying68 info5 rfl (by decide) (by omega) u8 x8_1 (Go.bits .xor .u8 (rd l0 x9_1) t231) [.int .u8 (Go.bits .xor .u8 (rd l0 x9_1) t231)] (fun _ => True) (fun _ => False) rfl rfl ?aP (fun _ hk => hk.elim) ?aF ?aO ?aB ?aS ?aL ?_
        (case aP => exact rfl)
        (case aB => exact (by repeat (first | (with_reducible first | exact HB.out | apply below_alloc | apply pw_below_drewN | apply below_drew1) | exact HB.out)))
        (case aF => exact (fun _ _ => trivial))
        (case aO => exact (by (with_reducible repeat (first | apply Kd.R_alloc | apply Kd.R_drewN | apply Kd.R_drew)); exact HO_8.out))
        (case aS => exact (below_size (by repeat (first | (with_reducible first | exact HB.out | apply below_alloc | apply pw_below_drewN | apply below_drew1) | exact HB.out))))
        (case aL => have := LMc9.out; omega)
        intro v233 w11 ho hb hg hat
        rw [← Ny232.out] at ho
        have n0_ := Aside0.mk (hb)
        have n1_ := Aside0.mk (ho)
        clear HB
        clear HO_8
        have HB := n0_
        have HO234 := n1_
        clear n0_ n1_
        clear ho hb hg hat
        refine hK.out _ _ ⟨((HB.out.cell (World.block_lt_of_cell? w _ hw229_0)).trans hw229_0), ((HB.out.cell (World.block_lt_of_cell? w _ hw230_0)).trans hw230_0)⟩ (fun hHeld => ?_)
        clear hK K
        refine norm_ (a' := ?_) ?_ ?_
        rotate_left
        ·show Act.put _ (some 34) _ = _
         simp only [Act.put, List.setIfInBounds_toArray, List.set_cons_zero, List.set_cons_succ, i64_w, i32_w]
         rfl
        refine pure_ (i := 14) (N := some 8) (v := ?_) (a' := ?_) #[true, true, true, true, true, true, true, true, true, true, true, true, true, true, true] rfl rfl (any_of HT_.out (by kernel_rfl)) (fun _ _ _ h => h) (Or.inl ⟨by rfl, ?_⟩) ?_ ?_
        rotate_left
        ·intro w'
         go_simp
         with_reducible rfl
        rotate_left
        ·simp only [Act.put, List.setIfInBounds_toArray, List.set_cons_zero, List.set_cons_succ, i64_w, i32_w]
         rfl
        refine done_ (done_of HT_.out (by kernel_rfl)) ?_
        try go_wp2
        go_roundg k1
        case measure => have := HK1.out; omega
        case rel => exact ⟨(y232), (wrap64 (x9_1 + 1)), (by first | rfl | (simp; done) | (simp [*]; done)), H', ⟨by have := HK1.out; omega⟩, ⟨by (with_reducible repeat (first | apply Kd.R_alloc | apply Kd.R_drewN | apply Kd.R_drew)); exact HO234.out⟩, ⟨by repeat (first | (with_reducible first | exact HB.out | apply below_alloc | apply pw_below_drewN | apply below_drew1) | exact HB.out)⟩⟩
       ·rw [if_neg c9] at H
        exact absurd H (by simp)
      ·rw [if_neg c7] at H
       exact absurd H (by simp)
     ·rw [if_neg c6] at H
      exact absurd H (by simp)
    ·rw [if_neg c5] at H
     have c5b0 : decide (x9_1 < (l2.length : Int)) = false := decide_eq_false c5
     clear c5
     simp only [Option.some.injEq, Prod.mk.injEq] at H
     obtain ⟨rfl, rfl⟩ := H
     go_wp2
     go_ret2
     exact ⟨_, by first | rfl | (simp [errW_none, errW_some] <;> rfl) | (simp [*, errW_none, errW_some] <;> rfl), by (with_reducible repeat (first | apply Kd.R_alloc | apply Kd.R_drewN | apply Kd.R_drew)); exact HO_8.out, by repeat (first | (with_reducible first | exact HB.out | apply below_alloc | apply pw_below_drewN | apply below_drew1) | exact HB.out)⟩
 ·rw [if_neg c4] at H
  have c4b0 : ((l0.length : Int) == (l2.length : Int)) = false := beq_eq_false_iff_ne.mpr c4
  have c4b1 : ((l0.length : Int) != (l2.length : Int)) = true := bne_iff_ne.mpr c4
  have c4b2 : (l0.length == l2.length) = false := by first | simpa using c4 | (simp at c4 ⊢; omega)
  simp only [Option.some.injEq, Prod.mk.injEq] at H
  obtain ⟨rfl, rfl⟩ := H
  go_enter Try.func28, Try.ntmps28
  go_wp2
  go_ret2
  exact ⟨_, by first | rfl | (simp [errW_none, errW_some] <;> rfl) | (simp [*, errW_none, errW_some] <;> rfl), by first | exact Kd.R_nil _ _ _ _ _ | exact Kd.N_nil _ _ _ _ _ | exact Kd.V_nil _ _ _ _ _ | exact Kd.Q_nil _ _ _ _ _ | exact Kd.S_nil _ _ _ _ _, by repeat (first | (with_reducible first | exact HB.out | apply below_alloc | apply pw_below_drewN | apply below_drew1) | exact HB.out)⟩

-- NOT PRINTED: function 13 (recoupref23_Run)

/-! ### recoupref01_Same: function 29 -/
def recoupref01_Same.f (l0 : List Int) (l1 : List Int) : Option (Bool) := some ((strOfNums l0).toList == (strOfNums l1).toList)
set_option maxHeartbeats 8000000 in
set_option maxRecDepth 100000 in
theorem recoupref01_Same.calls (A0 : Option Addr) (c0 : Nat) (l0 : List Int) (A1 : Option Addr) (c1 : Nat) (l1 : List Int) (r : Bool) (w : World) (hr0 : Kd.C (Kd.int .u8) w A0 l0.length l0) (hc0 : l0.length ≤ c0) (hr1 : Kd.C (Kd.int .u8) w A1 l1.length l1) (hc1 : l1.length ≤ c1) (h : recoupref01_Same.f l0 l1 = some r) :
  Calls Try.prog 29 #[.slice A0 l0.length c0, .slice A1 l1.length c1] w fun e w' => e = .returned (.bool r) ∧ Drawn0 w w' := by
 have HR0 := Aside0.mk hr0
 have HC0 := Aside0.mk hc0
 clear hr0 hc0
 have HR1 := Aside0.mk hr1
 have HC1 := Aside0.mk hc1
 clear hr1 hc1
 have H : (some ((strOfNums l0).toList == (strOfNums l1).toList)) = some r := h
 clear h
 obtain rfl := Option.some.inj H
 have hcv3 := Kd.C_string (P := Try.prog) (A := A0) (c := c0) Try.underlying68 Try.underlying5 Try.underlying9 HR0.out
 have hcv4 := Kd.C_string (P := Try.prog) (A := A1) (c := c1) Try.underlying68 Try.underlying5 Try.underlying9 HR1.out
 go_enter Try.func29, Try.ntmps29
 go_wp2
 go_ret
 exact ⟨by first | rfl | (simp; done) | (simp [*]; done), by repeat (first | exact Drawn0.refl _ | apply Drawn0.step)⟩

end Go.Proofs.Ytlflfpkjbjbldaa.PA
