-- Written by wip/tools/mp.py (the kit's print, run over several laws with some functions given by hand).
import Derived.Test.YtlflfpkjbjbldaaPAx0
namespace Go.Proofs.Ytlflfpkjbjbldaa.PA
open Go.RowKit Go.Proofs.YtlflfpkjbjbldaaW.PrintWords Go.Proofs.YtlflfpkjbjbldaaW.PrintLast Go.Proofs.YtlflfpkjbjbldaaW.PrintMore
attribute [local go_sem] max2_int min2_int max_two min_two max_three min_three max_four min_four   -- for this text's walks alone
set_option linter.unusedVariables false
set_option linter.unusedSimpArgs false

/-! ### bits_Mul64: function 43 -/
def bits_Mul64.f (a0 : Int) (a1 : Int) : Option (Int × Int) := some (IntKind.u64.wrap ((IntKind.u64.wrap ((IntKind.u64.wrap ((a0 / 4294967296) * (a1 / 4294967296))) + ((IntKind.u64.wrap ((IntKind.u64.wrap ((a0 / 4294967296) * (Go.bits .and .u64 a1 4294967295))) + ((IntKind.u64.wrap ((Go.bits .and .u64 a0 4294967295) * (Go.bits .and .u64 a1 4294967295))) / 4294967296))) / 4294967296))) + ((IntKind.u64.wrap ((Go.bits .and .u64 (IntKind.u64.wrap ((IntKind.u64.wrap ((a0 / 4294967296) * (Go.bits .and .u64 a1 4294967295))) + ((IntKind.u64.wrap ((Go.bits .and .u64 a0 4294967295) * (Go.bits .and .u64 a1 4294967295))) / 4294967296))) 4294967295) + (IntKind.u64.wrap ((Go.bits .and .u64 a0 4294967295) * (a1 / 4294967296))))) / 4294967296)), IntKind.u64.wrap (a0 * a1))
set_option maxHeartbeats 8000000 in
set_option maxRecDepth 100000 in
theorem bits_Mul64.calls (a0 : Int) (a1 : Int) (r1 : Int) (r2 : Int) (w : World) (h : bits_Mul64.f a0 a1 = some (r1, r2)) :
  Calls Try.prog 43 #[.int .u64 a0, .int .u64 a1] w fun e w' => e = .returned (.tuple #[.int .u64 r1, .int .u64 r2]) ∧ Drawn0 w w' := by
 have H : (some (IntKind.u64.wrap ((IntKind.u64.wrap ((IntKind.u64.wrap ((a0 / 4294967296) * (a1 / 4294967296))) + ((IntKind.u64.wrap ((IntKind.u64.wrap ((a0 / 4294967296) * (Go.bits .and .u64 a1 4294967295))) + ((IntKind.u64.wrap ((Go.bits .and .u64 a0 4294967295) * (Go.bits .and .u64 a1 4294967295))) / 4294967296))) / 4294967296))) + ((IntKind.u64.wrap ((Go.bits .and .u64 (IntKind.u64.wrap ((IntKind.u64.wrap ((a0 / 4294967296) * (Go.bits .and .u64 a1 4294967295))) + ((IntKind.u64.wrap ((Go.bits .and .u64 a0 4294967295) * (Go.bits .and .u64 a1 4294967295))) / 4294967296))) 4294967295) + (IntKind.u64.wrap ((Go.bits .and .u64 a0 4294967295) * (a1 / 4294967296))))) / 4294967296)), IntKind.u64.wrap (a0 * a1))) = some (r1, r2) := h
 clear h
 simp only [Option.some.injEq, Prod.mk.injEq] at H
 obtain ⟨rfl, rfl⟩ := H
 go_enter Try.func43, Try.ntmps43
 go_wp2
 go_ret2
 exact ⟨by first | rfl | (simp; done) | (simp [*]; done), by repeat (first | exact Drawn0.refl _ | apply Drawn0.step)⟩

/-! ### bits_Mul: function 32 -/
def bits_Mul.f (a0 : Int) (a1 : Int) : Option (Int × Int) := (bits_Mul64.f a0 a1).bind fun bt136 => (some (bt136.1, bt136.2))
set_option maxHeartbeats 8000000 in
set_option maxRecDepth 100000 in
theorem bits_Mul.calls (a0 : Int) (a1 : Int) (r1 : Int) (r2 : Int) (w : World) (h : bits_Mul.f a0 a1 = some (r1, r2)) :
  Calls Try.prog 32 #[.int .u64 a0, .int .u64 a1] w fun e w' => e = .returned (.tuple #[.int .u64 r1, .int .u64 r2]) ∧ Drawn0 w w' := by
 have H : ((bits_Mul64.f a0 a1).bind fun bt136 => (some (bt136.1, bt136.2))) = some (r1, r2) := h
 clear h
 replace H := Option.bind_eq_some_iff.mp H
 obtain ⟨⟨t136, t137⟩, A30, H⟩ := H
 replace H : (some (t136, t137)) = some (r1, r2) := H
 have A3 := Aside0.mk A30
 clear A30
 simp only [Option.some.injEq, Prod.mk.injEq] at H
 obtain ⟨rfl, rfl⟩ := H
 go_enter Try.func32, Try.ntmps32
 go_wp2_with (first | ((with_reducible refine gate_callee (f := 43) rfl ?_); refine goesL_ (some 25) rfl rfl Try.func43 (by kernel_rfl) rfl #[.int .u64 a0, .int .u64 a1] rfl (by (try simp only [List.map_toArray, List.map_cons, List.map_nil]); first | done | rfl | (simp only [List.length_drop, List.length_take]; rfl)) ?_; (with_reducible refine (bits_Mul64.calls a0 a1 t136 t137 _ A3.out).mono ?_); rintro e w' ⟨rfl, ⟨nd, rfl⟩⟩; refine ⟨_, rfl, ?_⟩))
 go_ret2
 exact ⟨by first | rfl | (simp; done) | (simp [*]; done), by repeat (first | exact Drawn0.refl _ | apply Drawn0.step)⟩

/-! ### slices_Repeat_int_int: function 17 (by hand) -/
/-- c, m times, then 0 up to n cells. -/
def fillC (m n : Nat) (c : Int) : List Int := List.replicate m c ++ List.replicate (n - m) 0
def encI (l : List Int) : Array Value := (l.map (Value.int .i64)).toArray
theorem encI_size (l : List Int) : (encI l).size = l.length := by simp [encI]
theorem fillC_length (m n : Nat) (c : Int) (h : m ≤ n) : (fillC m n c).length = n := by simp [fillC]; omega
theorem made_fill (n : Nat) (c : Int) : madeCells #[Value.int .i64 0] n = encI (fillC 0 n c) := by
  apply Array.ext
  · simp [size_madeCells, encI, fillC]
  · intro i h1 h2
    simp [madeCells, encI, fillC, Nat.mod_one]
theorem fill_copy (g m n cnt : Nat) (c : Int) (w : World) (h : w.heap[g]? = some (.cells (encI (fillC m n c)) 3 (0, 0))) (hc : m + cnt ≤ n) :
    (w.setCells g m (List.replicate cnt (Value.int .i64 c))).heap[g]? = some (.cells (encI (fillC (m + cnt) n c)) 3 (0, 0)) := by
  obtain ⟨cur', h1, h2, h3⟩ := setCells_row (List.replicate cnt (Value.int .i64 c)) m w _ h (by rw [encI_size, fillC_length _ _ _ (by omega), List.length_replicate]; exact hc)
  rw [h1]
  have : cur' = encI (fillC (m + cnt) n c) := by
    apply Array.toList_inj.1
    rw [h3]
    simp only [encI, fillC, List.map_append, List.map_replicate, List.length_replicate]
    rw [List.take_left' (by simp), List.drop_append, List.drop_of_length_le (by simp), List.nil_append, List.length_replicate, show m + cnt - m = cnt by omega, List.drop_replicate]
    rw [List.append_assoc, ← List.append_assoc (List.replicate m _), List.replicate_append_replicate, show n - m - cnt = n - (m + cnt) by omega]
  rw [this]
theorem mul1_all : ((List.range 66).all fun a => (List.range 64).all fun b => decide (bits_Mul.f 1 ((64 * a + b : Nat) : Int) = some (0, ((64 * a + b : Nat) : Int)))) = true := by decide +kernel
theorem mul1 (n : Nat) (h : n < 4224) : bits_Mul.f 1 (n : Int) = some (0, (n : Int)) := by
  have h1 := List.all_eq_true.1 mul1_all (n / 64) (List.mem_range.2 (by omega))
  have h2 := of_decide_eq_true (List.all_eq_true.1 h1 (n % 64) (List.mem_range.2 (by omega)))
  rwa [show 64 * (n / 64) + n % 64 = n by omega] at h2
theorem size_i64 : (Try.prog.info? 3).map (·.size) = some 1 := by
  obtain ⟨i, hi, _, hs, _⟩ := info_parts info3
  simp [hi, hs]
theorem cell_enc {w : World} {g : Nat} {l : List Int} (h : w.heap[g]? = some (.cells (encI l) 3 (0, 0))) (j : Nat) (hj : j < l.length) : w.cell? ⟨g, j, none⟩ = some (.int .i64 (l.getD j 0)) := by
  refine (blk_cell h j).trans ?_
  simp [encI, hj, List.getD_eq_getElem?_getD]
/-- copy(l[m:], l[:m]) over a row of which m cells are filled. -/
theorem copy_self (g m n : Nat) (c : Int) (w : World) (h : w.heap[g]? = some (.cells (encI (fillC m n c)) 3 (0, 0))) (h1 : 1 ≤ m) (h2 : m < n) (cap : Nat) :
    (Builtin.copy_ #[22, 22] 3 #[.slice (some ⟨g, m, none⟩) (n - m) (n - m), .slice (some ⟨g, 0, none⟩) m cap]).run Try.prog w = .ok (.int .i64 (min m (n - m) : Nat)) (w.setCells g m (List.replicate (min m (n - m)) (Value.int .i64 c))) := by
  have hl := fillC_length m n c (by omega)
  have hr := run_copy_cells (P := Try.prog) w 22 22 3 3 g m (n - m) (n - m) ⟨g, 0, none⟩ m cap (List.replicate (min m (n - m)) (Value.int .i64 c)) Try.underlying22 size_i64 (by simp)
    (fun j u hj => by
      have hjl : j < min m (n - m) := by have := (List.getElem?_eq_some_iff.1 hj).1; simpa using this
      have hu : u = Value.int .i64 c := by
        rw [List.getElem?_replicate, if_pos hjl] at hj
        exact (Option.some.inj hj).symm
      subst hu
      rw [add_plain, cell_enc h j (by omega)]
      congr 2
      simp only [fillC, List.getD_eq_getElem?_getD]
      rw [List.getElem?_append_left (by simp; omega), List.getElem?_replicate, if_pos (by omega)]; rfl)
    (fun j hj => by rw [List.length_replicate] at hj; rw [cell_enc h (m + j) (by omega)]; rfl)
    (fun j hj => blk_frozen h _) (fun u hu => by rw [List.eq_of_mem_replicate hu]; rfl)
  rw [List.length_replicate] at hr
  exact hr
theorem copy_first (g n : Nat) (c : Int) (ad : Addr) (c0 : Nat) (w : World) (h : w.heap[g]? = some (.cells (encI (fillC 0 n c)) 3 (0, 0))) (hx : w.cell? ad = some (.int .i64 c)) :
    (Builtin.copy_ #[22, 22] 3 #[.slice (some ⟨g, 0, none⟩) n n, .slice (some ad) 1 c0]).run Try.prog w = .ok (.int .i64 (min 1 n : Nat)) (w.setCells g 0 (List.replicate (min 1 n) (Value.int .i64 c))) := by
  rcases Nat.eq_zero_or_pos n with h0 | h0
  · subst h0
    exact run_copy_none (P := Try.prog) w 22 22 3 3 _ _ 0 0 1 c0 Try.underlying22 size_i64 (by simp)
  · have hl := fillC_length 0 n c (by omega)
    have hm : min 1 n = 1 := by omega
    have hr := run_copy_cells (P := Try.prog) w 22 22 3 3 g 0 n n ad 1 c0 [Value.int .i64 c] Try.underlying22 size_i64 (by simpa using hm.symm)
      (fun j u hj => by
        cases j with
        | zero =>
          obtain rfl := Option.some.inj hj
          rw [show ad.add 0 = ad by simp [Addr.add]]; exact hx
        | succ j => cases hj)
      (fun j hj => by
        have : j = 0 := by simpa using hj
        subst this
        rw [cell_enc h 0 (by omega)]; rfl)
      (fun j hj => blk_frozen h _) (fun u hu => by rw [List.mem_singleton.1 hu]; rfl)
    rw [hm]
    exact hr
theorem below_fill {w W : World} {g m : Nat} {vs : List Value} (h : Below w.heap.size w W) (hg : w.heap.size ≤ g) : Below w.heap.size w (W.setCells g m vs) := by
  induction vs generalizing m W with
  | nil => exact h
  | cons v r ih => exact ih (h.setCell (p := ⟨g, m, none⟩) hg v)
set_option maxRecDepth 100000 in
set_option maxHeartbeats 2000000 in
theorem Repeat_calls (A : Option Addr) (c0 : Nat) (c : Int) (n : Nat) (hn : n ≤ 4160) (w : World) (hr : Kd.C (Kd.int .i64) w A 1 [c]) :
    Calls Try.prog 17 #[.slice A 1 c0, .int .i64 (n : Int)] w fun e w' => ∃ g, e = .returned (.slice (some ⟨g, 0, none⟩) n n) ∧ w.heap.size ≤ g ∧ w'.heap[g]? = some (.cells (encI (List.replicate n c)) 3 (0, 0)) ∧ Below w.heap.size w w' := by
  obtain ⟨ad, rfl, hx⟩ := Kd.at_int hr 0 (by omega) (by omega)
  have hx : w.cell? ad = some (.int .i64 c) := by have := hx; rwa [show ad.add (0 : Int).toNat = ad by simp [Addr.add]] at this
  have d0 : decide ((n : Int) < 0) = false := decide_eq_false (by omega)
  have d1 : decide ((n : Int) > 9223372036854775807) = false := decide_eq_false (by omega)
  have hM := bits_Mul.calls 1 n 0 n w (mul1 n (by omega))
  have hmk := run_make_row' (P := Try.prog) 22 3 (.int .i64 0) 8 Try.underlying22 info3 rfl .i64 .i64 n (by omega) (by omega)
  have hwu : IntKind.u64.wrap (n : Int) = (n : Int) := by show (n : Int) % 18446744073709551616 = n; omega
  have hwi : IntKind.i64.wrap (n : Int) = (n : Int) := by rw [i64_w]; unfold wrap64; omega
  have HX := Aside0.mk hx
  clear hr
  go_enter Try.func17, Try.ntmps17
  go_wp2_with (go_at_call 32; refine hM.mono ?_; rintro e w' ⟨rfl, ⟨q, rfl⟩⟩)
  have h1 : ((w.drewN q).alloc (.cells (madeCells #[Value.int .i64 0] n) 3)).heap[w.heap.size]? = some (.cells (encI (fillC 0 n c)) 3 (0, 0)) := by
    rw [← made_fill n c]; exact heap_alloc_new (w.drewN q) _
  have hb1 : Below w.heap.size w ((w.drewN q).alloc (.cells (madeCells #[Value.int .i64 0] n) 3)) := below_alloc (pw_below_drewN (Below.refl _ _) q) _
  have hx1 : ((w.drewN q).alloc (.cells (madeCells #[Value.int .i64 0] n) 3)).cell? ad = some (.int .i64 c) := (hb1.cell (World.block_lt_of_cell? w _ HX.out)).trans HX.out
  generalize (w.drewN q).alloc (.cells (madeCells #[Value.int .i64 0] n) 3) = W1 at h1 hb1 hx1 ⊢
  have hr1 := copy_first w.heap.size n c ad c0 W1 h1 hx1
  have h2 := fill_copy w.heap.size 0 n (min 1 n) c W1 h1 (by omega)
  have hb2 := below_fill (m := 0) (vs := List.replicate (min 1 n) (Value.int .i64 c)) hb1 (Nat.le_refl _)
  rw [Nat.zero_add] at h2
  have H2 := Aside0.mk h2
  have HB2 := Aside0.mk hb2
  obtain ⟨m0, hm0⟩ : ∃ m0, min 1 n = m0 := ⟨_, rfl⟩
  rw [hm0] at hr1 H2 HB2
  have hm1 : m0 ≤ n := by omega
  have hm2 := Aside0.mk (show 0 < n → 1 ≤ m0 by omega)
  generalize W1.setCells w.heap.size 0 (List.replicate m0 (Value.int .i64 c)) = W2 at hr1 H2 HB2
  clear h1 hb1 hx1 h2 hb2 hmk hM hm0
  rw [hr1]
  clear hr1
  go_wp2
  go_loopg [8] n (fun gg v8 wr => ∃ m : Nat, m ≤ n ∧ n - m ≤ gg ∧ v8 = .int .i64 m ∧ Aside0 (0 < n → 1 ≤ m) ∧ Aside0 (wr.heap[w.heap.size]? = some (.cells (encI (fillC m n c)) 3 (0, 0))) ∧ Aside0 (Below w.heap.size w wr))
  case atStart => exact ⟨m0, hm1, by omega, rfl, hm2, H2, HB2⟩
  case round =>
    obtain ⟨m, hm, hgg, rfl, HP, HG, HBr⟩ := hrel
    by_cases hlt : m < n
    · have hp := HP.out (by omega)
      have hb : (m : Int) < (n : Int) := by omega
      have hcp := fun W h => copy_self w.heap.size m n c W h hp hlt n
      have hne : ¬ n = m := by omega
      have hne0 : ¬ m = 0 := by omega
      obtain ⟨i3, hi3, _, hs3, _⟩ := info_parts info3
      have hf1 : ∀ W : World, (Instr.slice 22 (.slice (some ⟨w.heap.size, 0, none⟩) n n) (some (.int .i64 (m : Int))) none none).run Try.prog W = .ok (.slice (some ⟨w.heap.size, m, none⟩) (n - m) (n - m)) W := fun W => by
        have h := cut_from (P := Try.prog) 22 3 .i64 Try.underlying22 hi3 1 hs3 (some ⟨w.heap.size, 0, none⟩) n n (m : Int) (by omega) (by omega) W
        rw [h]
        simp [hne, add_plain]
      have hf2 := cut_to (P := Try.prog) 22 3 .i64 Try.underlying22 hi3 (some ⟨w.heap.size, 0, none⟩) n n (m : Int) (by omega) (by omega) (Nat.le_refl _)
      have hg1 : wr.drew.heap[w.heap.size]? = some (.cells (encI (fillC m n c)) 3 (0, 0)) := HG.out
      have hrun := hcp wr.drew hg1
      clear hcp
      go_wp2_with fail
      go_region
      have hg2 := fill_copy w.heap.size m n (min m (n - m)) c wr.drew hg1 (by omega)
      have hb2 := below_fill (m := m) (vs := List.replicate (min m (n - m)) (Value.int .i64 c)) (below_drew HBr.out) (Nat.le_refl _)
      have HG2 := Aside0.mk hg2
      have HB2' := Aside0.mk hb2
      have HP2 := Aside0.mk (show 0 < n → 1 ≤ m + min m (n - m) by omega)
      have hle : m + min m (n - m) ≤ n := by omega
      have hlt2 : n - (m + min m (n - m)) ≤ gk - 1 := by omega
      obtain ⟨m2, hm2e⟩ : ∃ m2, m + min m (n - m) = m2 := ⟨_, rfl⟩
      have e2 : (m : Int) + ((min m (n - m) : Nat) : Int) = (m2 : Int) := by omega
      rw [hm2e] at HG2 HP2 hle hlt2
      rw [e2]
      go_wp2
      go_roundg (gk - 1)
      case measure => omega
      case rel => exact ⟨m2, hle, hlt2, rfl, HP2, HG2, HB2'⟩
    · obtain rfl : m = n := by omega
      have hb : ¬ ((m : Int) < (m : Int)) := by omega
      have hfull : fillC m m c = List.replicate m c := by simp [fillC]
      have HG3 := Aside0.mk (show wr.heap[w.heap.size]? = some (.cells (encI (List.replicate m c)) 3 (0, 0)) by rw [← hfull]; exact HG.out)
      clear hfull
      go_wp2
      go_ret
      exact ⟨w.heap.size, rfl, Nat.le_refl _, HG3.out, HBr.out⟩

/-! ### regs_last: function 18 (by hand) -/
def setAll (i : Int) : List S62 → List Int → Option (List Int)
  | [], l => some l
  | t :: r, l => if 0 ≤ t.f0 then (if t.f0 < (l.length : Int) then setAll i r (l.set t.f0.toNat i) else none) else none
def lastN : Int → List (List S62) → List Int → Option (List Int)
  | _, [], l => some l
  | i, ts :: r, l => (setAll i ts l).bind (lastN (i + 1) r)
def lastO (n : Int) : List Int → List Int → Option (List Int)
  | [], l => some l
  | v :: r, l => if 0 ≤ v then (if v < (l.length : Int) then lastO n r (l.set v.toNat n) else none) else none
def regs_last.f (l0 : List Int) (l1 : List (List S62)) (l2 : List Int) : Option (List Int) :=
  if l0.length + l1.length ≤ 4160 then (lastN 0 l1 (List.replicate (l0.length + l1.length) (-1))).bind (lastO (l1.length : Int) l2) else none
theorem encI_set (l : List Int) (i : Nat) (x : Int) : (encI l).setIfInBounds i (.int .i64 x) = encI (l.set i x) := by
  simp [encI, List.map_set]
theorem enc_store {w : World} {g : Nat} {l : List Int} (h : w.heap[g]? = some (.cells (encI l) 3 (0, 0))) (i : Nat) (x : Int) : (w.setCell ⟨g, i, none⟩ (.int .i64 x)).heap[g]? = some (.cells (encI (l.set i x)) 3 (0, 0)) := by
  rw [← encI_set]; exact blk_set h i _
set_option maxHeartbeats 2000000 in
theorem regs_last.calls (A0 : Option Addr) (c0 : Nat) (l0 : List Int) (A1 : Option Addr) (c1 : Nat) (l1 : List (List S62)) (A2 : Option Addr) (c2 : Nat) (l2 : List Int) (r : List Int) (w : World)
    (hr0 : Kd.C (Kd.int .i64) w A0 l0.length l0) (hr1 : Kd.C (Kd.slice 62 k62) w A1 l1.length l1) (hr2 : Kd.C (Kd.int .i64) w A2 l2.length l2) (h : regs_last.f l0 l1 l2 = some r) :
    Calls Try.prog 18 #[.agg #[.slice A0 l0.length c0, .slice A1 l1.length c1, .slice A2 l2.length c2]] w fun e w' => ∃ g, e = .returned (.slice (some ⟨g, 0, none⟩) (l0.length + l1.length) (l0.length + l1.length)) ∧ w.heap.size ≤ g ∧ w'.heap[g]? = some (.cells (encI r) 3 (0, 0)) ∧ r.length = l0.length + l1.length ∧ Below w.heap.size w w' := by
  unfold regs_last.f at h
  have hn : l0.length + l1.length ≤ 4160 := by
    by_cases c : l0.length + l1.length ≤ 4160
    · exact c
    · rw [if_neg c] at h; cases h
  rw [if_pos hn] at h
  obtain ⟨m1, hm1, hm2⟩ := Option.bind_eq_some_iff.1 h
  have HN := Aside0.mk hm1
  have HO := Aside0.mk hm2
  have hl2 := hr2.2.1
  have HB0 := Aside0.mk (below_alloc (below_alloc (Below.refl w.heap.size w) (.cells #[Value.slice A0 l0.length c0, .slice A1 l1.length c1, .slice A2 l2.length c2] 25)) (.cells #[Value.int .i64 (-1)] 3))
  have HR1 := Aside0.mk hr1
  have HR2 := Aside0.mk hr2
  have hw0 : IntKind.i64.wrap ((l0.length : Int) + (l1.length : Int)) = ((l0.length + l1.length : Nat) : Int) := by rw [i64_w]; unfold wrap64; omega
  have hf0 : (w.alloc (.cells #[Value.slice A0 l0.length c0, .slice A1 l1.length c1, .slice A2 l2.length c2] 25)).cell? ⟨w.heap.size, 0, none⟩ = some (.slice A0 l0.length c0) := by simp [go_sem]
  have hf1 : (w.alloc (.cells #[Value.slice A0 l0.length c0, .slice A1 l1.length c1, .slice A2 l2.length c2] 25)).cell? ⟨w.heap.size, 1, none⟩ = some (.slice A1 l1.length c1) := by simp [go_sem]
  have hf2 : (w.alloc (.cells #[Value.slice A0 l0.length c0, .slice A1 l1.length c1, .slice A2 l2.length c2] 25)).cell? ⟨w.heap.size, 2, none⟩ = some (.slice A2 l2.length c2) := by simp [go_sem]
  clear hr0 hr1 hr2 h hm1 hm2
  go_enter Try.func18, Try.ntmps18
  go_wp2_with fail
  rw [show ((l0.length : Int) + (l1.length : Int)) = ((l0.length + l1.length : Nat) : Int) from rfl]
  refine (Repeat_calls (some ⟨w.heap.size + 1, 0, none⟩) 1 (-1) (l0.length + l1.length) hn _ (Kd.C_of_reads (enc := Value.int .i64) (d := (0 : Int)) (h1 := fun _ => rfl) ⟨rfl, by decide, fun _ => ⟨_, rfl, fun j hj => by
    obtain rfl : j = 0 := by omega
    simp [go_sem, Addr.add]⟩⟩)).mono ?_
  rintro e w1 ⟨g, rfl, hg, hblk, hb⟩
  have hg : w.heap.size + 2 ≤ g := by simpa using hg
  have hbf : w1.heap[w.heap.size]? = some (.cells #[Value.slice A0 l0.length c0, .slice A1 l1.length c1, .slice A2 l2.length c2] 25 (0, 0)) := by
    rw [hb.block _ (by simp; omega)]
    rw [heap_alloc_old _ _ (by simp)]
    exact heap_alloc_new w _
  have HBF := Aside0.mk hbf
  have HBK := Aside0.mk hblk
  have HB1 := Aside0.mk (below_step HB0.out hb)
  have hz1 : w1.cell? ⟨w.heap.size, 1, none⟩ = some (.slice A1 l1.length c1) := (blk_cell HBF.out 1).trans rfl
  have hlen0 : (List.replicate (l0.length + l1.length) (-1 : Int)).length = l0.length + l1.length := List.length_replicate ..
  obtain ⟨n, hnn⟩ : ∃ n, l0.length + l1.length = n := ⟨_, rfl⟩
  rw [hnn] at HBK HN hlen0 hn hw0 ⊢
  generalize List.replicate n (-1 : Int) = lz at HBK HN hlen0
  clear hbf hblk hb hf0 hf1 hf2
  go_wp2_with fail
  go_loopw [22] (fun v22 w' => ∃ (i : Nat) (l : List Int), i ≤ l1.length ∧ v22 = .int .i64 i ∧ Aside0 (lastN i (l1.drop i) l = some m1) ∧ Aside0 (l.length = n) ∧ Aside0 (w'.heap[g]? = some (.cells (encI l) 3 (0, 0))) ∧ Aside0 (w'.heap[w.heap.size]? = some (.cells #[Value.slice A0 l0.length c0, .slice A1 l1.length c1, .slice A2 l2.length c2] 25 (0, 0))) ∧ Aside0 (Below w.heap.size w w')) (fun v _ => l1.length - (intOf v).toNat)
  case atStart => exact ⟨0, lz, Nat.zero_le _, rfl, HN, ⟨hlen0⟩, HBK, HBF, HB1⟩
  case round =>
    obtain ⟨i, l, hi, rfl, HNi, HLi, HGi, HFi, HBi⟩ := hrel
    by_cases hlt : i < l1.length
    · obtain ⟨ad, Ax, cx, rfl, hx, hcx, hC⟩ := at_L4 HR1.out (i : Int) (by omega) (by omega)
      simp only [Int.toNat_natCast] at hx
      have hx := (HBi.out.cell (World.block_lt_of_cell? w _ hx)).trans hx
      have hd : l1.drop i = rd_L4 l1 i :: l1.drop (i + 1) := by
        rw [List.drop_eq_getElem_cons hlt]; simp [rd_L4, hlt]
      have hN := HNi.out
      rw [hd, lastN] at hN
      obtain ⟨ln, hs, hN⟩ := Option.bind_eq_some_iff.1 hN
      have HS := Aside0.mk hs
      have HN2 := Aside0.mk hN
      have HCT := Aside0.mk hC
      have hTm := hC.2.1
      clear hd hN hs hC
      generalize rd_L4 l1 (i : Int) = T at hx hcx HS HCT hTm
      have hb : (i : Int) < (l1.length : Int) := by omega
      go_wp2_with fail
      go_loopw [29] (fun v29 w' => ∃ (j : Nat) (l' : List Int), j ≤ T.length ∧ v29 = .int .i64 j ∧ Aside0 (setAll i (T.drop j) l' = some ln) ∧ Aside0 (l'.length = n) ∧ Aside0 (w'.heap[g]? = some (.cells (encI l') 3 (0, 0))) ∧ Aside0 (w'.heap[w.heap.size]? = some (.cells #[Value.slice A0 l0.length c0, .slice (some ad) l1.length c1, .slice A2 l2.length c2] 25 (0, 0))) ∧ Aside0 (Below w.heap.size w w')) (fun v _ => T.length - (intOf v).toNat)
      case atStart => exact ⟨0, l, Nat.zero_le _, rfl, HS, HLi, HGi, HFi, HBi⟩
      case round =>
        obtain ⟨j, l', hj, rfl, HSj, HLj, HGj, HFj, HBj⟩ := hrel
        by_cases hjt : j < T.length
        · obtain ⟨ad2, e2, hy0, hy1⟩ := at_T62 (Kd.C_below HCT.out HBj.out) (j : Int) (by omega) (by omega)
          cases e2
          simp only [Int.toNat_natCast] at hy0 hy1
          have hd : T.drop j = rd_T62 T j :: T.drop (j + 1) := by
            rw [List.drop_eq_getElem_cons hjt]; simp [rd_T62, hjt]
          have hS := HSj.out
          rw [hd, setAll] at hS
          generalize rd_T62 T (j : Int) = t at hy0 hy1 hS
          have hq0 : 0 ≤ t.f0 := by
            by_cases c : 0 ≤ t.f0
            · exact c
            · rw [if_neg c] at hS; cases hS
          rw [if_pos hq0] at hS
          have hq1 : t.f0 < (l'.length : Int) := by
            by_cases c : t.f0 < (l'.length : Int)
            · exact c
            · rw [if_neg c] at hS; cases hS
          rw [if_pos hq1] at hS
          rw [HLj.out] at hq1
          have HS2 := Aside0.mk hS
          have hbj : (j : Int) < (T.length : Int) := by omega
          have hgl := blk_lt HGj.out
          have hne : g ≠ wr.heap.size := by omega
          have hne2 : wr.heap.size ≠ g := by omega
          have hcell : ∀ W : World, W.heap[g]? = some (.cells (encI l') 3 (0, 0)) → W.cell? ⟨g, t.f0.toNat, none⟩ = some (.int .i64 (l'.getD t.f0.toNat 0)) := fun W hW => cell_enc hW _ (by have := HLj.out; omega)
          have hc1 := hcell wr HGj.out
          have hfz := blk_frozen HGj.out t.f0.toNat
          have hu62 := Try.underlying62
          clear hS hd hcell
          go_wp2_with fail
          go_roundw
          case rel => exact ⟨j + 1, l'.set t.f0.toNat i, by omega, by go_num, HS2, ⟨by rw [List.length_set]; exact HLj.out⟩, ⟨blk_alloc (enc_store HGj.out _ _) _⟩, ⟨blk_alloc ((((Below.refl (w.heap.size + 1) wr).setCell (p := ⟨g, _, none⟩) (by show w.heap.size + 1 ≤ g; omega) _).block w.heap.size (by omega)).trans HFj.out) _⟩, ⟨below_alloc (HBj.out.setCell (p := ⟨g, _, none⟩) (by show w.heap.size ≤ g; omega) _) _⟩⟩
          case measure => simp [intOf]; omega
        · obtain rfl : j = T.length := by omega
          have hS := HSj.out
          rw [List.drop_length, setAll] at hS
          obtain rfl := Option.some.inj hS
          have hbj : ¬ ((T.length : Int) < (T.length : Int)) := by omega
          go_wp2_with fail
          go_roundw
          case rel => exact ⟨i + 1, l', by omega, by go_num, by have h_ := HN2; rwa [show ((i : Int) + 1) = ((i + 1 : Nat) : Int) from rfl] at h_, HLj, HGj, HFj, HBj⟩
          case measure => simp [intOf]; omega
    · obtain rfl : i = l1.length := by omega
      have hN := HNi.out
      rw [List.drop_length, lastN] at hN
      obtain rfl := Option.some.inj hN
      have hb : ¬ ((l1.length : Int) < (l1.length : Int)) := by omega
      have hz2 : wr.cell? ⟨w.heap.size, 2, none⟩ = some (.slice A2 l2.length c2) := (blk_cell HFi.out 2).trans rfl
      go_wp2_with fail
      go_loopw [43] (fun v43 w' => ∃ (j : Nat) (l' : List Int), j ≤ l2.length ∧ v43 = .int .i64 j ∧ Aside0 (lastO (l1.length : Int) (l2.drop j) l' = some r) ∧ Aside0 (l'.length = n) ∧ Aside0 (w'.heap[g]? = some (.cells (encI l') 3 (0, 0))) ∧ Aside0 (w'.heap[w.heap.size]? = some (.cells #[Value.slice A0 l0.length c0, .slice A1 l1.length c1, .slice A2 l2.length c2] 25 (0, 0))) ∧ Aside0 (Below w.heap.size w w')) (fun v _ => l2.length - (intOf v).toNat)
      case atStart => exact ⟨0, l, Nat.zero_le _, rfl, HO, HLi, HGi, HFi, HBi⟩
      case round =>
        obtain ⟨j, l', hj, rfl, HOj, HLj, HGj, HFj, HBj⟩ := hrel
        by_cases hjt : j < l2.length
        · obtain ⟨ad2, rfl, hy0⟩ := Kd.at_int (Kd.C_below HR2.out HBj.out) (j : Int) (by omega) (by omega)
          simp only [Int.toNat_natCast] at hy0
          have hd : l2.drop j = rd l2 j :: l2.drop (j + 1) := by
            rw [List.drop_eq_getElem_cons hjt]; simp [rd, hjt]
          have hS := HOj.out
          rw [hd, lastO] at hS
          generalize rd l2 (j : Int) = v at hy0 hS
          have hq0 : 0 ≤ v := by
            by_cases c : 0 ≤ v
            · exact c
            · rw [if_neg c] at hS; cases hS
          rw [if_pos hq0] at hS
          have hq1 : v < (l'.length : Int) := by
            by_cases c : v < (l'.length : Int)
            · exact c
            · rw [if_neg c] at hS; cases hS
          rw [if_pos hq1] at hS
          rw [HLj.out] at hq1
          have HS2 := Aside0.mk hS
          have hbj : (j : Int) < (l2.length : Int) := by omega
          have hgl := blk_lt HGj.out
          have hc1 : wr.cell? ⟨g, v.toNat, none⟩ = some (.int .i64 (l'.getD v.toNat 0)) := cell_enc HGj.out _ (by have := HLj.out; omega)
          have hfz := blk_frozen HGj.out v.toNat
          have hz1 : wr.cell? ⟨w.heap.size, 1, none⟩ = some (.slice A1 l1.length c1) := (blk_cell HFj.out 1).trans rfl
          clear hS hd
          go_wp2_with fail
          go_roundw
          case rel => exact ⟨j + 1, l'.set v.toNat l1.length, by omega, by go_num, HS2, ⟨by rw [List.length_set]; exact HLj.out⟩, ⟨enc_store HGj.out _ _⟩, ⟨(((Below.refl (w.heap.size + 1) wr).setCell (p := ⟨g, _, none⟩) (by show w.heap.size + 1 ≤ g; omega) _).block w.heap.size (by omega)).trans HFj.out⟩, ⟨HBj.out.setCell (p := ⟨g, _, none⟩) (by show w.heap.size ≤ g; omega) _⟩⟩
          case measure => simp [intOf]; omega
        · obtain rfl : j = l2.length := by omega
          have hS := HOj.out
          rw [List.drop_length, lastO] at hS
          obtain rfl := Option.some.inj hS
          have hbj : ¬ ((l2.length : Int) < (l2.length : Int)) := by omega
          go_wp2_with fail
          go_ret
          exact ⟨g, rfl, by omega, HGj.out, HLj.out, HBj.out⟩

/-! ### regs_giver_step: function 21 (by hand) -/
theorem info38h : (Try.prog.info? 38).map (fun i => (i.zero, i.size, i.bytes)) = some (some (.agg #[(.int .u8 0), (.int .i64 0), (.int .i64 0), (.int .u8 0)]), 4, 32) := by kernel_rfl
def stepC (x : S38) : List Value := [.int .u8 x.f0, .int .i64 x.f1, .int .i64 x.f2, .int .u8 x.f3]
theorem step_run (W : World) (base : Nat) (sv : Value) (xs : List S38) (x : S38) (ok : Nat → Prop) (HO : k38.R 38 W base ok sv xs) (hok : ∀ k, W.heap.size ≤ k → ok k) (hbase : base ≤ W.heap.size) (hl : xs.length ≤ 65536) :
    ∃ v1 w1, (Builtin.append_ #[26, 26] 26 #[sv, .slice (some ⟨W.heap.size, 0, none⟩) 1 1]).run Try.prog (W.alloc (.cells (stepC x).toArray 38)) = .ok v1 w1 ∧ k38.R 38 w1 base ok v1 (xs ++ [x]) ∧ W.grownBy w1 sv.ownBlock ∧ (v1.ownBlock = sv.ownBlock ∨ ∃ b, v1.ownBlock = some b ∧ W.heap.size ≤ b) := by
  obtain ⟨i0, hi, hzz⟩ := Option.map_eq_some_iff.1 info38h
  simp only [Prod.mk.injEq] at hzz
  obtain ⟨hz0, hz1, hz2⟩ := hzz
  obtain ⟨h0, inner, hown, hr⟩ := HO
  obtain ⟨v1, w1, hrun, hown1, hg, _, hat⟩ := run_append_own_at (P := Try.prog) (W.alloc (.cells (stepC x).toArray 38)) base 26 26 38 i0 _ 4 32 Try.underlying26 hi hz0 hz1 hz2 rfl (by decide) sv xs.length inner (hown.alloc _) ⟨W.heap.size, 0, none⟩ 1 1 (stepC x) rfl
    (by simpa using World.news_of_block (cs := (stepC x).toArray) (t := 38) (fr := (0, 0)) (heap_alloc_new W (.cells (stepC x).toArray 38))) (by intro u hu; simp only [stepC, List.mem_cons, List.mem_nil_iff, or_false] at hu; rcases hu with rfl | rfl | rfl | rfl <;> rfl) (by simp only [maxLen]; omega) (by omega) (by simp; omega)
  have hg' : W.grownBy w1 sv.ownBlock := World.grownBy.trans (World.grownBy_alloc W _ _) hg
  have hat' : v1.ownBlock = sv.ownBlock ∨ ∃ b, v1.ownBlock = some b ∧ W.heap.size ≤ b := by
    rcases hat with hat | hat
    · exact .inl hat
    · exact .inr ⟨_, hat, by simp⟩
  exact ⟨v1, w1, hrun, Kd.R_appended (okp := fun _ => False) h0 hr (k38_mkM _ _ _ x) (fun _ hk => hk.elim) hok hown1 hg' hat', hg', hat'⟩
/-- The giver's state. -/
structure GS where
  steps : List S38
  regs : Int
  outs : Int
  reads : Int
  taken : List Bool
  at_ : List Int
  ok : Bool
def gcells (vI vN vO sv av : Value) (s : GS) : List Value := [vI, vN, vO, sv, .int .i64 s.regs, .int .i64 s.outs, .int .u64 s.reads] ++ s.taken.map Value.bool ++ [av, .bool s.ok]
section
variable (vI vN vO sv av : Value) (s : GS)
theorem gc_set4 (x : Int) : (gcells vI vN vO sv av s).set 4 (.int .i64 x) = gcells vI vN vO sv av { s with regs := x } := rfl
theorem gc_set6 (x : Int) : (gcells vI vN vO sv av s).set 6 (.int .u64 x) = gcells vI vN vO sv av { s with reads := x } := rfl
variable (hl : s.taken.length = 256)
include hl
theorem gc_taken (j : Nat) (hj : j < 256) : (gcells vI vN vO sv av s)[7 + j]? = some (.bool (s.taken.getD j false)) := by
  unfold gcells
  rw [List.append_assoc, List.getElem?_append_right (by simp), List.getElem?_append_left (by simp; omega)]
  simp only [List.length_cons, List.length_nil, Nat.reduceAdd, Nat.add_sub_cancel_left]
  have : j < s.taken.length := by omega
  simp [this, List.getD_eq_getElem?_getD]
theorem gc_at : (gcells vI vN vO sv av s)[263]? = some av := by
  unfold gcells
  rw [List.getElem?_append_right (by simp; omega)]
  simp [hl]
theorem gc_ok : (gcells vI vN vO sv av s)[264]? = some (.bool s.ok) := by
  unfold gcells
  rw [List.getElem?_append_right (by simp; omega)]
  simp [hl]
theorem gc_setT (j : Nat) (hj : j < 256) (b : Bool) : (gcells vI vN vO sv av s).set (7 + j) (.bool b) = gcells vI vN vO sv av { s with taken := s.taken.set j b } := by
  unfold gcells
  rw [List.append_assoc, List.set_append_right _ _ (by simp), List.set_append_left _ _ (by simp; omega)]
  simp [List.map_set]
theorem gc_setOk (b : Bool) : (gcells vI vN vO sv av s).set 264 (.bool b) = gcells vI vN vO sv av { s with ok := b } := by
  unfold gcells
  rw [List.set_append_right _ _ (by simp; omega)]
  simp [hl]
end
/-- The giver in memory: its block g, the row of its steps, the block ga of the values' registers. -/
structure GH (base : Nat) (w : World) (g ga n : Nat) (vI vN vO sv : Value) (s : GS) : Prop where
  blk : w.heap[g]? = some (.cells (gcells vI vN vO sv (.slice (some ⟨ga, 0, none⟩) n n) s).toArray 56 (0, 0))
  len : s.taken.length = 256
  ra : w.heap[ga]? = some (.cells (encI s.at_) 3 (0, 0))
  la : s.at_.length = n
  ne : ga ≠ g
  rs : k38.R 38 w base (fun k => k ≠ g ∧ k ≠ ga) sv s.steps
  bg : base ≤ g
  ba : base ≤ ga
  bw : base ≤ w.heap.size
/-- What a method may have turned: the giver's blocks alone. -/
structure GK (w w' : World) (g ga : Nat) (sv sv' : Value) : Prop where
  os : w'.os = w.os
  tape : w'.tape = w.tape
  output : w'.output = w.output
  size : w.heap.size ≤ w'.heap.size
  block : ∀ k, k < w.heap.size → k ≠ g → k ≠ ga → some k ≠ sv.ownBlock → w'.heap[k]? = w.heap[k]?
  own : ∀ k, sv'.ownBlock = some k → sv.ownBlock = some k ∨ w.heap.size ≤ k
theorem GK.refl (w : World) (g ga : Nat) (sv : Value) : GK w w g ga sv sv := ⟨rfl, rfl, rfl, Nat.le_refl _, fun _ _ _ _ _ => rfl, fun _ h => .inl h⟩
theorem GK.trans {w w1 w2 : World} {g ga : Nat} {u v x : Value} (h : GK w w1 g ga u v) (k : GK w1 w2 g ga v x) : GK w w2 g ga u x :=
  ⟨k.os.trans h.os, k.tape.trans h.tape, k.output.trans h.output, Nat.le_trans h.size k.size, fun i hi h1 h2 h3 => by
    rw [k.block i (Nat.lt_of_lt_of_le hi h.size) h1 h2 (fun e => by
      rcases h.own i e.symm with e2 | e2
      · exact h3 e2.symm
      · omega)]
    exact h.block i hi h1 h2 h3, fun i e => by
    rcases k.own i e with e2 | e2
    · exact h.own i e2
    · exact .inr (Nat.le_trans h.size e2)⟩
def stepS (s : GS) (x : S38) : GS := if s.steps.length = 65536 then { s with ok := false } else { s with steps := s.steps ++ [x] }
section
variable {base : Nat} {w : World} {g ga n : Nat} {vI vN vO sv : Value} {s : GS}
theorem GH.c (h : GH base w g ga n vI vN vO sv s) (j : Nat) (v : Value) (hv : (gcells vI vN vO sv (.slice (some ⟨ga, 0, none⟩) n n) s)[j]? = some v) : w.cell? ⟨g, j, none⟩ = some v := (blk_cell h.blk j).trans (by simpa using hv)
theorem GH.fz (h : GH base w g ga n vI vN vO sv s) (j : Nat) : w.frozen? ⟨g, j, none⟩ = false := blk_frozen h.blk j
theorem GH.step (h : GH base w g ga n vI vN vO sv s) {w' : World} (hb : ∀ k, k < w.heap.size → w'.heap[k]? = w.heap[k]?) (hs : w.heap.size ≤ w'.heap.size) : GH base w' g ga n vI vN vO sv s :=
  ⟨(hb g (blk_lt h.blk)).trans h.blk, h.len, (hb ga (blk_lt h.ra)).trans h.ra, h.la, h.ne, Kd.R_step h.rs (fun k _ hk => hb k hk), h.bg, h.ba, Nat.le_trans h.bw hs⟩
theorem GH.alloc (h : GH base w g ga n vI vN vO sv s) (o : Obj) : GH base (w.alloc o) g ga n vI vN vO sv s := h.step (fun k hk => heap_alloc_old w o hk) (by simp)
theorem GH.drew (h : GH base w g ga n vI vN vO sv s) : GH base w.drew g ga n vI vN vO sv s := h.step (fun _ _ => rfl) (Nat.le_refl _)
theorem GH.drewN (h : GH base w g ga n vI vN vO sv s) (m : Nat) : GH base (w.drewN m) g ga n vI vN vO sv s := h.step (fun _ _ => rfl) (Nat.le_refl _)
/-- A store into the giver's block. -/
theorem GH.set (h : GH base w g ga n vI vN vO sv s) (j : Nat) (v : Value) (s' : GS) (hv : (gcells vI vN vO sv (.slice (some ⟨ga, 0, none⟩) n n) s).set j v = gcells vI vN vO sv (.slice (some ⟨ga, 0, none⟩) n n) s') (h1 : s'.taken.length = 256) (h2 : s'.at_ = s.at_) (h3 : s'.steps = s.steps) :
    GH base (w.setCell ⟨g, j, none⟩ v) g ga n vI vN vO sv s' := by
  refine ⟨?_, h1, ?_, by rw [h2]; exact h.la, h.ne, ?_, h.bg, h.ba, by simpa [World.setCell] using h.bw⟩
  · rw [← hv]
    have := blk_set h.blk j v
    rwa [List.setIfInBounds_toArray] at this
  · rw [h2]
    exact (Below.heap_setCell w ⟨g, j, none⟩ v ga h.ne).trans h.ra
  · rw [h3]
    exact Kd.R_far h.rs (p := ⟨g, j, none⟩) (fun k hk => hk.1) _
end
theorem GK.alloc {w w' : World} {g ga : Nat} {sv sv' : Value} (h : GK w w' g ga sv sv') (o : Obj) : GK w (w'.alloc o) g ga sv sv' :=
  ⟨h.os, h.tape, h.output, by simp; have := h.size; omega, fun k hk h1 h2 h3 => (heap_alloc_old w' o (Nat.lt_of_lt_of_le hk h.size)).trans (h.block k hk h1 h2 h3), h.own⟩
theorem GK.drewN {w w' : World} {g ga : Nat} {sv sv' : Value} (h : GK w w' g ga sv sv') (m : Nat) : GK w (w'.drewN m) g ga sv sv' := ⟨h.os, h.tape, h.output, h.size, h.block, h.own⟩
theorem GK.drew {w w' : World} {g ga : Nat} {sv sv' : Value} (h : GK w w' g ga sv sv') : GK w w'.drew g ga sv sv' := ⟨h.os, h.tape, h.output, h.size, h.block, h.own⟩
theorem GK.setG {w w' : World} {g ga : Nat} {sv sv' : Value} (h : GK w w' g ga sv sv') (j : Nat) (v : Value) : GK w (w'.setCell ⟨g, j, none⟩ v) g ga sv sv' :=
  ⟨h.os, h.tape, h.output, by simpa [World.setCell] using h.size, fun k hk h1 h2 h3 => (Below.heap_setCell w' ⟨g, j, none⟩ v k h1).trans (h.block k hk h1 h2 h3), h.own⟩
theorem GK.setA {w w' : World} {g ga : Nat} {sv sv' : Value} (h : GK w w' g ga sv sv') (j : Nat) (v : Value) : GK w (w'.setCell ⟨ga, j, none⟩ v) g ga sv sv' :=
  ⟨h.os, h.tape, h.output, by simpa [World.setCell] using h.size, fun k hk h1 h2 h3 => (Below.heap_setCell w' ⟨ga, j, none⟩ v k h2).trans (h.block k hk h1 h2 h3), h.own⟩
theorem step_law {ops : Array Oper} {o : Oper} {a : Act} {w w1 : World} {K : Act → World → Prop} {Q : Exit → Act → World → Prop} {E : Prop} (hg : o.guard = none) (s x : Operand) (t : TypeId)
    (hop : o.op = Op.call { callee := Callee.builtin Builtin.append, args := #[s, x], argTypes := #[t, t] }) (u v v1 : Value) (hs : a.eval s = u) (hx : a.eval x = v)
    (hrun : (Builtin.append_ #[t, t] o.type #[u, v]).run Try.prog w = .ok v1 w1) (hK : K (a.put o.dst v1) w1) :
    if Region.wanted o (yielded ops a.tmps) = true then Oper.wp Try.prog o a w K Q else E := by
  have hw : Region.wanted o (yielded ops a.tmps) = true := by simp [Region.wanted, hg]
  rw [if_pos hw]
  unfold Oper.wp execOp
  simp only [hop, resolve, invoke, builtin, Sem.run_bind, Sem.run_pure, Result.andThen_ok, List.map_toArray, List.map_cons, List.map_nil, hs, hx, hrun]
  exact hK
set_option maxRecDepth 100000 in
set_option maxHeartbeats 2000000 in
theorem step_calls {base : Nat} {g ga n : Nat} {vI vN vO sv : Value} {s : GS} (x : S38) (w : World) (h : GH base w g ga n vI vN vO sv s) (hs : s.steps.length ≤ 65536) :
    Calls Try.prog 21 #[.pointer (some ⟨g, 0, none⟩), .agg #[.int .u8 x.f0, .int .i64 x.f1, .int .i64 x.f2, .int .u8 x.f3]] w fun e w' => ∃ sv', e = .returned (.tuple #[]) ∧ GH base w' g ga n vI vN vO sv' (stepS s x) ∧ GK w w' g ga sv sv' := by
  obtain ⟨Ao, co, rfl⟩ := Kd.R_slice h.rs
  have h1 := h.alloc (.cells #[Value.int .u8 x.f0, .int .i64 x.f1, .int .i64 x.f2, .int .u8 x.f3] 38)
  have k1 := (GK.refl w g ga (.slice Ao s.steps.length co)).alloc (.cells #[Value.int .u8 x.f0, .int .i64 x.f1, .int .i64 x.f2, .int .u8 x.f3] 38)
  have hb0 : (w.alloc (.cells #[Value.int .u8 x.f0, .int .i64 x.f1, .int .i64 x.f2, .int .u8 x.f3] 38)).heap[w.heap.size]? = some (.cells #[Value.int .u8 x.f0, .int .i64 x.f1, .int .i64 x.f2, .int .u8 x.f3] 38 (0, 0)) := heap_alloc_new w _
  have hc3 := h1.c 3 _ rfl
  have HH := Aside0.mk h1
  have HK := Aside0.mk k1
  have HB := Aside0.mk hb0
  have hu38 := Try.underlying38
  clear h h1 k1 hb0
  by_cases c : s.steps.length = 65536
  · have cb : ((s.steps.length : Int) == 65536) = true := beq_iff_eq.2 (by omega)
    have hs1 : stepS s x = { s with ok := false } := by unfold stepS; rw [if_pos c]
    rw [hs1]
    clear hs1 c
    have hc264 := HH.out.c 264 _ (gc_ok _ _ _ _ _ _ HH.out.len)
    have hf264 := HH.out.fz 264
    go_enter Try.func21, Try.ntmps21
    go_wp2_with fail
    refine bodyPost_ret (results_none rfl _ _ _) rfl ?_
    exact ⟨_, rfl, HH.out.set 264 _ _ (gc_setOk _ _ _ _ _ _ HH.out.len false) HH.out.len rfl rfl, HK.out.setG _ _⟩
  · have cb : ((s.steps.length : Int) == 65536) = false := beq_eq_false_iff_ne.2 (by omega)
    have hs1 : stepS s x = { s with steps := s.steps ++ [x] } := by unfold stepS; rw [if_neg c]
    rw [hs1]
    clear hs1 c
    have hb0 := HB.out
    have hq0 : (w.alloc (.cells #[Value.int .u8 x.f0, .int .i64 x.f1, .int .i64 x.f2, .int .u8 x.f3] 38)).cell? ⟨w.heap.size, 0, none⟩ = some (.int .u8 x.f0) := (blk_cell hb0 0).trans rfl
    have hq1 : (w.alloc (.cells #[Value.int .u8 x.f0, .int .i64 x.f1, .int .i64 x.f2, .int .u8 x.f3] 38)).cell? ⟨w.heap.size, 1, none⟩ = some (.int .i64 x.f1) := (blk_cell hb0 1).trans rfl
    have hq2 : (w.alloc (.cells #[Value.int .u8 x.f0, .int .i64 x.f1, .int .i64 x.f2, .int .u8 x.f3] 38)).cell? ⟨w.heap.size, 2, none⟩ = some (.int .i64 x.f2) := (blk_cell hb0 2).trans rfl
    have hq3 : (w.alloc (.cells #[Value.int .u8 x.f0, .int .i64 x.f1, .int .i64 x.f2, .int .u8 x.f3] 38)).cell? ⟨w.heap.size, 3, none⟩ = some (.int .u8 x.f3) := (blk_cell hb0 3).trans rfl
    clear hb0
    go_enter Try.func21, Try.ntmps21
    go_wp2_with fail
    generalize w.alloc (.cells #[Value.int .u8 x.f0, .int .i64 x.f1, .int .i64 x.f2, .int .u8 x.f3] 38) = W at HH HK HB hc3 hq0 hq1 hq2 hq3 ⊢
    have hD := HH.out.drew
    obtain ⟨v1, w2, hrun, hR, hg, hat⟩ := step_run W.drew base (.slice Ao s.steps.length co) s.steps x (fun k => k ≠ g ∧ k ≠ ga) hD.rs (fun k hk => ⟨fun e => by have := blk_lt hD.blk; omega, fun e => by have := blk_lt hD.ra; omega⟩) hD.bw hs
    obtain ⟨A1, c1, rfl⟩ := Kd.R_slice hR
    have hlen1 : (s.steps ++ [x]).length = s.steps.length + 1 := by simp
    rw [hlen1] at hR hrun hat
    clear hlen1
    have hbk2 : w2.heap[g]? = some (.cells (gcells vI vN vO (.slice Ao s.steps.length co) (.slice (some ⟨ga, 0, none⟩) n n) s).toArray 56 (0, 0)) := (hg.block g (blk_lt hD.blk) (fun e => (hD.rs.1 g e.symm).1 rfl)).trans hD.blk
    have hc32 : w2.cell? ⟨g, 3, none⟩ = some (.slice Ao s.steps.length co) := (blk_cell hbk2 3).trans rfl
    have hf32 := blk_frozen hbk2 3
    have hrun' : (Builtin.append_ #[26, 26] 26 #[.slice Ao s.steps.length co, .slice (some ⟨W.heap.size, 0, none⟩) 1 1]).run Try.prog (W.alloc (.cells #[Value.int .u8 x.f0, .int .i64 x.f1, .int .i64 x.f2, .int .u8 x.f3] 38)).drew = .ok (.slice A1 (s.steps.length + 1) c1) w2 := hrun
    have HR := Aside0.mk hR
    have HG := Aside0.mk hg
    have HAT := Aside0.mk hat
    have HD := Aside0.mk hD
    have HB2 := Aside0.mk hbk2
    have hc33 : (W.alloc (.cells #[Value.int .u8 x.f0, .int .i64 x.f1, .int .i64 x.f2, .int .u8 x.f3] 38)).drew.cell? ⟨g, 3, none⟩ = some (.slice Ao s.steps.length co) := (HH.out.alloc (.cells #[Value.int .u8 x.f0, .int .i64 x.f1, .int .i64 x.f2, .int .u8 x.f3] 38)).drew.c 3 _ rfl
    have hkw := HK.out
    have hfin : GH base (w2.setCell ⟨g, 3, none⟩ (.slice A1 (s.steps.length + 1) c1)) g ga n vI vN vO (.slice A1 (s.steps.length + 1) c1) { s with steps := s.steps ++ [x] } := by
      refine ⟨?_, hD.len, ?_, hD.la, hD.ne, Kd.R_far hR (p := ⟨g, 3, none⟩) (fun k hk => hk.1) _, hD.bg, hD.ba, ?_⟩
      · have h_ := blk_set hbk2 3 (.slice A1 (s.steps.length + 1) c1)
        rwa [List.setIfInBounds_toArray] at h_
      · exact (Below.heap_setCell w2 ⟨g, 3, none⟩ _ ga hD.ne).trans ((hg.block ga (blk_lt hD.ra) (fun e => (hD.rs.1 ga e.symm).2 rfl)).trans hD.ra)
      · have := hg.size; simpa [World.setCell] using Nat.le_trans hD.bw this
    have hkfin : GK w (w2.setCell ⟨g, 3, none⟩ (.slice A1 (s.steps.length + 1) c1)) g ga (.slice Ao s.steps.length co) (.slice A1 (s.steps.length + 1) c1) :=
      ⟨hg.os.trans hkw.os, hg.tape.trans hkw.tape, hg.output.trans hkw.output, by have h1 := hg.size; have h2 := hkw.size; simpa [World.setCell] using Nat.le_trans h2 h1,
        fun k hk h1 h2 h3 => (Below.heap_setCell w2 ⟨g, 3, none⟩ _ k h1).trans ((hg.block k (Nat.lt_of_lt_of_le hk hkw.size) h3).trans (hkw.block k hk h1 h2 h3)),
        fun k e => by
          rcases hat with h1 | ⟨b, h1, h2⟩
          · exact .inl (h1 ▸ e)
          · rw [h1] at e
            obtain rfl := Option.some.inj e
            exact .inr (Nat.le_trans hkw.size h2)⟩
    have HF := Aside0.mk hfin
    have HKF := Aside0.mk hkfin
    clear hrun hR hg hat hD hbk2 hkw hfin hkfin
    go_region_law (refine step_law rfl (.tmp 19) (.tmp 21) 26 rfl _ _ _ (by simp [Act.eval, Act.put]) (by simp [Act.eval, Act.put]) hrun' ?_)
    all_goals go_end0
    all_goals exact ⟨_, rfl, HF.out, HKF.out⟩

/-! ### slices_Index_bool_bool: function 44 -/
def slices_Index_bool_bool.l0 : Nat → List Bool → Bool → Int → Int → Option (Int)
 | 0, _, _, _, _ => none
 | k + 1, x0, x1, x7, x8 => if x8 < x7 then (if 0 ≤ x8 then (if x8 < (x0.length : Int) then (if (x1 == (rdOf false x0 x8)) = true then (some x8) else (slices_Index_bool_bool.l0 k x0 x1 x7 (wrap64 (x8 + 1)))) else (none)) else (none)) else (some (-1))
def slices_Index_bool_bool.f (k : Nat) (l0 : List Bool) (a1 : Bool) : Option (Int) := slices_Index_bool_bool.l0 k l0 a1 (l0.length : Int) 0
set_option maxHeartbeats 8000000 in
set_option maxRecDepth 100000 in
theorem slices_Index_bool_bool.calls (k : Nat) (A0 : Option Addr) (c0 : Nat) (l0 : List Bool) (a1 : Bool) (r : Int) (w : World) (hr0 : Kd.C Kd.bool w A0 l0.length l0) (hc0 : l0.length ≤ c0) (h : slices_Index_bool_bool.f k l0 a1 = some r) :
  Calls Try.prog 44 #[.slice A0 l0.length c0, .bool a1] w fun e w' => e = .returned (.int .i64 r) ∧ Drawn0 w w' := by
 have HR0 := Aside0.mk hr0
 have HC0 := Aside0.mk hc0
 clear hr0 hc0
 have H : (slices_Index_bool_bool.l0 k l0 a1 (l0.length : Int) 0) = some r := h
 clear h
 have H' := Aside0.mk H
 clear H
 go_enter Try.func44, Try.ntmps44
 go_wp2
 go_loopg [8] k (fun kq v8 w' => ∃ (x8_1 : Int), v8 = .int .i64 x8_1 ∧ Aside0 (slices_Index_bool_bool.l0 kq l0 a1 (l0.length : Int) x8_1 = some r) ∧ Aside0 (kq ≤ k) ∧ Drawn0 w w')
 case atStart => exact ⟨(0), (by first | rfl | (simp; done) | (simp [*]; done)), H', ⟨Nat.le_refl _⟩, by repeat (first | exact Drawn0.refl _ | apply Drawn0.step)⟩
 case round =>
  clear H'
  try clear p2
  obtain ⟨x8_1, rfl, HA, HK1, ⟨m1, rfl⟩⟩ := hrel
  cases gk with
  | zero => exact absurd HA.out (by simp [slices_Index_bool_bool.l0])
  | succ k1 =>
   have H := HA.out
   clear HA
   simp only [slices_Index_bool_bool.l0] at H
   by_cases c3 : x8_1 < (l0.length : Int)
   ·rw [if_pos c3] at H
    have c3b0 : decide (x8_1 < (l0.length : Int)) = true := decide_eq_true c3
    clear c3
    by_cases c4 : 0 ≤ x8_1
    ·rw [if_pos c4] at H
     have c4b0 : decide (0 ≤ x8_1) = true := decide_eq_true c4
     clear c4
     by_cases c5 : x8_1 < (l0.length : Int)
     ·rw [if_pos c5] at H
      have c5b0 : decide (x8_1 < (l0.length : Int)) = true := decide_eq_true c5
      clear c5
      by_cases c6 : (a1 == (rdOf false l0 x8_1)) = true
      ·rw [if_pos c6] at H
       have c6b0 : (a1 == (rdOf false l0 x8_1)) = true := c6
       (try (have c6b1 : decide (a1 = (rdOf false l0 x8_1)) = true := by simpa using c6))
       (try (have c6b2 : (a1 == (rdOf false l0 x8_1)) = true := by simpa using c6))
       clear c6
       obtain rfl := Option.some.inj H
       have p138 : 0 ≤ (x8_1 : Int) := of_decide_eq_true (by first | (with_reducible assumption) | assumption)
       have q138 : x8_1 < (l0.length : Int) := of_decide_eq_true (by first | (with_reducible assumption) | assumption)
       obtain ⟨ad138, e138, hx138_0⟩ := Kd.at_bool HR0.out x8_1 p138 q138
       cases e138
       replace p138 := eq_true p138
       replace q138 := eq_true q138
       go_wp2
       go_ret
       exact ⟨by first | rfl | (simp; done) | (simp [*]; done), by repeat (first | exact Drawn0.refl _ | apply Drawn0.step)⟩
      ·rw [if_neg c6] at H
       have c6b0 : (a1 == (rdOf false l0 x8_1)) = false := by simpa using c6
       (try (have c6b1 : decide (a1 = (rdOf false l0 x8_1)) = false := by simpa using c6))
       (try (have c6b2 : (a1 == (rdOf false l0 x8_1)) = false := by simpa using c6))
       (try (have c6b3 : ¬ (a1 = (rdOf false l0 x8_1)) := by simpa using c6))
       clear c6
       have H' := Aside0.mk H
       clear H
       have p138 : 0 ≤ (x8_1 : Int) := of_decide_eq_true (by first | (with_reducible assumption) | assumption)
       have q138 : x8_1 < (l0.length : Int) := of_decide_eq_true (by first | (with_reducible assumption) | assumption)
       obtain ⟨ad138, e138, hx138_0⟩ := Kd.at_bool HR0.out x8_1 p138 q138
       cases e138
       replace p138 := eq_true p138
       replace q138 := eq_true q138
       go_wp2
       go_roundg k1
       case measure => have := HK1.out; omega
       case rel => exact ⟨(wrap64 (x8_1 + 1)), (by first | rfl | (simp; done) | (simp [*]; done)), H', ⟨by have := HK1.out; omega⟩, by repeat (first | exact Drawn0.refl _ | apply Drawn0.step)⟩
     ·rw [if_neg c5] at H
      exact absurd H (by simp)
    ·rw [if_neg c4] at H
     exact absurd H (by simp)
   ·rw [if_neg c3] at H
    have c3b0 : decide (x8_1 < (l0.length : Int)) = false := decide_eq_false c3
    clear c3
    obtain rfl := Option.some.inj H
    go_wp2
    go_ret
    exact ⟨by first | rfl | (simp; done) | (simp [*]; done), by repeat (first | exact Drawn0.refl _ | apply Drawn0.step)⟩

/-! ### regs_giver_hold: function 33 (by hand) -/
def firstF : List Bool → Nat → Int
  | [], _ => -1
  | b :: r, i => if b = true then firstF r (i + 1) else (i : Int)
theorem firstF_bound : ∀ (l : List Bool) (i : Nat), firstF l i = -1 ∨ ((i : Int) ≤ firstF l i ∧ firstF l i < (i + l.length : Nat))
  | [], i => .inl rfl
  | b :: r, i => by
    unfold firstF
    cases b
    · right; simp only [Bool.false_eq_true, if_false, List.length_cons]; omega
    · simp only [if_true, List.length_cons]
      rcases firstF_bound r (i + 1) with h | h
      · exact .inl h
      · right; omega
theorem index_l0 (l : List Bool) (hl : l.length ≤ 65536) (d : Nat) : ∀ i : Nat, i + d = l.length → Ev (fun k => slices_Index_bool_bool.l0 k l false (l.length : Int) (i : Int)) (firstF (l.drop i) i) := by
  induction d with
  | zero =>
    intro i h
    rw [List.drop_eq_nil_of_le (by omega)]
    refine Ev.step (fun k => ?_) (Ev.now _)
    simp only [slices_Index_bool_bool.l0]
    rw [if_neg (by omega)]; rfl
  | succ d ih =>
    intro i h
    have hi : i < l.length := by omega
    rw [List.drop_eq_getElem_cons hi, firstF]
    have hr : rdOf false l (i : Int) = l[i] := by simp [rdOf, hi]
    cases hb : l[i]
    · refine Ev.step (fun k => ?_) (Ev.now _)
      simp only [slices_Index_bool_bool.l0]
      rw [if_pos (by omega), if_pos (by omega), if_pos (by omega), hr, hb]; rfl
    · refine Ev.step (fun k => ?_) (ih (i + 1) (by omega))
      simp only [slices_Index_bool_bool.l0]
      rw [if_pos (by omega), if_pos (by omega), if_pos (by omega), hr, hb]
      have hw : wrap64 ((i : Int) + 1) = ((i + 1 : Nat) : Int) := by unfold wrap64; omega
      rw [hw]; rfl
theorem index_f (l : List Bool) (hl : l.length ≤ 65536) : ∃ k, slices_Index_bool_bool.f k l false = some (firstF l 0) := (index_l0 l hl l.length 0 (by omega)).rounds
def holdR (s : GS) : Nat := (firstF s.taken 0).toNat
def holdS (s : GS) (v : Nat) : GS := { s with taken := s.taken.set (holdR s) true, at_ := s.at_.set v (holdR s), regs := max s.regs ((holdR s : Int) + 1), ok := if firstF s.taken 0 < 0 then false else s.ok }
theorem add_off (b o j : Nat) : (⟨b, o, none⟩ : Addr).add j = ⟨b, o + j, none⟩ := by unfold Addr.add; split <;> simp_all
theorem GH.setA {base : Nat} {w : World} {g ga n : Nat} {vI vN vO sv : Value} {s : GS} (h : GH base w g ga n vI vN vO sv s) (j : Nat) (x : Int) :
    GH base (w.setCell ⟨ga, j, none⟩ (.int .i64 x)) g ga n vI vN vO sv { s with at_ := s.at_.set j x } := by
  refine ⟨?_, h.len, enc_store h.ra j x, by show (s.at_.set j x).length = n; rw [List.length_set]; exact h.la, h.ne, Kd.R_far h.rs (p := ⟨ga, j, none⟩) (fun k hk => hk.2) _, h.bg, h.ba, by simpa [World.setCell] using h.bw⟩
  exact (Below.heap_setCell w ⟨ga, j, none⟩ _ g (fun e => h.ne e.symm)).trans h.blk
set_option maxRecDepth 100000 in
set_option maxHeartbeats 2000000 in
theorem hold_calls {base : Nat} {g ga n : Nat} {vI vN vO sv : Value} {s : GS} (v : Nat) (w : World) (h : GH base w g ga n vI vN vO sv s) (hv : v < n) (hn : n ≤ 4160) (hr : 0 ≤ s.regs ∧ s.regs ≤ 256) :
    Calls Try.prog 33 #[.pointer (some ⟨g, 0, none⟩), .int .i64 (v : Int)] w fun e w' => e = .returned (.tuple #[]) ∧ GH base w' g ga n vI vN vO sv (holdS s v) ∧ GK w w' g ga sv sv := by
  obtain ⟨k, hk⟩ := index_f s.taken (by have := h.len; omega)
  have hC : Kd.C Kd.bool w (some ⟨g, 7, none⟩) s.taken.length s.taken := Kd.C_of_reads (enc := Value.bool) (d := false) (h1 := fun _ => rfl) ⟨rfl, by have := h.len; omega, fun _ => ⟨_, rfl, fun j hj => by
    rw [add_off]
    exact h.c (7 + j) _ (gc_taken _ _ _ _ _ _ h.len j (by have := h.len; omega))⟩⟩
  have hI := slices_Index_bool_bool.calls k (some ⟨g, 7, none⟩) 256 s.taken false (firstF s.taken 0) w hC (by have := h.len; omega) hk
  rw [h.len] at hI
  have HI := Aside0.mk hI
  have HH := Aside0.mk h
  have HK := Aside0.mk (GK.refl w g ga sv)
  have hfb := firstF_bound s.taken 0
  rw [h.len] at hfb
  have hu54 := Try.underlying54
  have hla : s.at_.length = n := h.la
  clear hC hI hk h
  by_cases c : firstF s.taken 0 < 0
  · have cb : decide (firstF s.taken 0 < 0) = true := decide_eq_true c
    have hR : holdR s = 0 := by unfold holdR; omega
    have hc264 := HH.out.c 264 _ (gc_ok _ _ _ _ _ _ HH.out.len)
    have hf264 := HH.out.fz 264
    have hs : holdS s v = { ({ s with ok := false } : GS) with taken := s.taken.set 0 true, at_ := s.at_.set v 0, regs := max s.regs 1 } := by unfold holdS; rw [hR, if_pos c]; rfl
    have HS := Aside0.mk hs
    clear c hs hfb hR
    go_enter Try.func33, Try.ntmps33
    go_wp2_with (go_at_call 44; refine HI.out.mono ?_; rintro e w1 ⟨rfl, ⟨q, rfl⟩⟩)
    have HH2 := Aside0.mk ((HH.out.drewN q).set 264 _ _ (gc_setOk _ _ _ _ _ _ HH.out.len false) HH.out.len rfl rfl)
    have HK2 := Aside0.mk ((HK.out.drewN q).setG 264 (.bool false))
    generalize (w.drewN q).setCell ⟨g, 264, none⟩ (.bool false) = W at HH2 HK2 ⊢
    clear hc264 hf264
    have hx263 := HH2.out.c 263 _ (gc_at _ _ _ _ _ _ HH2.out.len)
    have hxT := HH2.out.c (7 + 0) _ (gc_taken _ _ _ _ _ _ HH2.out.len 0 (by omega))
    have hfT := HH2.out.fz (7 + 0)
    have hxA : W.cell? ⟨ga, v, none⟩ = some (.int .i64 (s.at_.getD v 0)) := cell_enc HH2.out.ra v (by show v < s.at_.length; omega)
    have hfA := blk_frozen HH2.out.ra v
    have hne := HH2.out.ne
    have hne2 : g ≠ ga := fun e_ => hne e_.symm
    have hvi : (v : Int) < (n : Int) := by omega
    have hri : (0 : Int) < 256 := by omega
    go_region
    have HH3 := Aside0.mk (((HH2.out.set (7 + 0) _ _ (gc_setT _ _ _ _ _ _ HH2.out.len 0 (by omega) true) (by show (List.set _ _ _).length = 256; rw [List.length_set]; exact HH2.out.len) rfl rfl).setA v 0).drew)
    have HK3 := Aside0.mk (((HK2.out.setG (7 + 0) (.bool true)).setA v (.int .i64 0)).drew)
    clear hx263 hxT hfT hxA hfA hne hne2
    generalize ((W.setCell ⟨g, 7 + 0, none⟩ (.bool true)).setCell ⟨ga, v, none⟩ (.int .i64 0)).drew = W3 at HH3 HK3 ⊢
    have hy4 := HH3.out.c 4 _ rfl
    have hf4 := HH3.out.fz 4
    have hwr : IntKind.i64.wrap ((0 : Int) + 1) = (0 : Int) + 1 := by rw [i64_w]; unfold wrap64; omega
    go_wp2_with fail
    all_goals go_end0
    all_goals rw [HS.out]
    all_goals refine ⟨rfl, ?_, HK3.out.setG _ _⟩
    all_goals first
      | (rw [show max s.regs (1) = s.regs by omega]; exact HH3.out.set 4 _ _ (gc_set4 _ _ _ _ _ _ s.regs) HH3.out.len rfl rfl)
      | (rw [show max s.regs (1) = 1 by omega]; exact HH3.out.set 4 _ _ (gc_set4 _ _ _ _ _ _ (1)) HH3.out.len rfl rfl)
  · have cb : decide (firstF s.taken 0 < 0) = false := decide_eq_false c
    obtain ⟨r, hr1, hr2⟩ : ∃ r : Nat, firstF s.taken 0 = (r : Int) ∧ r < 256 := ⟨(firstF s.taken 0).toNat, by omega, by omega⟩
    have hR : holdR s = r := by unfold holdR; omega
    have hs : holdS s v = { s with taken := s.taken.set r true, at_ := s.at_.set v r, regs := max s.regs ((r : Int) + 1) } := by unfold holdS; rw [hR, if_neg c]
    have HS := Aside0.mk hs
    rw [hr1] at cb HI
    clear c hs hfb hR hr1
    go_enter Try.func33, Try.ntmps33
    go_wp2_with (go_at_call 44; refine HI.out.mono ?_; rintro e w1 ⟨rfl, ⟨q, rfl⟩⟩)
    have HH2 := Aside0.mk (HH.out.drewN q)
    have HK2 := Aside0.mk (HK.out.drewN q)
    generalize w.drewN q = W at HH2 HK2 ⊢
    have hx263 := HH2.out.c 263 _ (gc_at _ _ _ _ _ _ HH2.out.len)
    have hxT := HH2.out.c (7 + r) _ (gc_taken _ _ _ _ _ _ HH2.out.len r hr2)
    have hfT := HH2.out.fz (7 + r)
    have hxA : W.cell? ⟨ga, v, none⟩ = some (.int .i64 (s.at_.getD v 0)) := cell_enc HH2.out.ra v (by show v < s.at_.length; omega)
    have hfA := blk_frozen HH2.out.ra v
    have hne := HH2.out.ne
    have hne2 : g ≠ ga := fun e_ => hne e_.symm
    have hvi : (v : Int) < (n : Int) := by omega
    have hri : (r : Int) < 256 := by omega
    go_region
    have HH3 := Aside0.mk (((HH2.out.set (7 + r) _ _ (gc_setT _ _ _ _ _ _ HH2.out.len r hr2 true) (by show (List.set _ _ _).length = 256; rw [List.length_set]; exact HH2.out.len) rfl rfl).setA v r).drew)
    have HK3 := Aside0.mk (((HK2.out.setG (7 + r) (.bool true)).setA v (.int .i64 r)).drew)
    clear hx263 hxT hfT hxA hfA hne hne2
    generalize ((W.setCell ⟨g, 7 + r, none⟩ (.bool true)).setCell ⟨ga, v, none⟩ (.int .i64 r)).drew = W3 at HH3 HK3 ⊢
    have hy4 := HH3.out.c 4 _ rfl
    have hf4 := HH3.out.fz 4
    have hwr : IntKind.i64.wrap ((r : Int) + 1) = (r : Int) + 1 := by rw [i64_w]; unfold wrap64; omega
    go_wp2_with fail
    all_goals go_end0
    all_goals rw [HS.out]
    all_goals refine ⟨rfl, ?_, HK3.out.setG _ _⟩
    all_goals first
      | (rw [show max s.regs ((r : Int) + 1) = s.regs by omega]; exact HH3.out.set 4 _ _ (gc_set4 _ _ _ _ _ _ s.regs) HH3.out.len rfl rfl)
      | (rw [show max s.regs ((r : Int) + 1) = (r : Int) + 1 by omega]; exact HH3.out.set 4 _ _ (gc_set4 _ _ _ _ _ _ ((r : Int) + 1)) HH3.out.len rfl rfl)

end Go.Proofs.Ytlflfpkjbjbldaa.PA
