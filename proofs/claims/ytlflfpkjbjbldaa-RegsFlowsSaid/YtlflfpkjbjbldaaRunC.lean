import Derived.Test.YtlflfpkjbjbldaaRunB
namespace Go.Proofs.Ytlflfpkjbjbldaa.PA
open Go.RowKit Go.Proofs.YtlflfpkjbjbldaaW.PrintWords Go.Proofs.YtlflfpkjbjbldaaW.PrintLast Go.Proofs.YtlflfpkjbjbldaaW.PrintMore
attribute [local go_sem] max2_int min2_int max_two min_two max_three min_three max_four min_four
set_option linter.unusedVariables false
set_option linter.unusedSimpArgs false
theorem may_f (l : List S38) (a1 a2 a3 : Int) : regs_may.f l a1 a2 a3 = some (decide (mayP l a1 a2)) := by
  unfold regs_may.f
  by_cases hm : mayP l a1 a2
  · rw [decide_eq_true hm]
    obtain ⟨h1, h2, h3, h4, h5⟩ := hm
    rw [if_pos h1, if_pos h2, if_pos h3, if_pos h4, decide_eq_true (by omega)]
  · rw [decide_eq_false hm]
    have hn : ¬ (0 ≤ a1 ∧ a1 ≤ 256 ∧ 0 ≤ a2 ∧ a2 ≤ 64 ∧ l.length ≤ 65536) := hm
    repeat' split
    all_goals first | rfl | (rw [Option.some.injEq, decide_eq_false_iff_not]; omega)
theorem made_nil (n : Nat) (size : Nat) : madeCells #[Value.slice none 0 0] n = encMs size (List.replicate n none) := by
  apply Array.ext
  · simp [size_madeCells, encMs]
  · intro i h1 h2
    simp [madeCells, encMs, encM, Nat.mod_one]
/-- The machine as Run makes it. -/
theorem MH.start {base : Nat} {w : World} {m gr go nr no : Nat} {vB : Value} {size : Nat} (hm : w.heap[m]? = some (.cells #[.slice (some ⟨gr, 0, none⟩) nr nr, .slice (some ⟨go, 0, none⟩) no no, vB, .int .i64 (size : Int)] 67 (0, 0)))
    (hr : w.heap[gr]? = some (.cells (madeCells #[.slice none 0 0] nr) 68 (0, 0))) (ho : w.heap[go]? = some (.cells (madeCells #[.slice none 0 0] no) 68 (0, 0))) (ne : gr ≠ go) (bm : base ≤ m) (br : base ≤ gr) (bo : base ≤ go) (bw : base ≤ w.heap.size) (sz : size ≤ 140737488351232) (rl : nr ≤ 256) (ol : no ≤ 64) :
    MH base w m gr go vB size (List.replicate nr none) (List.replicate no none) := by
  have hn : ∀ r : MR, some r ∉ List.replicate nr (none : Option MR) ++ List.replicate no none := fun r hr => by
    rcases List.mem_append.1 hr with h | h <;> cases (List.mem_replicate.1 h).2
  refine ⟨by rw [List.length_replicate, List.length_replicate]; exact hm, by rw [← made_nil]; exact hr, by rw [← made_nil]; exact ho, fun r hr => absurd hr (hn r), fun i j a b ha _ _ => absurd (List.mem_of_getElem? ha) (hn a), ne, bm, br, bo, bw, sz, by rw [List.length_replicate]; exact rl, by rw [List.length_replicate]; exact ol⟩
set_option maxRecDepth 100000 in
set_option maxHeartbeats 4000000 in
theorem regs_Run.calls (A0_0 : Option Addr) (c0_0 : Nat) (l0_0 : List (S38)) (a0_1 : Int) (a0_2 : Int) (a0_3 : Int) (A1 : Option Addr) (c1 : Nat) (l1 : List (List Int)) (r1 : List (List Int)) (r2 : Int) (w : World) (hr0_0 : Kd.C k38 w A0_0 l0_0.length l0_0) (hc0_0 : l0_0.length ≤ c0_0) (hr1 : Kd.C (Kd.slice 5 (Kd.int .u8)) w A1 l1.length l1) (hc1 : l1.length ≤ c1) (h : regs_Run.f l0_0 a0_1 a0_2 a0_3 l1 = some (r1, r2)) :
    Calls Try.prog 12 #[.agg #[.slice A0_0 l0_0.length c0_0, .int .i64 a0_1, .int .i64 a0_2, .int .u64 a0_3], .slice A1 l1.length c1] w fun e w' => ∃ v0_ : Value, e = .returned (.tuple #[v0_, .int .i64 r2]) ∧ Kd.S (Kd.slice 5 (Kd.int .u8)) 68 w' w.heap.size (fun _ => True) v0_ r1 ∧ Below w.heap.size w w' := by
  have hu30 := Try.underlying30
  obtain ⟨bp, hbp⟩ : ∃ bp, w.heap.size = bp := ⟨_, rfl⟩
  obtain ⟨W0, hW0⟩ : ∃ W0, ((w.alloc (.cells #[.slice A0_0 l0_0.length c0_0, .int .i64 a0_1, .int .i64 a0_2, .int .u64 a0_3] 30)).alloc (.cells #[.slice none 0 0, .slice none 0 0, .slice A1 l1.length c1, .int .i64 0] 67)) = W0 := ⟨_, rfl⟩
  have hb0 : Below w.heap.size w W0 := hW0 ▸ below_alloc (below_alloc (Below.refl _ _) _) _
  have hbm : W0.heap[w.heap.size + 1]? = some (.cells #[.slice none 0 0, .slice none 0 0, .slice A1 l1.length c1, .int .i64 0] 67 (0, 0)) := by
    have h_ := heap_alloc_new (w.alloc (.cells #[.slice A0_0 l0_0.length c0_0, .int .i64 a0_1, .int .i64 a0_2, .int .u64 a0_3] 30)) (.cells #[.slice none 0 0, .slice none 0 0, .slice A1 l1.length c1, .int .i64 0] 67)
    rw [hW0] at h_
    rwa [show (w.alloc (.cells #[.slice A0_0 l0_0.length c0_0, .int .i64 a0_1, .int .i64 a0_2, .int .u64 a0_3] 30)).heap.size = w.heap.size + 1 by simp] at h_
  have hbf : W0.heap[w.heap.size]? = some (.cells #[.slice A0_0 l0_0.length c0_0, .int .i64 a0_1, .int .i64 a0_2, .int .u64 a0_3] 30 (0, 0)) := hW0 ▸ blk_alloc (heap_alloc_new w _) _
  have hmx : l1.length ≤ 9223372036854775807 := hr1.2.1
  have HR0 := Aside0.mk hr0_0
  have HR1 := Aside0.mk hr1
  have H := Aside0.mk h
  have HC0 := Aside0.mk hc0_0
  have HB0 := Aside0.mk hb0
  have HBM := Aside0.mk hbm
  have HBF := Aside0.mk hbf
  have HW0 := Aside0.mk hW0
  have HBPE := Aside0.mk hbp
  clear hr0_0 hr1 h hb0 hbm hbf hW0 hc0_0 hbp
  go_enter Try.func12, Try.ntmps12
  (go_wp2_with fail; repeat (go_step3; go_wp2_with fail))
  rw [HW0.out]
  rw [HBPE.out] at HBM HBF ⊢
  obtain ⟨m, hm⟩ : ∃ m, bp + 1 = m := ⟨_, rfl⟩
  simp only [hm] at HBM ⊢
  have HME := Aside0.mk hm
  clear hm HW0
  go_loopw [17] (fun v17 w' => ∃ i : Nat, i ≤ l1.length ∧ v17 = .int .i64 i ∧ Aside0 (w'.heap[m]? = some (.cells #[.slice none 0 0, .slice none 0 0, .slice A1 l1.length c1, .int .i64 ((if i = 0 then 0 else sizeB l1 : Nat) : Int)] 67 (0, 0))) ∧ Aside0 ((l1.take i).all (fun b => decide (b.length = sizeB l1)) = true) ∧ Aside0 (Below bp w w') ∧ Aside0 (w'.heap[bp]? = some (.cells #[.slice A0_0 l0_0.length c0_0, .int .i64 a0_1, .int .i64 a0_2, .int .u64 a0_3] 30 (0, 0)))) (fun v _ => l1.length - (intOf v).toNat)
  case atStart => exact ⟨0, Nat.zero_le _, rfl, HBM, ⟨rfl⟩, ⟨HBPE.out ▸ HB0.out⟩, HBF⟩
  case round =>
    obtain ⟨i, hi, rfl, HMi, HAi, HBi, HFi⟩ := hrel
    by_cases hlt : i < l1.length
    · obtain ⟨adb, Ab, cb, rfl, hb0, hcb, hbC⟩ := at_L13 (Kd.C_below HR1.out (HBPE.out ▸ HBi.out)) (i : Int) (by omega) (by omega)
      simp only [Int.toNat_natCast] at hb0
      have htk : (l1.take (i + 1)).all (fun b => decide (b.length = sizeB l1)) = ((l1.take i).all (fun b => decide (b.length = sizeB l1)) && decide ((rd_L13 l1 (i : Int)).length = sizeB l1)) := by
        rw [List.take_succ_eq_append_getElem hlt, List.all_append]; simp [rd_L13, hlt]
      have c3 : wr.cell? ⟨m, 3, none⟩ = some (.int .i64 ((if i = 0 then 0 else sizeB l1 : Nat) : Int)) := (blk_cell HMi.out 3).trans rfl
      have f3 := blk_frozen HMi.out 3
      have hlm := hbC.2.1
      have HTK := Aside0.mk htk
      have hii : (i : Int) < (l1.length : Int) := by omega
      obtain ⟨lb, hlb⟩ : ∃ lb, (rd_L13 l1 (i : Int)).length = lb := ⟨_, rfl⟩
      rw [hlb] at hb0 hlm HTK
      have HLB := Aside0.mk hlb
      clear htk hcb hbC hlb
      by_cases hi0 : i = 0
      · subst hi0
        have hs0 : lb = sizeB l1 := HLB.out.symm
        subst hs0
        simp only [if_true] at c3
        rw [Addr.add_zero'] at hb0
        go_wp2_with fail
        go_roundw
        case rel =>
          refine ⟨1, by omega, rfl, ⟨blk_put (cs := #[.slice none 0 0, .slice none 0 0, .slice (some adb) l1.length c1, .int .i64 0]) HMi.out 3 _ rfl⟩, ⟨?_⟩, ⟨Below.setCell HBi.out (by show bp ≤ m; have := HME.out; omega) _⟩, ⟨(Below.heap_setCell wr ⟨m, 3, none⟩ _ bp (by show bp ≠ m; have := HME.out; omega)).trans HFi.out⟩⟩
          have h_ := HTK.out
          rw [HAi.out] at h_
          rw [h_]; simp
        case measure => simp [intOf]; omega
      · rw [if_neg hi0] at c3
        have hib : ((i : Int) == 0) = false := beq_eq_false_iff_ne.2 (by omega)
        by_cases hs : lb = sizeB l1
        · subst hs
          go_wp2_with fail
          go_roundw
          case rel =>
            refine ⟨i + 1, by omega, by go_num, ⟨?_⟩, ⟨?_⟩, HBi, HFi⟩
            · have h_ := HMi.out
              rw [if_neg hi0] at h_
              rw [if_neg (by omega)]; exact h_
            · have h_ := HTK.out
              rw [HAi.out] at h_
              rw [h_]; simp
          case measure => simp [intOf]; omega
        · have hsb : ((lb : Int) != (sizeB l1 : Int)) = true := bne_iff_ne.2 (by omega)
          have h_ := H.out
          unfold regs_Run.f at h_
          have hall : l1.all (fun b => decide (b.length = sizeB l1)) ≠ true := by
            intro ha
            have h1 := List.all_eq_true.1 ha l1[i] (List.getElem_mem _)
            have h2 := of_decide_eq_true h1
            apply hs
            rw [← HLB.out, ← h2]; simp [rd_L13, hlt]
          rw [if_neg hall] at h_
          simp only [Option.some.injEq, Prod.mk.injEq] at h_
          obtain ⟨rfl, rfl⟩ := h_
          clear hs hall
          go_wp2_with fail
          rw [Exit.noGoto_ret]
          go_ret2
          exact ⟨_, rfl, Kd.S_nil _ _ _ _ _, HBPE.out ▸ HBi.out⟩
    · obtain rfl : i = l1.length := by omega
      rw [List.take_length] at HAi
      have hp0 : wr.cell? ⟨bp, 0, none⟩ = some (.slice A0_0 l0_0.length c0_0) := (blk_cell HFi.out 0).trans rfl
      have hp1 : wr.cell? ⟨bp, 1, none⟩ = some (.int .i64 a0_1) := (blk_cell HFi.out 1).trans rfl
      have hp2 : wr.cell? ⟨bp, 2, none⟩ = some (.int .i64 a0_2) := (blk_cell HFi.out 2).trans rfl
      have hp3 : wr.cell? ⟨bp, 3, none⟩ = some (.int .u64 a0_3) := (blk_cell HFi.out 3).trans rfl
      have hmc := regs_may.calls A0_0 c0_0 l0_0 a0_1 a0_2 a0_3 _ wr (Kd.C_below HR0.out (HBPE.out ▸ HBi.out)) HC0.out (may_f l0_0 a0_1 a0_2 a0_3)
      have HMC := Aside0.mk hmc
      clear hmc
      have h_ := H.out
      unfold regs_Run.f at h_
      rw [if_pos HAi.out] at h_
      by_cases hsz : sizeB l1 ≤ 140737488351232
      · rw [if_pos hsz] at h_
        by_cases hm : mayP l0_0 a0_1 a0_2
        · rw [if_pos hm] at h_
          obtain ⟨X, hX, hE⟩ := Option.bind_eq_some_iff.1 h_
          have HX := Aside0.mk hX
          have HE := Aside0.mk hE
          have HMP := Aside0.mk hm
          clear h_ hX hE
          rw [decide_eq_true hm] at HMC
          clear hm
          go_wp2_with (go_at_call 23; refine HMC.out.mono ?_; rintro e w2 ⟨rfl, hbw⟩; have HBW := Aside0.mk hbw; clear hbw hp0 hp1 hp2 hp3)
          obtain ⟨nr, hnr⟩ : ∃ nr : Nat, a0_1 = (nr : Int) := ⟨a0_1.toNat, by have := HMP.out.1; omega⟩
          obtain ⟨no, hno⟩ : ∃ no : Nat, a0_2 = (no : Int) := ⟨a0_2.toNat, by have := HMP.out.2.2.1; omega⟩
          subst hnr hno
          have hnr2 : nr ≤ 256 := by have := HMP.out.2.1; omega
          have hno2 : no ≤ 64 := by have := HMP.out.2.2.2.1; omega
          have hbF2 := (HBW.out.block _ (blk_lt HFi.out)).trans HFi.out
          have hbM2 := (HBW.out.block _ (blk_lt HMi.out)).trans HMi.out
          have hB2 : Below bp w w2 := HBPE.out ▸ below_step (HBPE.out ▸ HBi.out) HBW.out
          have hsb : (if l1.length = 0 then 0 else sizeB l1) = sizeB l1 := by
            split
            · rename_i h0; rw [List.length_eq_zero_iff.1 h0]; rfl
            · rfl
          rw [hsb] at hbM2
          have p1 : w2.cell? ⟨bp, 1, none⟩ = some (.int .i64 (nr : Int)) := (blk_cell hbF2 1).trans rfl
          have p2 : w2.cell? ⟨bp, 2, none⟩ = some (.int .i64 (no : Int)) := (blk_cell hbF2 2).trans rfl
          have m0 : w2.cell? ⟨m, 0, none⟩ = some (.slice none 0 0) := (blk_cell hbM2 0).trans rfl
          have m1 : w2.cell? ⟨m, 1, none⟩ = some (.slice none 0 0) := (blk_cell hbM2 1).trans rfl
          have z0 := blk_frozen hbM2 0
          have z1 := blk_frozen hbM2 1
          have n1 := World.new_ne w2 _ p1
          have n2 := World.new_ne w2 _ p2
          have n3 := World.new_ne w2 _ m0
          have e1 : ¬ m = bp := by have := HME.out; omega
          have e2 : ¬ bp = m := by have := HME.out; omega
          have mk1 := run_make_row' (P := Try.prog) 41 68 (.slice none 0 0) 24 Try.underlying41 info68 rfl .i64 .i64 nr (by omega) (by omega)
          have mk2 := run_make_row' (P := Try.prog) 41 68 (.slice none 0 0) 24 Try.underlying41 info68 rfl .i64 .i64 no (by omega) (by omega)
          have hA := blk_alloc (blk_alloc hbM2 (.cells (madeCells #[.slice none 0 0] nr) 68)) (.cells (madeCells #[.slice none 0 0] no) 68)
          have hA' : (((w2.alloc (.cells (madeCells #[.slice none 0 0] nr) 68)).alloc (.cells (madeCells #[.slice none 0 0] no) 68)).drew).heap[m]? = some (.cells #[.slice none 0 0, .slice none 0 0, .slice A1 l1.length c1, .int .i64 (sizeB l1 : Int)] 67 (0, 0)) := hA
          have hC := blk_alloc (blk_alloc hbM2 (.cells (madeCells #[.slice none 0 0] no) 68)) (.cells (madeCells #[.slice none 0 0] nr) 68)
          have hC' : (((w2.alloc (.cells (madeCells #[.slice none 0 0] no) 68)).alloc (.cells (madeCells #[.slice none 0 0] nr) 68)).drew).heap[m]? = some (.cells #[.slice none 0 0, .slice none 0 0, .slice A1 l1.length c1, .int .i64 (sizeB l1 : Int)] 67 (0, 0)) := hC
          have a0 : (((w2.alloc (.cells (madeCells #[.slice none 0 0] nr) 68)).alloc (.cells (madeCells #[.slice none 0 0] no) 68)).drew).cell? ⟨m, 0, none⟩ = some (.slice none 0 0) := (blk_cell hA' 0).trans rfl
          have a1 : (((w2.alloc (.cells (madeCells #[.slice none 0 0] nr) 68)).alloc (.cells (madeCells #[.slice none 0 0] no) 68)).drew).cell? ⟨m, 1, none⟩ = some (.slice none 0 0) := (blk_cell hA' 1).trans rfl
          have az0 := blk_frozen hA' 0
          have az1 := blk_frozen hA' 1
          have d0 : (((w2.alloc (.cells (madeCells #[.slice none 0 0] no) 68)).alloc (.cells (madeCells #[.slice none 0 0] nr) 68)).drew).cell? ⟨m, 0, none⟩ = some (.slice none 0 0) := (blk_cell hC' 0).trans rfl
          have d1 : (((w2.alloc (.cells (madeCells #[.slice none 0 0] no) 68)).alloc (.cells (madeCells #[.slice none 0 0] nr) 68)).drew).cell? ⟨m, 1, none⟩ = some (.slice none 0 0) := (blk_cell hC' 1).trans rfl
          have dz0 := blk_frozen hC' 0
          have dz1 := blk_frozen hC' 1
          have a1' : ((w2.alloc (.cells (madeCells #[.slice none 0 0] nr) 68)).alloc (.cells (madeCells #[.slice none 0 0] no) 68)).cell? ⟨m, 1, none⟩ = some (.slice none 0 0) := (blk_cell hA 1).trans rfl
          have az1' := blk_frozen hA 1
          have d1' : ((w2.alloc (.cells (madeCells #[.slice none 0 0] no) 68)).alloc (.cells (madeCells #[.slice none 0 0] nr) 68)).cell? ⟨m, 1, none⟩ = some (.slice none 0 0) := (blk_cell hC 1).trans rfl
          have dz1' := blk_frozen hC 1
          have a0' : ((w2.alloc (.cells (madeCells #[.slice none 0 0] nr) 68)).alloc (.cells (madeCells #[.slice none 0 0] no) 68)).cell? ⟨m, 0, none⟩ = some (.slice none 0 0) := (blk_cell hA 0).trans rfl
          have az0' := blk_frozen hA 0
          have d0' : ((w2.alloc (.cells (madeCells #[.slice none 0 0] no) 68)).alloc (.cells (madeCells #[.slice none 0 0] nr) 68)).cell? ⟨m, 0, none⟩ = some (.slice none 0 0) := (blk_cell hC 0).trans rfl
          have dz0' := blk_frozen hC 0
          have hb := blk_alloc hbM2 (.cells (madeCells #[.slice none 0 0] nr) 68)
          have hb' : ((w2.alloc (.cells (madeCells #[.slice none 0 0] nr) 68)).drew).heap[m]? = some (.cells #[.slice none 0 0, .slice none 0 0, .slice A1 l1.length c1, .int .i64 (sizeB l1 : Int)] 67 (0, 0)) := hb
          have bc0 : (w2.alloc (.cells (madeCells #[.slice none 0 0] nr) 68)).cell? ⟨m, 0, none⟩ = some (.slice none 0 0) := (blk_cell hb 0).trans rfl
          have bcd0 : ((w2.alloc (.cells (madeCells #[.slice none 0 0] nr) 68)).drew).cell? ⟨m, 0, none⟩ = some (.slice none 0 0) := (blk_cell hb' 0).trans rfl
          have bz0 := blk_frozen hb 0
          have bzd0 := blk_frozen hb' 0
          have bc1 : (w2.alloc (.cells (madeCells #[.slice none 0 0] nr) 68)).cell? ⟨m, 1, none⟩ = some (.slice none 0 0) := (blk_cell hb 1).trans rfl
          have bcd1 : ((w2.alloc (.cells (madeCells #[.slice none 0 0] nr) 68)).drew).cell? ⟨m, 1, none⟩ = some (.slice none 0 0) := (blk_cell hb' 1).trans rfl
          have bz1 := blk_frozen hb 1
          have bzd1 := blk_frozen hb' 1
          clear hb hb'
          have he := blk_alloc hbM2 (.cells (madeCells #[.slice none 0 0] no) 68)
          have he' : ((w2.alloc (.cells (madeCells #[.slice none 0 0] no) 68)).drew).heap[m]? = some (.cells #[.slice none 0 0, .slice none 0 0, .slice A1 l1.length c1, .int .i64 (sizeB l1 : Int)] 67 (0, 0)) := he
          have ec0 : (w2.alloc (.cells (madeCells #[.slice none 0 0] no) 68)).cell? ⟨m, 0, none⟩ = some (.slice none 0 0) := (blk_cell he 0).trans rfl
          have ecd0 : ((w2.alloc (.cells (madeCells #[.slice none 0 0] no) 68)).drew).cell? ⟨m, 0, none⟩ = some (.slice none 0 0) := (blk_cell he' 0).trans rfl
          have ez0 := blk_frozen he 0
          have ezd0 := blk_frozen he' 0
          have ec1 : (w2.alloc (.cells (madeCells #[.slice none 0 0] no) 68)).cell? ⟨m, 1, none⟩ = some (.slice none 0 0) := (blk_cell he 1).trans rfl
          have ecd1 : ((w2.alloc (.cells (madeCells #[.slice none 0 0] no) 68)).drew).cell? ⟨m, 1, none⟩ = some (.slice none 0 0) := (blk_cell he' 1).trans rfl
          have ez1 := blk_frozen he 1
          have ezd1 := blk_frozen he' 1
          clear he he'
          have hX1 : (w2.setCell ⟨m, 0, none⟩ (.slice (some ⟨w2.heap.size, 0, none⟩) nr nr)).heap[m]? = some (.cells #[.slice (some ⟨w2.heap.size, 0, none⟩) nr nr, .slice none 0 0, .slice A1 l1.length c1, .int .i64 (sizeB l1 : Int)] 67 (0, 0)) := blk_put hbM2 0 _ rfl
          have hx : (((w2.setCell ⟨m, 0, none⟩ (.slice (some ⟨w2.heap.size, 0, none⟩) nr nr)).alloc (.cells (madeCells #[.slice none 0 0] nr) 68)).alloc (.cells (madeCells #[.slice none 0 0] no) 68)).heap[m]? = some (.cells #[.slice (some ⟨w2.heap.size, 0, none⟩) nr nr, .slice none 0 0, .slice A1 l1.length c1, .int .i64 (sizeB l1 : Int)] 67 (0, 0)) := blk_alloc (blk_alloc hX1 _) _
          have xc : (((w2.setCell ⟨m, 0, none⟩ (.slice (some ⟨w2.heap.size, 0, none⟩) nr nr)).alloc (.cells (madeCells #[.slice none 0 0] nr) 68)).alloc (.cells (madeCells #[.slice none 0 0] no) 68)).cell? ⟨m, 1, none⟩ = some (.slice none 0 0) := (blk_cell hx 1).trans rfl
          have xcd : (((w2.setCell ⟨m, 0, none⟩ (.slice (some ⟨w2.heap.size, 0, none⟩) nr nr)).alloc (.cells (madeCells #[.slice none 0 0] nr) 68)).alloc (.cells (madeCells #[.slice none 0 0] no) 68)).drew.cell? ⟨m, 1, none⟩ = some (.slice none 0 0) := (blk_cell hx 1).trans rfl
          have xz := blk_frozen hx 1
          have xzd : (((w2.setCell ⟨m, 0, none⟩ (.slice (some ⟨w2.heap.size, 0, none⟩) nr nr)).alloc (.cells (madeCells #[.slice none 0 0] nr) 68)).alloc (.cells (madeCells #[.slice none 0 0] no) 68)).drew.frozen? ⟨m, 1, none⟩ = false := blk_frozen hx 1
          clear hx
          have hy : (((w2.alloc (.cells (madeCells #[.slice none 0 0] nr) 68)).setCell ⟨m, 0, none⟩ (.slice (some ⟨w2.heap.size, 0, none⟩) nr nr)).alloc (.cells (madeCells #[.slice none 0 0] no) 68)).heap[m]? = some (.cells #[.slice (some ⟨w2.heap.size, 0, none⟩) nr nr, .slice none 0 0, .slice A1 l1.length c1, .int .i64 (sizeB l1 : Int)] 67 (0, 0)) := blk_alloc (blk_put (blk_alloc hbM2 _) 0 _ rfl) _
          have yc : (((w2.alloc (.cells (madeCells #[.slice none 0 0] nr) 68)).setCell ⟨m, 0, none⟩ (.slice (some ⟨w2.heap.size, 0, none⟩) nr nr)).alloc (.cells (madeCells #[.slice none 0 0] no) 68)).cell? ⟨m, 1, none⟩ = some (.slice none 0 0) := (blk_cell hy 1).trans rfl
          have ycd : (((w2.alloc (.cells (madeCells #[.slice none 0 0] nr) 68)).setCell ⟨m, 0, none⟩ (.slice (some ⟨w2.heap.size, 0, none⟩) nr nr)).alloc (.cells (madeCells #[.slice none 0 0] no) 68)).drew.cell? ⟨m, 1, none⟩ = some (.slice none 0 0) := (blk_cell hy 1).trans rfl
          have yz := blk_frozen hy 1
          have yzd : (((w2.alloc (.cells (madeCells #[.slice none 0 0] nr) 68)).setCell ⟨m, 0, none⟩ (.slice (some ⟨w2.heap.size, 0, none⟩) nr nr)).alloc (.cells (madeCells #[.slice none 0 0] no) 68)).drew.frozen? ⟨m, 1, none⟩ = false := blk_frozen hy 1
          clear hy
          clear hX1
          have HAA := Aside0.mk hA
          have HCC := Aside0.mk hC
          clear hA hA' hC hC'
          have HF2 := Aside0.mk hbF2
          have HM2 := Aside0.mk hbM2
          have HB2 := Aside0.mk hB2
          clear hbF2 hbM2 hB2 hsb
          have HSZ := Aside0.mk hsz
          go_region_held3 (fun w' => w'.cell? ⟨bp, 1, none⟩ = some (.int .i64 (nr : Int)) ∧ w'.cell? ⟨bp, 2, none⟩ = some (.int .i64 (no : Int))) (go_keep) (fail)
          all_goals have hbw2 : bp ≤ w2.heap.size := by have := blk_lt HF2.out; omega
          all_goals have hbm2 : bp ≤ m := by have := HME.out; omega
          all_goals have hmlt := blk_lt HM2.out
          all_goals first
            | (obtain ⟨w3, hw3⟩ : ∃ w3, ((((w2.alloc (.cells (madeCells #[.slice none 0 0] nr) 68)).alloc (.cells (madeCells #[.slice none 0 0] no) 68)).setCell ⟨m, 0, none⟩ (.slice (some ⟨w2.heap.size, 0, none⟩) nr nr)).setCell ⟨m, 1, none⟩ (.slice (some ⟨w2.heap.size + 1, 0, none⟩) no no)).drew = w3 := ⟨_, rfl⟩
               have hM3 : MH bp w3 m (w2.heap.size) (w2.heap.size + 1) (.slice A1 l1.length c1) (sizeB l1) (List.replicate nr none) (List.replicate no none) := by
                 rw [← hw3]
                 refine MH.start (blk_put (blk_put HAA.out 0 _ rfl) 1 _ rfl) ((Below.heap_setCell _ ⟨m, 1, none⟩ _ (w2.heap.size) (by show _ ≠ m; omega)).trans ((Below.heap_setCell _ ⟨m, 0, none⟩ _ (w2.heap.size) (by show _ ≠ m; omega)).trans (blk_alloc (heap_alloc_new w2 _) _))) ((Below.heap_setCell _ ⟨m, 1, none⟩ _ (w2.heap.size + 1) (by show _ ≠ m; omega)).trans ((Below.heap_setCell _ ⟨m, 0, none⟩ _ (w2.heap.size + 1) (by show _ ≠ m; omega)).trans (by have h_ := heap_alloc_new (w2.alloc (.cells (madeCells #[.slice none 0 0] nr) 68)) (.cells (madeCells #[.slice none 0 0] no) 68); rwa [show (w2.alloc (.cells (madeCells #[.slice none 0 0] nr) 68)).heap.size = w2.heap.size + 1 by simp] at h_))) (by omega) (by omega) (by omega) (by omega) (by simp [World.setCell]; omega) HSZ.out hnr2 hno2
               have hB3 : Below bp w w3 := by
                 rw [← hw3]
                 have h0 : Below bp w ((w2.alloc (.cells (madeCells #[.slice none 0 0] nr) 68)).alloc (.cells (madeCells #[.slice none 0 0] no) 68)) := ((HB2.out.alloc hbw2 _).alloc (by simp; omega) _)
                 exact below_drew1 ((h0.setCell (p := ⟨m, 0, none⟩) hbm2 _).setCell (p := ⟨m, 1, none⟩) hbm2 _)
               have hF3 : w3.heap[bp]? = some (.cells #[.slice A0_0 l0_0.length c0_0, .int .i64 (nr : Int), .int .i64 (no : Int), .int .u64 a0_3] 30 (0, 0)) := by
                 rw [← hw3]
                 exact (Below.heap_setCell _ ⟨m, 1, none⟩ _ bp e2).trans ((Below.heap_setCell _ ⟨m, 0, none⟩ _ bp e2).trans (blk_alloc (blk_alloc HF2.out _) _))
               rw [hw3]
               clear hw3
               generalize w2.heap.size + 1 = go_ at hM3 ⊢
               generalize w2.heap.size = gr_ at hM3 ⊢)
            | (obtain ⟨w3, hw3⟩ : ∃ w3, ((((w2.alloc (.cells (madeCells #[.slice none 0 0] nr) 68)).setCell ⟨m, 0, none⟩ (.slice (some ⟨w2.heap.size, 0, none⟩) nr nr)).alloc (.cells (madeCells #[.slice none 0 0] no) 68)).setCell ⟨m, 1, none⟩ (.slice (some ⟨w2.heap.size + 1, 0, none⟩) no no)).drew = w3 := ⟨_, rfl⟩
               have hM3 : MH bp w3 m (w2.heap.size) (w2.heap.size + 1) (.slice A1 l1.length c1) (sizeB l1) (List.replicate nr none) (List.replicate no none) := by
                 rw [← hw3]
                 refine MH.start (blk_put (blk_alloc (blk_put (blk_alloc HM2.out _) 0 _ rfl) _) 1 _ rfl) ((Below.heap_setCell _ ⟨m, 1, none⟩ _ (w2.heap.size) (by show _ ≠ m; omega)).trans (blk_alloc ((Below.heap_setCell _ ⟨m, 0, none⟩ _ (w2.heap.size) (by show _ ≠ m; omega)).trans (heap_alloc_new w2 _)) _)) ((Below.heap_setCell _ ⟨m, 1, none⟩ _ (w2.heap.size + 1) (by show _ ≠ m; omega)).trans (by have h_ := heap_alloc_new ((w2.alloc (.cells (madeCells #[.slice none 0 0] nr) 68)).setCell ⟨m, 0, none⟩ (.slice (some ⟨w2.heap.size, 0, none⟩) nr nr)) (.cells (madeCells #[.slice none 0 0] no) 68); rwa [show ((w2.alloc (.cells (madeCells #[.slice none 0 0] nr) 68)).setCell ⟨m, 0, none⟩ (.slice (some ⟨w2.heap.size, 0, none⟩) nr nr)).heap.size = w2.heap.size + 1 by simp [World.setCell]] at h_)) (by omega) (by omega) (by omega) (by omega) (by simp [World.setCell]; omega) HSZ.out hnr2 hno2
               have hB3 : Below bp w w3 := by
                 rw [← hw3]
                 have h0 : Below bp w ((w2.alloc (.cells (madeCells #[.slice none 0 0] nr) 68)).alloc (.cells (madeCells #[.slice none 0 0] no) 68)) := ((HB2.out.alloc hbw2 _).alloc (by simp; omega) _)
                 exact below_drew1 ((((HB2.out.alloc hbw2 _).setCell (p := ⟨m, 0, none⟩) hbm2 _).alloc (by simp [World.setCell]; omega) _).setCell (p := ⟨m, 1, none⟩) hbm2 _)
               have hF3 : w3.heap[bp]? = some (.cells #[.slice A0_0 l0_0.length c0_0, .int .i64 (nr : Int), .int .i64 (no : Int), .int .u64 a0_3] 30 (0, 0)) := by
                 rw [← hw3]
                 exact (Below.heap_setCell _ ⟨m, 1, none⟩ _ bp e2).trans (blk_alloc ((Below.heap_setCell _ ⟨m, 0, none⟩ _ bp e2).trans (blk_alloc HF2.out _)) _)
               rw [hw3]
               clear hw3
               generalize w2.heap.size + 1 = go_ at hM3 ⊢
               generalize w2.heap.size = gr_ at hM3 ⊢)
            | (obtain ⟨w3, hw3⟩ : ∃ w3, ((((w2.alloc (.cells (madeCells #[.slice none 0 0] no) 68)).alloc (.cells (madeCells #[.slice none 0 0] nr) 68)).setCell ⟨m, 0, none⟩ (.slice (some ⟨w2.heap.size + 1, 0, none⟩) nr nr)).setCell ⟨m, 1, none⟩ (.slice (some ⟨w2.heap.size, 0, none⟩) no no)).drew = w3 := ⟨_, rfl⟩
               have hM3 : MH bp w3 m (w2.heap.size + 1) (w2.heap.size) (.slice A1 l1.length c1) (sizeB l1) (List.replicate nr none) (List.replicate no none) := by
                 rw [← hw3]
                 refine MH.start (blk_put (blk_put HCC.out 0 _ rfl) 1 _ rfl) ((Below.heap_setCell _ ⟨m, 1, none⟩ _ (w2.heap.size + 1) (by show _ ≠ m; omega)).trans ((Below.heap_setCell _ ⟨m, 0, none⟩ _ (w2.heap.size + 1) (by show _ ≠ m; omega)).trans (by have h_ := heap_alloc_new (w2.alloc (.cells (madeCells #[.slice none 0 0] no) 68)) (.cells (madeCells #[.slice none 0 0] nr) 68); rwa [show (w2.alloc (.cells (madeCells #[.slice none 0 0] no) 68)).heap.size = w2.heap.size + 1 by simp] at h_))) ((Below.heap_setCell _ ⟨m, 1, none⟩ _ (w2.heap.size) (by show _ ≠ m; omega)).trans ((Below.heap_setCell _ ⟨m, 0, none⟩ _ (w2.heap.size) (by show _ ≠ m; omega)).trans (blk_alloc (heap_alloc_new w2 _) _))) (by omega) (by omega) (by omega) (by omega) (by simp [World.setCell]; omega) HSZ.out hnr2 hno2
               have hB3 : Below bp w w3 := by
                 rw [← hw3]
                 have h0 : Below bp w ((w2.alloc (.cells (madeCells #[.slice none 0 0] no) 68)).alloc (.cells (madeCells #[.slice none 0 0] nr) 68)) := ((HB2.out.alloc hbw2 _).alloc (by simp; omega) _)
                 exact below_drew1 ((h0.setCell (p := ⟨m, 0, none⟩) hbm2 _).setCell (p := ⟨m, 1, none⟩) hbm2 _)
               have hF3 : w3.heap[bp]? = some (.cells #[.slice A0_0 l0_0.length c0_0, .int .i64 (nr : Int), .int .i64 (no : Int), .int .u64 a0_3] 30 (0, 0)) := by
                 rw [← hw3]
                 exact (Below.heap_setCell _ ⟨m, 1, none⟩ _ bp e2).trans ((Below.heap_setCell _ ⟨m, 0, none⟩ _ bp e2).trans (blk_alloc (blk_alloc HF2.out _) _))
               rw [hw3]
               clear hw3
               generalize w2.heap.size + 1 = gr_ at hM3 ⊢
               generalize w2.heap.size = go_ at hM3 ⊢)
          all_goals
            have HM3 := Aside0.mk hM3
            have HB3 := Aside0.mk hB3
            have HF3 := Aside0.mk hF3
            have hq0 : w3.cell? ⟨bp, 0, none⟩ = some (.slice A0_0 l0_0.length c0_0) := (blk_cell hF3 0).trans rfl
            have hmx0 : l0_0.length ≤ 9223372036854775807 := HR0.out.2.1
            clear hM3 hB3 hF3 p1 p2 m0 m1 z0 z1 n1 n2 n3 e1 e2 mk1 mk2 a0 a1 az0 az1 d0 d1 dz0 dz1 a1' az1' d1' dz1' a0' az0' d0' dz0' bc0 bcd0 bz0 bzd0 bc1 bcd1 bz1 bzd1 ec0 ecd0 ez0 ezd0 ec1 ecd1 ez1 ezd1 xc xcd xz xzd yc ycd yz yzd HAA HCC HF2 HM2 HB2 hmlt hbw2 hbm2 HBi HMi HFi HBW HMC
            (go_wp2_with fail; repeat (go_step3; go_wp2_with fail))
            go_loopw [9, 55] (fun v9 v55 w' => ∃ (j : Nat) (Rw Ow : List (Option MR)), j ≤ l0_0.length ∧ v55 = .int .i64 j ∧ v9 = .bool true ∧ Aside0 (runS (sizeB l1) l1 (l0_0.drop j) (plainM Rw) (plainM Ow) = some X) ∧ Aside0 (MH bp w' m gr_ go_ (.slice A1 l1.length c1) (sizeB l1) Rw Ow) ∧ Aside0 (Below bp w w')) (fun _ v _ => l0_0.length - (intOf v).toNat)
            case atStart => exact ⟨0, List.replicate nr none, List.replicate no none, Nat.zero_le _, rfl, rfl, ⟨by have h_ := HX.out; simpa [plainM] using h_⟩, HM3, HB3⟩
            case round =>
              clear hq0
              obtain ⟨j, Rw, Ow, hj, rfl, rfl, HXj, HMj, HBj⟩ := hrel
              by_cases hlt : j < l0_0.length
              · obtain ⟨ads, rfl, hs0, hs1, hs2, hs3⟩ := at_T38 (Kd.C_below HR0.out (HBPE.out ▸ HBj.out)) (j : Int) (by omega) (by omega)
                simp only [Int.toNat_natCast] at hs0 hs1 hs2 hs3
                have hd : l0_0.drop j = rd_T38 l0_0 j :: l0_0.drop (j + 1) := by
                  rw [List.drop_eq_getElem_cons hlt]; simp [rd_T38, hlt]
                have hx := HXj.out
                rw [hd, runS] at hx
                obtain ⟨X1, hx1, hx2⟩ := Option.bind_eq_some_iff.1 hx
                obtain ⟨s, hs⟩ : ∃ s, rd_T38 l0_0 (j : Int) = s := ⟨_, rfl⟩
                rw [hs] at hs0 hs1 hs2 hs3 hx1
                have hji : (j : Int) < (l0_0.length : Int) := by omega
                have hall : ∀ S : Nat, S < l1.length → (rd_L13 l1 (S : Int)).length = sizeB l1 := fun S hS => by
                  have h1 := List.all_eq_true.1 HAi.out l1[S] (List.getElem_mem _)
                  have h2 := of_decide_eq_true h1
                  rw [← h2]; simp [rd_L13, hS]
                have hdo := do_calls (w := wr.alloc (.cells #[Value.int .u8 s.f0, .int .i64 s.f1, .int .i64 s.f2, .int .u8 s.f3] 38)) (w0 := w) l1 (by rw [HBPE.out]; exact HMj.out.alloc _) (by rw [HBPE.out]; exact HBj.out.alloc HMj.out.bw _) HR1.out hall s X1 hx1
                rw [HBPE.out] at hdo
                have HDO := Aside0.mk hdo
                have HX2 := Aside0.mk hx2
                clear hd hx hx1 hx2 hs hall hdo HXj
                cases X1 with
                | none =>
                  go_wp2_with (go_at_call 24; refine HDO.out.mono ?_; rintro e w4 ⟨rfl, hb4, _⟩; have HB4 := Aside0.mk hb4; clear hb4 HDO)
                  rw [Exit.noGoto_ret]
                  go_ret2
                  obtain rfl : none = X := Option.some.inj HX2.out
                  obtain ⟨rfl, rfl⟩ := Prod.mk.inj (Option.some.inj HE.out)
                  exact ⟨_, rfl, Kd.S_nil _ _ _ _ _, HBPE.out.symm ▸ HB4.out⟩
                | some Y =>
                  obtain ⟨R', O'⟩ := Y
                  go_wp2_with (go_at_call 24; refine HDO.out.mono ?_; rintro e w4 ⟨rfl, hb4, hy4⟩; obtain ⟨Rw4, Ow4, hm4, hr4, ho4⟩ := hy4 R' O' rfl; have HB4 := Aside0.mk hb4; have HM4 := Aside0.mk hm4; have HE4 := Aside0.mk (And.intro hr4 ho4); clear hb4 hm4 hr4 ho4 hy4 HDO)
                  go_roundw
                  case rel => exact ⟨j + 1, Rw4, Ow4, by omega, by go_num, rfl, ⟨by rw [HE4.out.1, HE4.out.2]; exact HX2.out⟩, HM4, HB4⟩
                  case measure => simp [intOf]; omega
              · have hx := HXj.out
                rw [List.drop_eq_nil_of_le (by omega), runS] at hx
                obtain rfl := Option.some.inj hx
                have cO := HMj.out.c1
                by_cases ha : (plainM Ow).all (fun o => o.isSome) = true
                · have hcn := contains_nil HMj.out false (by rw [ha]; rfl)
                  have hE := Option.some.inj HE.out
                  unfold endR at hE
                  simp only [if_pos ha] at hE
                  obtain ⟨rfl, rfl⟩ := Prod.mk.inj hE
                  have HA := Aside0.mk ha
                  have HCN := Aside0.mk hcn
                  clear hx ha hcn hE HXj
                  go_wp2_with (go_at_call 25; refine HCN.out.mono ?_; rintro e w4 ⟨rfl, rfl⟩)
                  rw [Exit.noGoto_ret]
                  go_ret2
                  exact ⟨_, rfl, HBPE.out.symm ▸ HMj.out.outs HA.out, HBPE.out.symm ▸ HBj.out⟩
                · have hcn := contains_nil HMj.out true (by rw [show (plainM Ow).all (fun o => o.isSome) = false by simpa using ha]; rfl)
                  have hE := Option.some.inj HE.out
                  unfold endR at hE
                  simp only [if_neg ha] at hE
                  obtain ⟨rfl, rfl⟩ := Prod.mk.inj hE
                  have HCN := Aside0.mk hcn
                  clear hx ha hcn hE HXj
                  go_wp2_with (go_at_call 25; refine HCN.out.mono ?_; rintro e w4 ⟨rfl, rfl⟩)
                  rw [Exit.noGoto_ret]
                  go_ret2
                  exact ⟨_, rfl, Kd.S_nil _ _ _ _ _, HBPE.out.symm ▸ HBj.out⟩
        · rw [if_neg hm] at h_
          simp only [Option.some.injEq, Prod.mk.injEq] at h_
          obtain ⟨rfl, rfl⟩ := h_
          rw [decide_eq_false hm] at HMC
          clear hm
          go_wp2_with (go_at_call 23; refine HMC.out.mono ?_; rintro e w2 ⟨rfl, hbw⟩; have HBW := Aside0.mk hbw; clear hbw hp0 hp1 hp2 hp3)
          rw [Exit.noGoto_ret]
          go_ret2
          exact ⟨_, rfl, Kd.S_nil _ _ _ _ _, below_step (HBPE.out ▸ HBi.out) HBW.out⟩
      · rw [if_neg hsz] at h_; cases h_
end Go.Proofs.Ytlflfpkjbjbldaa.PA
