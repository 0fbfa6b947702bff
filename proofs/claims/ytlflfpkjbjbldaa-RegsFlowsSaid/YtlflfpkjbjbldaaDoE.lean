import Derived.Test.YtlflfpkjbjbldaaDoC
import Derived.Test.YtlflfpkjbjbldaaDoD
namespace Go.Proofs.Ytlflfpkjbjbldaa.PA
open Go.RowKit Go.Proofs.YtlflfpkjbjbldaaW.PrintWords Go.Proofs.YtlflfpkjbjbldaaW.PrintLast Go.Proofs.YtlflfpkjbjbldaaW.PrintMore
attribute [local go_sem] max2_int min2_int max_two min_two max_three min_three max_four min_four
set_option linter.unusedVariables false
set_option linter.unusedSimpArgs false
set_option maxRecDepth 100000 in
set_option maxHeartbeats 2000000 in
theorem do_load_yes {w0 w : World} {m gr go : Nat} {AB : Option Addr} {cB : Nat} {size : Nat} {R O : List (Option MR)} (bl : List (List Int)) (h : MH w0.heap.size w m gr go (.slice AB bl.length cB) size R O) (hB : Below w0.heap.size w0 w) (hbl : Kd.C (Kd.slice 5 (Kd.int .u8)) w0 AB bl.length bl) (f3 : Int) (D S : Nat) (hD : D < R.length) (hS : S < bl.length) (hl : (rd_L13 bl (S : Int)).length = size) :
    Calls Try.prog 24 #[.pointer (some ⟨m, 0, none⟩), .agg #[.int .u8 2, .int .i64 (D : Int), .int .i64 (S : Int), .int .u8 f3]] w (DoP w0.heap.size w0 m gr go (.slice AB bl.length cB) size (some ((plainM R).set D (some (rd_L13 bl (S : Int))), plainM O))) := by
  obtain ⟨w1, hw1⟩ : ∃ w1, w.alloc (.cells #[Value.int .u8 2, .int .i64 (D : Int), .int .i64 (S : Int), .int .u8 f3] 38) = w1 := ⟨_, rfl⟩
  have h1 : MH w0.heap.size w1 m gr go (.slice AB bl.length cB) size R O := hw1 ▸ h.alloc _
  have hB1 : Below w0.heap.size w0 w1 := hw1 ▸ hB.alloc h.bw _
  have hbl1 := hbl
  have hbs : w1.heap[w.heap.size]? = some (.cells #[Value.int .u8 2, .int .i64 (D : Int), .int .i64 (S : Int), .int .u8 f3] 38 (0, 0)) := hw1 ▸ heap_alloc_new w _
  have q0 : w1.cell? ⟨w.heap.size, 0, none⟩ = some (.int .u8 2) := (blk_cell hbs 0).trans rfl
  have q1 : w1.cell? ⟨w.heap.size, 1, none⟩ = some (.int .i64 (D : Int)) := (blk_cell hbs 1).trans rfl
  have q2 : w1.cell? ⟨w.heap.size, 2, none⟩ = some (.int .i64 (S : Int)) := (blk_cell hbs 2).trans rfl
  have e1 : ¬ w.heap.size = gr := blk_ty_ne hbs h1.rr (by decide)
  have e2 : ¬ gr = w.heap.size := fun e => e1 e.symm
  have e3 : ¬ m = gr := blk_ty_ne h1.blk h1.rr (by decide)
  have e4 : ¬ gr = m := fun e => e3 e.symm
  have c0 := h1.c0
  have c2 := h1.c2
  have hsz := h1.sz
  have hrl := h1.rl
  have hmB := hbl1.2.1
  have i1 := fun w_ => in_yes (D : Int) (some ⟨gr, 0, none⟩) R.length R.length w_ ⟨by omega, by omega⟩ (by omega)
  have I1A := Aside0.mk i1
  have i2 := fun w_ => in_yes (S : Int) AB bl.length cB w_ ⟨by omega, by omega⟩ hmB
  have I2A := Aside0.mk i2
  have hD0 : (0 : Int) ≤ (D : Int) := by omega
  have hD1 : (D : Int) < (R.length : Int) := by omega
  have hS0 : (0 : Int) ≤ (S : Int) := by omega
  have hS1 : (S : Int) < (bl.length : Int) := by omega
  have H1 := Aside0.mk h1
  have HB1 := Aside0.mk hB1
  have HBL := Aside0.mk hbl1
  have HW := Aside0.mk hw1
  have HL := Aside0.mk hl
  have HBS := Aside0.mk hbs
  clear h hB h1 hB1 hbl hbl1 hw1 hbs i1 i2 hl
  go_enter Try.func24, Try.ntmps24
  go_wp2_with fail
  rw [HW.out]
  generalize w.heap.size = bs at q0 q1 q2 e1 e2 HBS ⊢
  go_quiet ((first | (go_at_call 35; with_reducible exact Calls.quiet_of_same (I1A.out _)) | (go_at_call 35; with_reducible exact Calls.quiet_of_same (I2A.out _))))
  go_wp2_with fail
  obtain ⟨w2, hw2⟩ : ∃ w2, w1.drewN nq = w2 := ⟨_, rfl⟩
  have h2 : MH w0.heap.size w2 m gr go (.slice AB bl.length cB) size R O := hw2 ▸ H1.out.drewN nq
  have hB2 : Below w0.heap.size w0 w2 := hw2 ▸ pw_below_drewN HB1.out nq
  have hbl2 := HBL.out
  have hbs2 : w2.heap[bs]? = some (.cells #[Value.int .u8 2, .int .i64 (D : Int), .int .i64 (S : Int), .int .u8 f3] 38 (0, 0)) := hw2 ▸ HBS.out
  rw [hw2]
  clear q0 q1 q2 c0 c2 hw2 H1 HB1 HBL HBS
  have q1 : w2.cell? ⟨bs, 1, none⟩ = some (.int .i64 (D : Int)) := (blk_cell hbs2 1).trans rfl
  have q2 : w2.cell? ⟨bs, 2, none⟩ = some (.int .i64 (S : Int)) := (blk_cell hbs2 2).trans rfl
  have c0 := h2.c0
  have c2 := h2.c2
  have c3 := h2.c3
  obtain ⟨adB, Ab, cb, rfl, hb0, hbc, hbC⟩ := at_L13 hbl2 (S : Int) hS0 hS1
  simp only [Int.toNat_natCast] at hb0
  rw [HL.out] at hb0 hbC hbc
  have hbC := Kd.C_below hbC hB2
  have hblt := World.block_lt_of_cell? w0 _ hb0
  have hb0 : w2.cell? (adB.add S) = some (.slice Ab size cb) := pw_cell_below hB2 hb0
  have e5 : ¬ (adB.add S).block = gr := by have := h2.br; omega
  have e6 : ¬ gr = (adB.add S).block := fun e => e5 e.symm
  have e7 : ¬ adB.block = gr := by rw [add_block] at e5; exact e5
  have e8 : ¬ gr = adB.block := fun e => e7 e.symm
  have n0 := World.new_ne w2 _ c0
  have n2 := World.new_ne w2 _ c2
  have n3 := World.new_ne w2 _ c3
  have nq1 := World.new_ne w2 _ q1
  have nq2 := World.new_ne w2 _ q2
  have nb := World.new_ne w2 _ hb0
  have hmk := mk0_run size hsz
  obtain ⟨W, hW⟩ : ∃ W, w2.alloc (.cells (madeCells #[.int .u8 0] size) 5) = W := ⟨_, rfl⟩
  have hown := mk0_row w2 w0.heap.size size h2.bw hsz
  rw [hW] at hown
  have hbW : Below w2.heap.size w2 W := hW ▸ below_alloc (Below.refl _ _) _
  have hszW : W.heap.size = w2.heap.size + 1 := by rw [← hW]; simp
  obtain ⟨g', cap', w3, hrun, ho3, hg3, hat⟩ := app_run W.drew w0.heap.size w2.heap.size size size (rd_L13 bl (S : Int)) Ab cb hown (Kd.C_below hbC (below_drew1 hbW)) hsz (by show w0.heap.size ≤ W.heap.size; have := h2.bw; omega)
  have hk : ∀ k, k < w2.heap.size → w3.heap[k]? = w2.heap[k]? := fun k hk => (hg3.block k (by show k < W.heap.size; omega) (by simp; omega)).trans (hbW.block k hk)
  have hsz3 : w2.heap.size ≤ w3.heap.size := by have := hg3.size; have h_ : W.heap.size ≤ w3.heap.size := this; omega
  have h3 := h2.step hk hsz3
  have hat2 : w2.heap.size ≤ g' := by
    rcases hat with rfl | rfl
    · exact Nat.le_refl _
    · show w2.heap.size ≤ W.heap.size; omega
  have hgr : g' ≠ gr := by have h_ := blk_lt h2.rr; omega
  have c3x := h3.cr D hD
  have f3x := h3.fr D
  obtain ⟨A3, n3', c3', he3⟩ := encM_slice size R[D]
  rw [he3] at c3x
  have hB3 : Below w0.heap.size w0 w3 := ⟨hg3.os.trans (hbW.os.trans hB2.os), hg3.tape.trans (hbW.tape.trans hB2.tape), hg3.output.trans (hbW.output.trans hB2.output), Nat.le_trans hB2.size hsz3, fun i hi => (hk i (Nat.lt_of_lt_of_le hi h2.bw)).trans (hB2.block i hi)⟩
  have hfin := DoP.yes (Below.setCell hB3 (p := ⟨gr, D, none⟩) h2.br (.slice (some ⟨g', 0, none⟩) size cap')) ((h2.setR D ⟨g', cap', rd_L13 bl (S : Int)⟩ hD w3 hk hsz3 (fun x hx => by
    have h_ := (h2.nb x hx).2.2.2.1
    show x.g ≠ g'; omega) ho3 hgr))
  rw [plain_set] at hfin
  have k3 : w3.cell? ⟨m, 0, none⟩ = some (.slice (some ⟨gr, 0, none⟩) R.length R.length) := h3.c0
  have k4 := h3.c2
  have k5 := h3.c3
  have hbs3 := (hk bs (blk_lt hbs2)).trans hbs2
  have k1 : w3.cell? ⟨bs, 1, none⟩ = some (.int .i64 (D : Int)) := (blk_cell hbs3 1).trans rfl
  have k2 : w3.cell? ⟨bs, 2, none⟩ = some (.int .i64 (S : Int)) := (blk_cell hbs3 2).trans rfl
  have k6 : w3.cell? (adB.add S) = some (.slice Ab size cb) := Kd.cell_heap hk hb0
  have hrun' : (Builtin.append_ #[68, 68] 68 #[.slice (some ⟨w2.heap.size, 0, none⟩) 0 size, .slice Ab size cb]).run Try.prog (w2.alloc (.cells (madeCells #[.int .u8 0] size) 5)).drew = .ok (.slice (some ⟨g', 0, none⟩) size cap') w3 := by rw [hW]; exact hrun
  have HRUN := Aside0.mk hrun'
  have HFIN := Aside0.mk hfin
  clear hblt h2 hB2 hbl2 hbs2 hbC hbc hown hbW hszW hrun ho3 hg3 hat hat2 hk hsz3 h3 hgr hB3 hfin hbs3 hrun' hW
  go_region_held3 (fun w' => w'.cell? ⟨m, 0, none⟩ = some (.slice (some ⟨gr, 0, none⟩) R.length R.length) ∧ w'.cell? ⟨m, 2, none⟩ = some (.slice (some adB) bl.length cB) ∧ w'.cell? ⟨m, 3, none⟩ = some (.int .i64 (size : Int)) ∧ w'.cell? ⟨bs, 1, none⟩ = some (.int .i64 (D : Int)) ∧ w'.cell? ⟨bs, 2, none⟩ = some (.int .i64 (S : Int)) ∧ w'.cell? (adB.add S) = some (.slice Ab size cb)) (go_keep) ((refine step_law rfl (.tmp 61) (.tmp 69) 68 rfl _ _ _ (by rfl) (by rfl) HRUN.out ?_))
  go_wp2_with fail
  go_ret
  exact HFIN.out
theorem own_C {w : World} {base g cap size : Nat} {l : List Int} (h : w.ownsRow base 5 1 (.slice (some ⟨g, 0, none⟩) size cap) size (nums .u8 l)) : Kd.C (Kd.int .u8) w (some ⟨g, 0, none⟩) size l := Kd.C_of_reads (d := (0 : Int)) (readsInt_of.1 (own_reads' h))
set_option maxRecDepth 100000 in
set_option maxHeartbeats 2000000 in
theorem do_out_yes {base : Nat} {w0 w : World} {m gr go : Nat} {vB : Value} {size : Nat} {R O : List (Option MR)} (h : MH base w m gr go vB size R O) (hB : Below base w0 w) (f3 : Int) (D S : Nat) (hD : D < O.length) (hS : S < R.length) (r : MR) (hx : R[S] = some r) (hy : O[D] = none) :
    Calls Try.prog 24 #[.pointer (some ⟨m, 0, none⟩), .agg #[.int .u8 4, .int .i64 (D : Int), .int .i64 (S : Int), .int .u8 f3]] w (DoP base w0 m gr go vB size (some (plainM R, (plainM O).set D (some r.l)))) := by
  obtain ⟨w1, hw1⟩ : ∃ w1, w.alloc (.cells #[Value.int .u8 4, .int .i64 (D : Int), .int .i64 (S : Int), .int .u8 f3] 38) = w1 := ⟨_, rfl⟩
  have h1 : MH base w1 m gr go vB size R O := hw1 ▸ h.alloc _
  have hB1 : Below base w0 w1 := hw1 ▸ hB.alloc h.bw _
  have hbs : w1.heap[w.heap.size]? = some (.cells #[Value.int .u8 4, .int .i64 (D : Int), .int .i64 (S : Int), .int .u8 f3] 38 (0, 0)) := hw1 ▸ heap_alloc_new w _
  have q0 : w1.cell? ⟨w.heap.size, 0, none⟩ = some (.int .u8 4) := (blk_cell hbs 0).trans rfl
  have q1 : w1.cell? ⟨w.heap.size, 1, none⟩ = some (.int .i64 (D : Int)) := (blk_cell hbs 1).trans rfl
  have q2 : w1.cell? ⟨w.heap.size, 2, none⟩ = some (.int .i64 (S : Int)) := (blk_cell hbs 2).trans rfl
  have hq : ∀ (w : World) (a : Option Addr) (n c n' c' : Nat), (binOp .eql 68 (.slice a n c) (.slice none n' c')).run Try.prog w = .ok (.bool a.isNone) w := fun w a n c n' c' => Lib.run_eql_slice_nil w _ _ a n c n' c' Try.underlying68
  have hq2 : ∀ (w : World) (a : Option Addr) (n c n' c' : Nat), (binOp .neq 68 (.slice a n c) (.slice none n' c')).run Try.prog w = .ok (.bool (!a.isNone)) w := fun w a n c n' c' => run_neq_slice_nil_any w _ _ a n c n' c' Try.underlying68
  have e1 : ¬ w.heap.size = go := blk_ty_ne hbs h1.ro (by decide)
  have e2 : ¬ go = w.heap.size := fun e => e1 e.symm
  have e3 : ¬ m = go := blk_ty_ne h1.blk h1.ro (by decide)
  have e4 : ¬ go = m := fun e => e3 e.symm
  have e5 : ¬ gr = go := h1.ne
  have e6 : ¬ go = gr := fun e => e5 e.symm
  have c0 := h1.c0
  have c1 := h1.c1
  have hsz := h1.sz
  have hrl := h1.rl
  have hol := h1.ol
  have cs := h1.cr S hS
  rw [hx] at cs
  simp only [encM] at cs
  have cd := h1.co D hD
  rw [hy] at cd
  simp only [encM] at cd
  have i1 := fun w_ => in_yes (D : Int) (some ⟨go, 0, none⟩) O.length O.length w_ ⟨by omega, by omega⟩ (by omega)
  have I1A := Aside0.mk i1
  have i2 := fun w_ => in_yes (S : Int) (some ⟨gr, 0, none⟩) R.length R.length w_ ⟨by omega, by omega⟩ (by omega)
  have I2A := Aside0.mk i2
  have hD0 : (0 : Int) ≤ (D : Int) := by omega
  have hD1 : (D : Int) < (O.length : Int) := by omega
  have hS0 : (0 : Int) ≤ (S : Int) := by omega
  have hS1 : (S : Int) < (R.length : Int) := by omega
  have H1 := Aside0.mk h1
  have HB1 := Aside0.mk hB1
  have HW := Aside0.mk hw1
  have HX := Aside0.mk hx
  have HBS := Aside0.mk hbs
  clear h hB h1 hB1 hw1 hbs i1 i2 hx hy
  go_enter Try.func24, Try.ntmps24
  go_wp2_with fail
  rw [HW.out]
  generalize w.heap.size = bs at q0 q1 q2 e1 e2 HBS ⊢
  go_quiet ((first | (go_at_call 35; with_reducible exact Calls.quiet_of_same (I1A.out _)) | (go_at_call 35; with_reducible exact Calls.quiet_of_same (I2A.out _))))
  go_wp2_with fail
  obtain ⟨w2, hw2⟩ : ∃ w2, w1.drewN nq = w2 := ⟨_, rfl⟩
  have h2 : MH base w2 m gr go vB size R O := hw2 ▸ H1.out.drewN nq
  have hB2 : Below base w0 w2 := hw2 ▸ pw_below_drewN HB1.out nq
  have hbs2 : w2.heap[bs]? = some (.cells #[Value.int .u8 4, .int .i64 (D : Int), .int .i64 (S : Int), .int .u8 f3] 38 (0, 0)) := hw2 ▸ HBS.out
  rw [hw2]
  clear q0 q1 q2 c0 c1 cs cd hq hq2 hw2 H1 HB1 HBS
  have q1 : w2.cell? ⟨bs, 1, none⟩ = some (.int .i64 (D : Int)) := (blk_cell hbs2 1).trans rfl
  have q2 : w2.cell? ⟨bs, 2, none⟩ = some (.int .i64 (S : Int)) := (blk_cell hbs2 2).trans rfl
  have c0 := h2.c0
  have c1 := h2.c1
  have c3 := h2.c3
  have cs := h2.cr S hS
  rw [HX.out] at cs
  simp only [encM] at cs
  have hmem : some r ∈ R ++ O := List.mem_append.2 (.inl (HX.out ▸ List.getElem_mem hS))
  have hbC := own_C (h2.own r hmem)
  have n0 := World.new_ne w2 _ c0
  have n1 := World.new_ne w2 _ c1
  have n3 := World.new_ne w2 _ c3
  have nq1 := World.new_ne w2 _ q1
  have nq2 := World.new_ne w2 _ q2
  have nb := World.new_ne w2 _ cs
  have hmk := mk0_run size hsz
  obtain ⟨W, hW⟩ : ∃ W, w2.alloc (.cells (madeCells #[.int .u8 0] size) 5) = W := ⟨_, rfl⟩
  have hown := mk0_row w2 base size h2.bw hsz
  rw [hW] at hown
  have hbW : Below w2.heap.size w2 W := hW ▸ below_alloc (Below.refl _ _) _
  have hszW : W.heap.size = w2.heap.size + 1 := by rw [← hW]; simp
  obtain ⟨g', cap', w3, hrun, ho3, hg3, hat⟩ := app_run W.drew base w2.heap.size size size r.l (some ⟨r.g, 0, none⟩) r.cap hown (Kd.C_below hbC (below_drew1 hbW)) hsz (by show base ≤ W.heap.size; have := h2.bw; omega)
  have hk : ∀ k, k < w2.heap.size → w3.heap[k]? = w2.heap[k]? := fun k hk => (hg3.block k (by show k < W.heap.size; omega) (by simp; omega)).trans (hbW.block k hk)
  have hsz3 : w2.heap.size ≤ w3.heap.size := by have := hg3.size; have h_ : W.heap.size ≤ w3.heap.size := this; omega
  have h3 := h2.step hk hsz3
  have hat2 : w2.heap.size ≤ g' := by
    rcases hat with rfl | rfl
    · exact Nat.le_refl _
    · show w2.heap.size ≤ W.heap.size; omega
  have hgr : g' ≠ go := by have h_ := blk_lt h2.ro; omega
  have c3x := h3.co D hD
  have f3x := h3.fo D
  obtain ⟨A3, n3', c3', he3⟩ := encM_slice size O[D]
  rw [he3] at c3x
  have hB3 : Below base w0 w3 := ⟨hg3.os.trans (hbW.os.trans hB2.os), hg3.tape.trans (hbW.tape.trans hB2.tape), hg3.output.trans (hbW.output.trans hB2.output), Nat.le_trans hB2.size hsz3, fun i hi => (hk i (Nat.lt_of_lt_of_le hi h2.bw)).trans (hB2.block i hi)⟩
  have hfin := DoP.yes (Below.setCell hB3 (p := ⟨go, D, none⟩) h2.bo (.slice (some ⟨g', 0, none⟩) size cap')) (h2.setO D ⟨g', cap', r.l⟩ hD w3 hk hsz3 (fun x hx => by
    have h_ := (h2.nb x hx).2.2.2.1
    show x.g ≠ g'; omega) ho3 hgr)
  rw [plain_set] at hfin
  have k3 : w3.cell? ⟨m, 0, none⟩ = some (.slice (some ⟨gr, 0, none⟩) R.length R.length) := h3.c0
  have k4 := h3.c1
  have k5 := h3.c3
  have hbs3 := (hk bs (blk_lt hbs2)).trans hbs2
  have k1 : w3.cell? ⟨bs, 1, none⟩ = some (.int .i64 (D : Int)) := (blk_cell hbs3 1).trans rfl
  have k2 : w3.cell? ⟨bs, 2, none⟩ = some (.int .i64 (S : Int)) := (blk_cell hbs3 2).trans rfl
  have k6 : w3.cell? ⟨gr, S, none⟩ = some (.slice (some ⟨r.g, 0, none⟩) size r.cap) := Kd.cell_heap hk cs
  have hrun' : (Builtin.append_ #[68, 68] 68 #[.slice (some ⟨w2.heap.size, 0, none⟩) 0 size, .slice (some ⟨r.g, 0, none⟩) size r.cap]).run Try.prog (w2.alloc (.cells (madeCells #[.int .u8 0] size) 5)).drew = .ok (.slice (some ⟨g', 0, none⟩) size cap') w3 := by rw [hW]; exact hrun
  have HRUN := Aside0.mk hrun'
  have HFIN := Aside0.mk hfin
  clear h2 hB2 hbs2 hbC hown hbW hszW hrun ho3 hg3 hat hat2 hk hsz3 h3 hgr hB3 hfin hbs3 hrun' hW hmem
  go_region_held3 (fun w' => w'.cell? ⟨m, 0, none⟩ = some (.slice (some ⟨gr, 0, none⟩) R.length R.length) ∧ w'.cell? ⟨m, 1, none⟩ = some (.slice (some ⟨go, 0, none⟩) O.length O.length) ∧ w'.cell? ⟨m, 3, none⟩ = some (.int .i64 (size : Int)) ∧ w'.cell? ⟨bs, 1, none⟩ = some (.int .i64 (D : Int)) ∧ w'.cell? ⟨bs, 2, none⟩ = some (.int .i64 (S : Int)) ∧ w'.cell? ⟨gr, S, none⟩ = some (.slice (some ⟨r.g, 0, none⟩) size r.cap)) (go_keep) ((refine step_law rfl (.tmp 198) (.tmp 206) 68 rfl _ _ _ (by rfl) (by rfl) HRUN.out ?_))
  go_wp2_with fail
  go_ret
  exact HFIN.out
def xorL (a b : List Int) : List Int := List.zipWith (Go.bits .xor .u8) a b
theorem xorL_step (a y : List Int) (i : Nat) (hi : i < a.length) (hy : i < y.length) : (xorL (a.take i) (y.take i) ++ a.drop i).set i (Go.bits .xor .u8 a[i] y[i]) = xorL (a.take (i + 1)) (y.take (i + 1)) ++ a.drop (i + 1) := by
  have hl : (xorL (a.take i) (y.take i)).length = i := by simp [xorL]; omega
  rw [List.set_append_right _ _ (by omega), hl, Nat.sub_self, List.drop_eq_getElem_cons hi, List.set_cons_zero, List.take_succ_eq_append_getElem hi, List.take_succ_eq_append_getElem hy]
  unfold xorL
  rw [List.zipWith_append (by simp; omega)]
  simp
theorem xorL_at (a y : List Int) (i : Nat) (hi : i < a.length) (hy : i < y.length) : rd (xorL (a.take i) (y.take i) ++ a.drop i) (i : Int) = a[i] := by
  have hl : (xorL (a.take i) (y.take i)).length = i := by simp [xorL]; omega
  unfold rd
  rw [Int.toNat_natCast, List.getD_eq_getElem?_getD, List.getElem?_append_right (by omega), hl, Nat.sub_self, List.getElem?_drop]
  simp [hi]
set_option maxRecDepth 100000 in
set_option maxHeartbeats 4000000 in
theorem do_mac_yes {base : Nat} {w0 w : World} {m gr go : Nat} {vB : Value} {size : Nat} {R O : List (Option MR)} (h : MH base w m gr go vB size R O) (hB : Below base w0 w) (f3 : Int) (D S : Nat) (hD : D < R.length) (hS : S < R.length) (a b : MR) (hx : R[D] = some a) (hy : R[S] = some b) (y : List Int) (hsc : field_Scale.f f3 b.l = some y) (hyl : y.length = size) :
    Calls Try.prog 24 #[.pointer (some ⟨m, 0, none⟩), .agg #[.int .u8 3, .int .i64 (D : Int), .int .i64 (S : Int), .int .u8 f3]] w (DoP base w0 m gr go vB size (some ((plainM R).set D (some (xorL a.l y)), plainM O))) := by
  obtain ⟨w1, hw1⟩ : ∃ w1, w.alloc (.cells #[Value.int .u8 3, .int .i64 (D : Int), .int .i64 (S : Int), .int .u8 f3] 38) = w1 := ⟨_, rfl⟩
  have h1 : MH base w1 m gr go vB size R O := hw1 ▸ h.alloc _
  have hB1 : Below base w0 w1 := hw1 ▸ hB.alloc h.bw _
  have hbs : w1.heap[w.heap.size]? = some (.cells #[Value.int .u8 3, .int .i64 (D : Int), .int .i64 (S : Int), .int .u8 f3] 38 (0, 0)) := hw1 ▸ heap_alloc_new w _
  have q0 : w1.cell? ⟨w.heap.size, 0, none⟩ = some (.int .u8 3) := (blk_cell hbs 0).trans rfl
  have q1 : w1.cell? ⟨w.heap.size, 1, none⟩ = some (.int .i64 (D : Int)) := (blk_cell hbs 1).trans rfl
  have q2 : w1.cell? ⟨w.heap.size, 2, none⟩ = some (.int .i64 (S : Int)) := (blk_cell hbs 2).trans rfl
  have hq : ∀ (w : World) (a : Option Addr) (n c n' c' : Nat), (binOp .eql 68 (.slice a n c) (.slice none n' c')).run Try.prog w = .ok (.bool a.isNone) w := fun w a n c n' c' => Lib.run_eql_slice_nil w _ _ a n c n' c' Try.underlying68
  have hbnd : w.heap.size < w1.heap.size := blk_lt hbs
  have c0 := h1.c0
  have hsz := h1.sz
  have hrl := h1.rl
  have cd := h1.cr D hD
  rw [hx] at cd
  simp only [encM] at cd
  have cs := h1.cr S hS
  rw [hy] at cs
  simp only [encM] at cs
  have i1 := fun w_ => in_yes (D : Int) (some ⟨gr, 0, none⟩) R.length R.length w_ ⟨by omega, by omega⟩ (by omega)
  have I1A := Aside0.mk i1
  have i2 := fun w_ => in_yes (S : Int) (some ⟨gr, 0, none⟩) R.length R.length w_ ⟨by omega, by omega⟩ (by omega)
  have I2A := Aside0.mk i2
  have hD0 : (0 : Int) ≤ (D : Int) := by omega
  have hD1 : (D : Int) < (R.length : Int) := by omega
  have hS0 : (0 : Int) ≤ (S : Int) := by omega
  have hS1 : (S : Int) < (R.length : Int) := by omega
  have H1 := Aside0.mk h1
  have HB1 := Aside0.mk hB1
  have HW := Aside0.mk hw1
  have HX := Aside0.mk hx
  have HY := Aside0.mk hy
  have HSC := Aside0.mk hsc
  have HYL := Aside0.mk hyl
  have HBS := Aside0.mk hbs
  clear h hB h1 hB1 hw1 hbs i1 i2 hx hy hsc hyl
  go_enter Try.func24, Try.ntmps24
  go_wp2_with fail
  rw [HW.out]
  generalize w.heap.size = bs at q0 q1 q2 hbnd HBS ⊢
  go_quiet ((first | (go_at_call 35; with_reducible exact Calls.quiet_of_same (I1A.out _)) | (go_at_call 35; with_reducible exact Calls.quiet_of_same (I2A.out _))))
  go_wp2_with fail
  obtain ⟨w2, hw2⟩ : ∃ w2, w1.drewN nq = w2 := ⟨_, rfl⟩
  have h2 : MH base w2 m gr go vB size R O := hw2 ▸ H1.out.drewN nq
  have hB2 : Below base w0 w2 := hw2 ▸ pw_below_drewN HB1.out nq
  have hbs2 : w2.heap[bs]? = some (.cells #[Value.int .u8 3, .int .i64 (D : Int), .int .i64 (S : Int), .int .u8 f3] 38 (0, 0)) := hw2 ▸ HBS.out
  rw [hw2]
  clear q0 q1 q2 c0 cs cd hq hw2 H1 HB1 HBS
  have q2 : w2.cell? ⟨bs, 2, none⟩ = some (.int .i64 (S : Int)) := (blk_cell hbs2 2).trans rfl
  have q3 : w2.cell? ⟨bs, 3, none⟩ = some (.int .u8 f3) := (blk_cell hbs2 3).trans rfl
  have c0 := h2.c0
  have cs := h2.cr S hS
  rw [HY.out] at cs
  simp only [encM] at cs
  have hmb : some b ∈ R ++ O := List.mem_append.2 (.inl (HY.out ▸ List.getElem_mem hS))
  have hlb := own_len (h2.own b hmb)
  have hbC := own_C (h2.own b hmb)
  have hcap : size ≤ b.cap := own_cap (h2.own b hmb)
  have hscale := field_Scale.calls f3 (some ⟨b.g, 0, none⟩) b.cap b.l y w2.drew (by rw [hlb]; exact hbC) (by rw [hlb]; exact hcap) HSC.out
  rw [hlb] at hscale
  have HSCA := Aside0.mk hscale
  have H2 := Aside0.mk h2
  have HB2 := Aside0.mk hB2
  have HBS2 := Aside0.mk hbs2
  clear hscale h2 hB2 hbs2 hmb hlb hbC hcap
  go_region_held3 (fun w' => w'.cell? ⟨m, 0, none⟩ = some (.slice (some ⟨gr, 0, none⟩) R.length R.length) ∧ w'.cell? ⟨bs, 2, none⟩ = some (.int .i64 (S : Int)) ∧ w'.cell? ⟨bs, 3, none⟩ = some (.int .u8 f3) ∧ w'.cell? ⟨gr, S, none⟩ = some (.slice (some ⟨b.g, 0, none⟩) size b.cap)) (go_keep) ((go_at_call 36; refine HSCA.out.mono ?_; rintro e w3 ⟨v0, rfl, hr3, hb3⟩; have hk3 : ∀ k, k < w2.heap.size → w3.heap[k]? = w2.heap[k]? := (fun k hk => hb3.block k hk); have k0 := Kd.cell_heap hk3 c0; have k2 := Kd.cell_heap hk3 q2; have k3 := Kd.cell_heap hk3 q3; have ks := Kd.cell_heap hk3 cs; obtain ⟨Ay, cy, rfl⟩ := Kd.R_slice hr3; have HR3 := Aside0.mk (And.intro hr3 hb3); clear hr3 hb3 hk3))
  have hyl : y.length ≤ 9223372036854775807 := by have := HYL.out; omega
  have hb23 : Below w2.heap.size w2 w3 := below_then (below_drew1 (Below.refl w2.heap.size w2)) (Nat.le_refl _) HR3.out.2
  have hR3 : MH base w3 m gr go vB size R O := H2.out.below hb23
  have hB3 : Below base w0 w3 := below_then HB2.out H2.out.bw hb23
  have hmem : some a ∈ R ++ O := List.mem_append.2 (.inl (HX.out ▸ List.getElem_mem hD))
  have hal := own_len (hR3.own a hmem)
  have hnb := H2.out.nb a hmem
  have hyR : Kd.R (Kd.int .u8) 5 w3 w2.heap.size (fun k => w2.heap.size ≤ k) (.slice Ay y.length cy) y := Kd.R_mono (Kd.R_bound HR3.out.1) (fun k hk => hk.2.1)
  have hset0 : R.set D (some { a with l := xorL (a.l.take 0) (y.take 0) ++ a.l.drop 0 }) = R := by
    rw [show xorL (a.l.take 0) (y.take 0) ++ a.l.drop 0 = a.l from by simp [xorL]]
    refine List.ext_getElem? fun j => ?_
    rw [List.getElem?_set]
    split
    · rename_i hj; rw [← hj, List.getElem?_eq_getElem hD, HX.out]
    · rfl
  have hbs3 := (HR3.out.2.block bs (by show bs < w2.heap.size; exact blk_lt HBS2.out)).trans HBS2.out
  have H3 : Aside0 (MH base w3 m gr go vB size (R.set D (some { a with l := xorL (a.l.take 0) (y.take 0) ++ a.l.drop 0 })) O) := ⟨by rw [hset0]; exact hR3⟩
  have HB3 := Aside0.mk hB3
  have HYR := Aside0.mk hyR
  have HBS3 := Aside0.mk hbs3
  have HNB := Aside0.mk hnb
  have HAL := Aside0.mk hal
  have hnbs := blk_lt HBS2.out
  have HLT := Aside0.mk (And.intro (hnbs) (And.intro (blk_ty_ne hbs3 hR3.rr (by decide)) (blk_ty_ne hbs3 hR3.blk (by decide))))
  have HAG : Aside0 (a.g ≠ bs) := ⟨fun e => by
    have h_ := own_typed (hR3.own a hmem) a.g rfl
    obtain ⟨cells, hc⟩ := h_
    rw [e, hbs3] at hc
    injection hc with hc
    injection hc with _ h2
    exact absurd h2 (by decide)⟩
  clear hb23 hR3 hB3 hmem hal hnb hyR hset0 hbs3 hnbs c0 q2 q3 cs k0 k2 k3 ks HR3 H2 HB2 HSCA HBS2 hbnd
  go_wp2_with fail
  go_loopw [126] (fun v126 w' => ∃ i : Nat, i ≤ y.length ∧ v126 = .int .i64 i ∧ Aside0 (MH base w' m gr go vB size (R.set D (some { a with l := xorL (a.l.take i) (y.take i) ++ a.l.drop i })) O) ∧ Aside0 (Below base w0 w') ∧ Aside0 (Kd.R (Kd.int .u8) 5 w' w2.heap.size (fun k => w2.heap.size ≤ k) (.slice Ay y.length cy) y) ∧ Aside0 (w'.heap[bs]? = some (.cells #[Value.int .u8 3, .int .i64 (D : Int), .int .i64 (S : Int), .int .u8 f3] 38 (0, 0)))) (fun v _ => y.length - (intOf v).toNat)
  case atStart => exact ⟨0, Nat.zero_le _, rfl, H3, HB3, HYR, HBS3⟩
  case round =>
    obtain ⟨i, hi, rfl, HM, HBl, HYi, HBi⟩ := hrel
    have hDs : D < (R.set D (some { a with l := xorL (a.l.take i) (y.take i) ++ a.l.drop i })).length := by rw [List.length_set]; exact hD
    have hget : (R.set D (some { a with l := xorL (a.l.take i) (y.take i) ++ a.l.drop i }))[D] = some { a with l := xorL (a.l.take i) (y.take i) ++ a.l.drop i } := by simp
    by_cases hlt : i < y.length
    · have hyl2 := HYL.out
      obtain ⟨ady, rfl, hy0⟩ := Kd.at_int (Kd.R_reads' HYi.out).2.2 (i : Int) (by omega) (by omega)
      simp only [Int.toNat_natCast] at hy0
      have hmem : some { a with l := xorL (a.l.take i) (y.take i) ++ a.l.drop i } ∈ R.set D (some { a with l := xorL (a.l.take i) (y.take i) ++ a.l.drop i }) ++ O := List.mem_append.2 (.inl (List.mem_of_getElem? (by rw [List.getElem?_eq_getElem hDs, hget])))
      have hox := HM.out.own _ hmem
      have hat := own_at (g := a.g) (cap := a.cap) hox (i : Int) (by omega) (by omega)
      rw [xorL_at a.l y i (by rw [HAL.out]; omega) hlt] at hat
      simp only [Int.toNat_natCast] at hat
      obtain ⟨ha0, haf⟩ := hat
      have c0 := HM.out.c0
      rw [List.length_set] at c0
      have cr := HM.out.cr D hDs
      rw [hget] at cr
      simp only [encM] at cr
      have q1 : wr.cell? ⟨bs, 1, none⟩ = some (.int .i64 (D : Int)) := (blk_cell HBi.out 1).trans rfl
      have hi0 : (0 : Int) ≤ (i : Int) := by omega
      have hi1 : (i : Int) < (y.length : Int) := by omega
      have hi2 : (i : Int) < (size : Int) := by omega
      have hyi : rd y (i : Int) = y[i] := by simp [rd, hlt]
      rw [hyi] at hy0
      have hput := HM.out.put D _ (by rw [List.getElem?_eq_getElem hDs, hget]) (i : Int) (Go.bits .xor .u8 (a.l[i]'(by rw [HAL.out]; omega)) y[i])
      simp only [List.set_set, Int.toNat_natCast] at hput
      rw [xorL_step a.l y i (by rw [HAL.out]; omega) hlt] at hput
      have hyput : Kd.R (Kd.int .u8) 5 (wr.setCell ⟨a.g, i, none⟩ (.int .u8 (Go.bits .xor .u8 (a.l[i]'(by rw [HAL.out]; omega)) y[i]))) w2.heap.size (fun k => w2.heap.size ≤ k) (.slice (some ady) y.length cy) y := Kd.R_far HYi.out (p := ⟨a.g, i, none⟩) (fun k hk => by have := HNB.out.2.2.2.1; show k ≠ a.g; omega) _
      have hbput := Below.setCell HBl.out (p := ⟨a.g, i, none⟩) HNB.out.2.2.2.2 (.int .u8 (Go.bits .xor .u8 (a.l[i]'(by rw [HAL.out]; omega)) y[i]))
      have hbsput := (Below.heap_setCell wr ⟨a.g, i, none⟩ (.int .u8 (Go.bits .xor .u8 (a.l[i]'(by rw [HAL.out]; omega)) y[i])) bs (fun e => HAG.out e.symm)).trans HBi.out
      have HP := Aside0.mk hput
      have HYP := Aside0.mk hyput
      have HBP := Aside0.mk hbput
      have HBSP := Aside0.mk hbsput
      clear hput hyput hbput hbsput hox hmem hget hDs HM HBl HYi HBi hyi
      go_wp2_with fail
      go_region
      go_wp2_with fail
      go_roundw
      case rel => exact ⟨i + 1, by omega, by go_num, ⟨HP.out.drew⟩, ⟨below_drew1 HBP.out⟩, ⟨HYP.out⟩, ⟨HBSP.out⟩⟩
      case measure => simp [intOf]; omega
    · obtain rfl : i = y.length := by omega
      have hfin := DoP.yes HBl.out HM.out
      rw [plain_set] at hfin
      have e : xorL (a.l.take y.length) (y.take y.length) ++ a.l.drop y.length = xorL a.l y := by
        have h1 := HAL.out
        have h2 := HYL.out
        rw [List.take_of_length_le (by omega), List.take_of_length_le (by omega), List.drop_of_length_le (by omega), List.append_nil]
      rw [e] at hfin
      have HFIN := Aside0.mk hfin
      clear hfin e hget hDs
      go_wp2_with fail
      go_ret
      exact HFIN.out
end Go.Proofs.Ytlflfpkjbjbldaa.PA
