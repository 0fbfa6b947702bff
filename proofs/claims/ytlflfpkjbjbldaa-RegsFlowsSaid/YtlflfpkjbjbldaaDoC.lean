import Derived.Test.YtlflfpkjbjbldaaDoB
namespace Go.Proofs.Ytlflfpkjbjbldaa.PA
open Go.RowKit Go.Proofs.YtlflfpkjbjbldaaW.PrintWords Go.Proofs.YtlflfpkjbjbldaaW.PrintLast Go.Proofs.YtlflfpkjbjbldaaW.PrintMore
attribute [local go_sem] max2_int min2_int max_two min_two max_three min_three max_four min_four
set_option linter.unusedVariables false
set_option linter.unusedSimpArgs false
set_option maxRecDepth 100000 in
set_option maxHeartbeats 2000000 in
theorem do_clear_no {base : Nat} {w0 w : World} {m gr go : Nat} {AB : Option Addr} {nB cB : Nat} {size : Nat} {R O : List (Option MR)} (h : MH base w m gr go (.slice AB nB cB) size R O) (hB : Below base w0 w) (hnB : nB ≤ 9223372036854775807) (f1 f2 f3 : Int)  (hd : ¬ inR f1 R.length) :
    Calls Try.prog 24 #[.pointer (some ⟨m, 0, none⟩), .agg #[.int .u8 1, .int .i64 f1, .int .i64 f2, .int .u8 f3]] w (DoP base w0 m gr go (.slice AB nB cB) size none) := by
  obtain ⟨w1, hw1⟩ : ∃ w1, w.alloc (.cells #[Value.int .u8 1, .int .i64 f1, .int .i64 f2, .int .u8 f3] 38) = w1 := ⟨_, rfl⟩
  have h1 : MH base w1 m gr go (.slice AB nB cB) size R O := hw1 ▸ h.alloc _
  have hB1 : Below base w0 w1 := hw1 ▸ hB.alloc h.bw _
  have hbs : w1.heap[w.heap.size]? = some (.cells #[Value.int .u8 1, .int .i64 f1, .int .i64 f2, .int .u8 f3] 38 (0, 0)) := hw1 ▸ heap_alloc_new w _
  have q0 : w1.cell? ⟨w.heap.size, 0, none⟩ = some (.int .u8 1) := (blk_cell hbs 0).trans rfl
  have q1 : w1.cell? ⟨w.heap.size, 1, none⟩ = some (.int .i64 f1) := (blk_cell hbs 1).trans rfl
  have q2 : w1.cell? ⟨w.heap.size, 2, none⟩ = some (.int .i64 f2) := (blk_cell hbs 2).trans rfl
  have c0 := h1.c0
  have c1 := h1.c1
  have c2 := h1.c2
  have hrl := h1.rl
  have hol := h1.ol
  have i1 := fun w_ => in_no f1 (some ⟨gr, 0, none⟩) R.length R.length w_ hd (by omega)
  have I1A := Aside0.mk i1
  clear i1
  have HD := Aside0.mk hd
  clear hd
  have HB1 := Aside0.mk hB1
  have HW := Aside0.mk hw1
  have HNB := Aside0.mk hnB
  clear h hB h1 hB1 hw1 hbs hnB
  go_enter Try.func24, Try.ntmps24
  go_wp2_with fail
  rw [HW.out]
  generalize w.heap.size = bs at q0 q1 q2 ⊢
  go_quiet (((go_at_call 35; with_reducible exact Calls.quiet_of_same (I1A.out _))))
  go_wp2_with fail
  go_ret
  exact DoP.no (pw_below_drewN HB1.out _)
set_option maxRecDepth 100000 in
set_option maxHeartbeats 2000000 in
theorem do_load_no1 {base : Nat} {w0 w : World} {m gr go : Nat} {AB : Option Addr} {nB cB : Nat} {size : Nat} {R O : List (Option MR)} (h : MH base w m gr go (.slice AB nB cB) size R O) (hB : Below base w0 w) (hnB : nB ≤ 9223372036854775807) (f1 f2 f3 : Int)  (hd : ¬ inR f1 R.length) :
    Calls Try.prog 24 #[.pointer (some ⟨m, 0, none⟩), .agg #[.int .u8 2, .int .i64 f1, .int .i64 f2, .int .u8 f3]] w (DoP base w0 m gr go (.slice AB nB cB) size none) := by
  obtain ⟨w1, hw1⟩ : ∃ w1, w.alloc (.cells #[Value.int .u8 2, .int .i64 f1, .int .i64 f2, .int .u8 f3] 38) = w1 := ⟨_, rfl⟩
  have h1 : MH base w1 m gr go (.slice AB nB cB) size R O := hw1 ▸ h.alloc _
  have hB1 : Below base w0 w1 := hw1 ▸ hB.alloc h.bw _
  have hbs : w1.heap[w.heap.size]? = some (.cells #[Value.int .u8 2, .int .i64 f1, .int .i64 f2, .int .u8 f3] 38 (0, 0)) := hw1 ▸ heap_alloc_new w _
  have q0 : w1.cell? ⟨w.heap.size, 0, none⟩ = some (.int .u8 2) := (blk_cell hbs 0).trans rfl
  have q1 : w1.cell? ⟨w.heap.size, 1, none⟩ = some (.int .i64 f1) := (blk_cell hbs 1).trans rfl
  have q2 : w1.cell? ⟨w.heap.size, 2, none⟩ = some (.int .i64 f2) := (blk_cell hbs 2).trans rfl
  have c0 := h1.c0
  have c1 := h1.c1
  have c2 := h1.c2
  have hrl := h1.rl
  have hol := h1.ol
  have i1 := fun w_ => in_no f1 (some ⟨gr, 0, none⟩) R.length R.length w_ hd (by omega)
  have I1A := Aside0.mk i1
  clear i1
  have HD := Aside0.mk hd
  clear hd
  have HB1 := Aside0.mk hB1
  have HW := Aside0.mk hw1
  have HNB := Aside0.mk hnB
  clear h hB h1 hB1 hw1 hbs hnB
  go_enter Try.func24, Try.ntmps24
  go_wp2_with fail
  rw [HW.out]
  generalize w.heap.size = bs at q0 q1 q2 ⊢
  go_quiet (((go_at_call 35; with_reducible exact Calls.quiet_of_same (I1A.out _))))
  go_wp2_with fail
  go_ret
  exact DoP.no (pw_below_drewN HB1.out _)
set_option maxRecDepth 100000 in
set_option maxHeartbeats 2000000 in
theorem do_load_no2 {base : Nat} {w0 w : World} {m gr go : Nat} {AB : Option Addr} {nB cB : Nat} {size : Nat} {R O : List (Option MR)} (h : MH base w m gr go (.slice AB nB cB) size R O) (hB : Below base w0 w) (hnB : nB ≤ 9223372036854775807) (f1 f2 f3 : Int)  (hd : inR f1 R.length) (hs : ¬ inR f2 nB) :
    Calls Try.prog 24 #[.pointer (some ⟨m, 0, none⟩), .agg #[.int .u8 2, .int .i64 f1, .int .i64 f2, .int .u8 f3]] w (DoP base w0 m gr go (.slice AB nB cB) size none) := by
  obtain ⟨w1, hw1⟩ : ∃ w1, w.alloc (.cells #[Value.int .u8 2, .int .i64 f1, .int .i64 f2, .int .u8 f3] 38) = w1 := ⟨_, rfl⟩
  have h1 : MH base w1 m gr go (.slice AB nB cB) size R O := hw1 ▸ h.alloc _
  have hB1 : Below base w0 w1 := hw1 ▸ hB.alloc h.bw _
  have hbs : w1.heap[w.heap.size]? = some (.cells #[Value.int .u8 2, .int .i64 f1, .int .i64 f2, .int .u8 f3] 38 (0, 0)) := hw1 ▸ heap_alloc_new w _
  have q0 : w1.cell? ⟨w.heap.size, 0, none⟩ = some (.int .u8 2) := (blk_cell hbs 0).trans rfl
  have q1 : w1.cell? ⟨w.heap.size, 1, none⟩ = some (.int .i64 f1) := (blk_cell hbs 1).trans rfl
  have q2 : w1.cell? ⟨w.heap.size, 2, none⟩ = some (.int .i64 f2) := (blk_cell hbs 2).trans rfl
  have c0 := h1.c0
  have c1 := h1.c1
  have c2 := h1.c2
  have hrl := h1.rl
  have hol := h1.ol
  have i1 := fun w_ => in_yes f1 (some ⟨gr, 0, none⟩) R.length R.length w_ hd (by omega)
  have I1A := Aside0.mk i1
  clear i1
  have i2 := fun w_ => in_no f2 AB nB cB w_ hs hnB
  have I2A := Aside0.mk i2
  clear i2
  have HD := Aside0.mk hd
  clear hd
  have HS := Aside0.mk hs
  clear hs
  have HB1 := Aside0.mk hB1
  have HW := Aside0.mk hw1
  have HNB := Aside0.mk hnB
  clear h hB h1 hB1 hw1 hbs hnB
  go_enter Try.func24, Try.ntmps24
  go_wp2_with fail
  rw [HW.out]
  generalize w.heap.size = bs at q0 q1 q2 ⊢
  go_quiet ((first | (go_at_call 35; with_reducible exact Calls.quiet_of_same (I1A.out _)) | (go_at_call 35; with_reducible exact Calls.quiet_of_same (I2A.out _))))
  go_wp2_with fail
  go_ret
  exact DoP.no (pw_below_drewN HB1.out _)
set_option maxRecDepth 100000 in
set_option maxHeartbeats 2000000 in
theorem do_mac_no1 {base : Nat} {w0 w : World} {m gr go : Nat} {AB : Option Addr} {nB cB : Nat} {size : Nat} {R O : List (Option MR)} (h : MH base w m gr go (.slice AB nB cB) size R O) (hB : Below base w0 w) (hnB : nB ≤ 9223372036854775807) (f1 f2 f3 : Int)  (hd : ¬ inR f1 R.length) :
    Calls Try.prog 24 #[.pointer (some ⟨m, 0, none⟩), .agg #[.int .u8 3, .int .i64 f1, .int .i64 f2, .int .u8 f3]] w (DoP base w0 m gr go (.slice AB nB cB) size none) := by
  obtain ⟨w1, hw1⟩ : ∃ w1, w.alloc (.cells #[Value.int .u8 3, .int .i64 f1, .int .i64 f2, .int .u8 f3] 38) = w1 := ⟨_, rfl⟩
  have h1 : MH base w1 m gr go (.slice AB nB cB) size R O := hw1 ▸ h.alloc _
  have hB1 : Below base w0 w1 := hw1 ▸ hB.alloc h.bw _
  have hbs : w1.heap[w.heap.size]? = some (.cells #[Value.int .u8 3, .int .i64 f1, .int .i64 f2, .int .u8 f3] 38 (0, 0)) := hw1 ▸ heap_alloc_new w _
  have q0 : w1.cell? ⟨w.heap.size, 0, none⟩ = some (.int .u8 3) := (blk_cell hbs 0).trans rfl
  have q1 : w1.cell? ⟨w.heap.size, 1, none⟩ = some (.int .i64 f1) := (blk_cell hbs 1).trans rfl
  have q2 : w1.cell? ⟨w.heap.size, 2, none⟩ = some (.int .i64 f2) := (blk_cell hbs 2).trans rfl
  have c0 := h1.c0
  have c1 := h1.c1
  have c2 := h1.c2
  have hrl := h1.rl
  have hol := h1.ol
  have i1 := fun w_ => in_no f1 (some ⟨gr, 0, none⟩) R.length R.length w_ hd (by omega)
  have I1A := Aside0.mk i1
  clear i1
  have HD := Aside0.mk hd
  clear hd
  have HB1 := Aside0.mk hB1
  have HW := Aside0.mk hw1
  have HNB := Aside0.mk hnB
  clear h hB h1 hB1 hw1 hbs hnB
  go_enter Try.func24, Try.ntmps24
  go_wp2_with fail
  rw [HW.out]
  generalize w.heap.size = bs at q0 q1 q2 ⊢
  go_quiet (((go_at_call 35; with_reducible exact Calls.quiet_of_same (I1A.out _))))
  go_wp2_with fail
  go_ret
  exact DoP.no (pw_below_drewN HB1.out _)
set_option maxRecDepth 100000 in
set_option maxHeartbeats 2000000 in
theorem do_mac_no2 {base : Nat} {w0 w : World} {m gr go : Nat} {AB : Option Addr} {nB cB : Nat} {size : Nat} {R O : List (Option MR)} (h : MH base w m gr go (.slice AB nB cB) size R O) (hB : Below base w0 w) (hnB : nB ≤ 9223372036854775807) (f1 f2 f3 : Int)  (hd : inR f1 R.length) (hs : ¬ inR f2 R.length) :
    Calls Try.prog 24 #[.pointer (some ⟨m, 0, none⟩), .agg #[.int .u8 3, .int .i64 f1, .int .i64 f2, .int .u8 f3]] w (DoP base w0 m gr go (.slice AB nB cB) size none) := by
  obtain ⟨w1, hw1⟩ : ∃ w1, w.alloc (.cells #[Value.int .u8 3, .int .i64 f1, .int .i64 f2, .int .u8 f3] 38) = w1 := ⟨_, rfl⟩
  have h1 : MH base w1 m gr go (.slice AB nB cB) size R O := hw1 ▸ h.alloc _
  have hB1 : Below base w0 w1 := hw1 ▸ hB.alloc h.bw _
  have hbs : w1.heap[w.heap.size]? = some (.cells #[Value.int .u8 3, .int .i64 f1, .int .i64 f2, .int .u8 f3] 38 (0, 0)) := hw1 ▸ heap_alloc_new w _
  have q0 : w1.cell? ⟨w.heap.size, 0, none⟩ = some (.int .u8 3) := (blk_cell hbs 0).trans rfl
  have q1 : w1.cell? ⟨w.heap.size, 1, none⟩ = some (.int .i64 f1) := (blk_cell hbs 1).trans rfl
  have q2 : w1.cell? ⟨w.heap.size, 2, none⟩ = some (.int .i64 f2) := (blk_cell hbs 2).trans rfl
  have c0 := h1.c0
  have c1 := h1.c1
  have c2 := h1.c2
  have hrl := h1.rl
  have hol := h1.ol
  have i1 := fun w_ => in_yes f1 (some ⟨gr, 0, none⟩) R.length R.length w_ hd (by omega)
  have I1A := Aside0.mk i1
  clear i1
  have i2 := fun w_ => in_no f2 (some ⟨gr, 0, none⟩) R.length R.length w_ hs (by omega)
  have I2A := Aside0.mk i2
  clear i2
  have HD := Aside0.mk hd
  clear hd
  have HS := Aside0.mk hs
  clear hs
  have HB1 := Aside0.mk hB1
  have HW := Aside0.mk hw1
  have HNB := Aside0.mk hnB
  clear h hB h1 hB1 hw1 hbs hnB
  go_enter Try.func24, Try.ntmps24
  go_wp2_with fail
  rw [HW.out]
  generalize w.heap.size = bs at q0 q1 q2 ⊢
  go_quiet ((first | (go_at_call 35; with_reducible exact Calls.quiet_of_same (I1A.out _)) | (go_at_call 35; with_reducible exact Calls.quiet_of_same (I2A.out _))))
  go_wp2_with fail
  go_ret
  exact DoP.no (pw_below_drewN HB1.out _)
set_option maxRecDepth 100000 in
set_option maxHeartbeats 2000000 in
theorem do_mac_no3 {base : Nat} {w0 w : World} {m gr go : Nat} {AB : Option Addr} {nB cB : Nat} {size : Nat} {R O : List (Option MR)} (h : MH base w m gr go (.slice AB nB cB) size R O) (hB : Below base w0 w) (hnB : nB ≤ 9223372036854775807) (f3 : Int) (D : Nat) (S : Nat) (hd : D < R.length) (hs : S < R.length) (hx : R[D] = none) :
    Calls Try.prog 24 #[.pointer (some ⟨m, 0, none⟩), .agg #[.int .u8 3, .int .i64 (D : Int), .int .i64 (S : Int), .int .u8 f3]] w (DoP base w0 m gr go (.slice AB nB cB) size none) := by
  obtain ⟨w1, hw1⟩ : ∃ w1, w.alloc (.cells #[Value.int .u8 3, .int .i64 (D : Int), .int .i64 (S : Int), .int .u8 f3] 38) = w1 := ⟨_, rfl⟩
  have h1 : MH base w1 m gr go (.slice AB nB cB) size R O := hw1 ▸ h.alloc _
  have hB1 : Below base w0 w1 := hw1 ▸ hB.alloc h.bw _
  have hbs : w1.heap[w.heap.size]? = some (.cells #[Value.int .u8 3, .int .i64 (D : Int), .int .i64 (S : Int), .int .u8 f3] 38 (0, 0)) := hw1 ▸ heap_alloc_new w _
  have q0 : w1.cell? ⟨w.heap.size, 0, none⟩ = some (.int .u8 3) := (blk_cell hbs 0).trans rfl
  have q1 : w1.cell? ⟨w.heap.size, 1, none⟩ = some (.int .i64 (D : Int)) := (blk_cell hbs 1).trans rfl
  have q2 : w1.cell? ⟨w.heap.size, 2, none⟩ = some (.int .i64 (S : Int)) := (blk_cell hbs 2).trans rfl
  have c0 := h1.c0
  have c1 := h1.c1
  have c2 := h1.c2
  have hrl := h1.rl
  have hol := h1.ol
  have hq : ∀ (w : World) (a : Option Addr) (n c n' c' : Nat), (binOp .eql 68 (.slice a n c) (.slice none n' c')).run Try.prog w = .ok (.bool a.isNone) w := fun w a n c n' c' => Lib.run_eql_slice_nil w _ _ a n c n' c' Try.underlying68
  have cr := h1.cr D hd
  rw [hx] at cr
  simp only [encM] at cr
  have cri0 : (0 : Int) ≤ (D : Int) := by omega
  have cri1 : (D : Int) < (R.length : Int) := by omega
  have si0 : (0 : Int) ≤ (S : Int) := by omega
  have i1 := fun w_ => in_yes (D : Int) (some ⟨gr, 0, none⟩) R.length R.length w_ ⟨by omega, by omega⟩ (by omega)
  have I1A := Aside0.mk i1
  clear i1
  have i2 := fun w_ => in_yes (S : Int) (some ⟨gr, 0, none⟩) R.length R.length w_ ⟨by omega, by omega⟩ (by omega)
  have I2A := Aside0.mk i2
  clear i2
  clear hx
  have HB1 := Aside0.mk hB1
  have HW := Aside0.mk hw1
  have HNB := Aside0.mk hnB
  clear h hB h1 hB1 hw1 hbs hnB
  go_enter Try.func24, Try.ntmps24
  go_wp2_with fail
  rw [HW.out]
  generalize w.heap.size = bs at q0 q1 q2 ⊢
  go_quiet ((first | (go_at_call 35; with_reducible exact Calls.quiet_of_same (I1A.out _)) | (go_at_call 35; with_reducible exact Calls.quiet_of_same (I2A.out _))))
  go_wp2_with fail
  go_ret
  exact DoP.no (pw_below_drewN HB1.out _)
set_option maxRecDepth 100000 in
set_option maxHeartbeats 2000000 in
theorem do_mac_no4 {base : Nat} {w0 w : World} {m gr go : Nat} {AB : Option Addr} {nB cB : Nat} {size : Nat} {R O : List (Option MR)} (h : MH base w m gr go (.slice AB nB cB) size R O) (hB : Below base w0 w) (hnB : nB ≤ 9223372036854775807) (f3 : Int) (D : Nat) (S : Nat) (hd : D < R.length) (hs : S < R.length) (r : MR) (hx : R[D] = some r) (hy : R[S] = none) :
    Calls Try.prog 24 #[.pointer (some ⟨m, 0, none⟩), .agg #[.int .u8 3, .int .i64 (D : Int), .int .i64 (S : Int), .int .u8 f3]] w (DoP base w0 m gr go (.slice AB nB cB) size none) := by
  obtain ⟨w1, hw1⟩ : ∃ w1, w.alloc (.cells #[Value.int .u8 3, .int .i64 (D : Int), .int .i64 (S : Int), .int .u8 f3] 38) = w1 := ⟨_, rfl⟩
  have h1 : MH base w1 m gr go (.slice AB nB cB) size R O := hw1 ▸ h.alloc _
  have hB1 : Below base w0 w1 := hw1 ▸ hB.alloc h.bw _
  have hbs : w1.heap[w.heap.size]? = some (.cells #[Value.int .u8 3, .int .i64 (D : Int), .int .i64 (S : Int), .int .u8 f3] 38 (0, 0)) := hw1 ▸ heap_alloc_new w _
  have q0 : w1.cell? ⟨w.heap.size, 0, none⟩ = some (.int .u8 3) := (blk_cell hbs 0).trans rfl
  have q1 : w1.cell? ⟨w.heap.size, 1, none⟩ = some (.int .i64 (D : Int)) := (blk_cell hbs 1).trans rfl
  have q2 : w1.cell? ⟨w.heap.size, 2, none⟩ = some (.int .i64 (S : Int)) := (blk_cell hbs 2).trans rfl
  have c0 := h1.c0
  have c1 := h1.c1
  have c2 := h1.c2
  have hrl := h1.rl
  have hol := h1.ol
  have hq : ∀ (w : World) (a : Option Addr) (n c n' c' : Nat), (binOp .eql 68 (.slice a n c) (.slice none n' c')).run Try.prog w = .ok (.bool a.isNone) w := fun w a n c n' c' => Lib.run_eql_slice_nil w _ _ a n c n' c' Try.underlying68
  have cr := h1.cr D hd
  rw [hx] at cr
  simp only [encM] at cr
  have cri0 : (0 : Int) ≤ (D : Int) := by omega
  have cri1 : (D : Int) < (R.length : Int) := by omega
  have cs := h1.cr S hs
  rw [hy] at cs
  simp only [encM] at cs
  have csi0 : (0 : Int) ≤ (S : Int) := by omega
  have csi1 : (S : Int) < (R.length : Int) := by omega
  have i1 := fun w_ => in_yes (D : Int) (some ⟨gr, 0, none⟩) R.length R.length w_ ⟨by omega, by omega⟩ (by omega)
  have I1A := Aside0.mk i1
  clear i1
  have i2 := fun w_ => in_yes (S : Int) (some ⟨gr, 0, none⟩) R.length R.length w_ ⟨by omega, by omega⟩ (by omega)
  have I2A := Aside0.mk i2
  clear i2
  clear hx hy
  have HB1 := Aside0.mk hB1
  have HW := Aside0.mk hw1
  have HNB := Aside0.mk hnB
  clear h hB h1 hB1 hw1 hbs hnB
  go_enter Try.func24, Try.ntmps24
  go_wp2_with fail
  rw [HW.out]
  generalize w.heap.size = bs at q0 q1 q2 ⊢
  go_quiet ((first | (go_at_call 35; with_reducible exact Calls.quiet_of_same (I1A.out _)) | (go_at_call 35; with_reducible exact Calls.quiet_of_same (I2A.out _))))
  go_wp2_with fail
  go_ret
  exact DoP.no (pw_below_drewN HB1.out _)
set_option maxRecDepth 100000 in
set_option maxHeartbeats 2000000 in
theorem do_out_no1 {base : Nat} {w0 w : World} {m gr go : Nat} {AB : Option Addr} {nB cB : Nat} {size : Nat} {R O : List (Option MR)} (h : MH base w m gr go (.slice AB nB cB) size R O) (hB : Below base w0 w) (hnB : nB ≤ 9223372036854775807) (f1 f2 f3 : Int)  (hs : ¬ inR f2 R.length) :
    Calls Try.prog 24 #[.pointer (some ⟨m, 0, none⟩), .agg #[.int .u8 4, .int .i64 f1, .int .i64 f2, .int .u8 f3]] w (DoP base w0 m gr go (.slice AB nB cB) size none) := by
  obtain ⟨w1, hw1⟩ : ∃ w1, w.alloc (.cells #[Value.int .u8 4, .int .i64 f1, .int .i64 f2, .int .u8 f3] 38) = w1 := ⟨_, rfl⟩
  have h1 : MH base w1 m gr go (.slice AB nB cB) size R O := hw1 ▸ h.alloc _
  have hB1 : Below base w0 w1 := hw1 ▸ hB.alloc h.bw _
  have hbs : w1.heap[w.heap.size]? = some (.cells #[Value.int .u8 4, .int .i64 f1, .int .i64 f2, .int .u8 f3] 38 (0, 0)) := hw1 ▸ heap_alloc_new w _
  have q0 : w1.cell? ⟨w.heap.size, 0, none⟩ = some (.int .u8 4) := (blk_cell hbs 0).trans rfl
  have q1 : w1.cell? ⟨w.heap.size, 1, none⟩ = some (.int .i64 f1) := (blk_cell hbs 1).trans rfl
  have q2 : w1.cell? ⟨w.heap.size, 2, none⟩ = some (.int .i64 f2) := (blk_cell hbs 2).trans rfl
  have c0 := h1.c0
  have c1 := h1.c1
  have c2 := h1.c2
  have hrl := h1.rl
  have hol := h1.ol
  have i2 := fun w_ => in_no f2 (some ⟨gr, 0, none⟩) R.length R.length w_ hs (by omega)
  have I2A := Aside0.mk i2
  clear i2
  have HS := Aside0.mk hs
  clear hs
  have HB1 := Aside0.mk hB1
  have HW := Aside0.mk hw1
  have HNB := Aside0.mk hnB
  clear h hB h1 hB1 hw1 hbs hnB
  go_enter Try.func24, Try.ntmps24
  go_wp2_with fail
  rw [HW.out]
  generalize w.heap.size = bs at q0 q1 q2 ⊢
  go_quiet (((go_at_call 35; with_reducible exact Calls.quiet_of_same (I2A.out _))))
  go_wp2_with fail
  go_ret
  exact DoP.no (pw_below_drewN HB1.out _)
set_option maxRecDepth 100000 in
set_option maxHeartbeats 2000000 in
theorem do_out_no2 {base : Nat} {w0 w : World} {m gr go : Nat} {AB : Option Addr} {nB cB : Nat} {size : Nat} {R O : List (Option MR)} (h : MH base w m gr go (.slice AB nB cB) size R O) (hB : Below base w0 w) (hnB : nB ≤ 9223372036854775807) (f1 f3 : Int) (S : Nat) (hs : S < R.length) (hy : R[S] = none) :
    Calls Try.prog 24 #[.pointer (some ⟨m, 0, none⟩), .agg #[.int .u8 4, .int .i64 f1, .int .i64 (S : Int), .int .u8 f3]] w (DoP base w0 m gr go (.slice AB nB cB) size none) := by
  obtain ⟨w1, hw1⟩ : ∃ w1, w.alloc (.cells #[Value.int .u8 4, .int .i64 f1, .int .i64 (S : Int), .int .u8 f3] 38) = w1 := ⟨_, rfl⟩
  have h1 : MH base w1 m gr go (.slice AB nB cB) size R O := hw1 ▸ h.alloc _
  have hB1 : Below base w0 w1 := hw1 ▸ hB.alloc h.bw _
  have hbs : w1.heap[w.heap.size]? = some (.cells #[Value.int .u8 4, .int .i64 f1, .int .i64 (S : Int), .int .u8 f3] 38 (0, 0)) := hw1 ▸ heap_alloc_new w _
  have q0 : w1.cell? ⟨w.heap.size, 0, none⟩ = some (.int .u8 4) := (blk_cell hbs 0).trans rfl
  have q1 : w1.cell? ⟨w.heap.size, 1, none⟩ = some (.int .i64 f1) := (blk_cell hbs 1).trans rfl
  have q2 : w1.cell? ⟨w.heap.size, 2, none⟩ = some (.int .i64 (S : Int)) := (blk_cell hbs 2).trans rfl
  have c0 := h1.c0
  have c1 := h1.c1
  have c2 := h1.c2
  have hrl := h1.rl
  have hol := h1.ol
  have hq : ∀ (w : World) (a : Option Addr) (n c n' c' : Nat), (binOp .eql 68 (.slice a n c) (.slice none n' c')).run Try.prog w = .ok (.bool a.isNone) w := fun w a n c n' c' => Lib.run_eql_slice_nil w _ _ a n c n' c' Try.underlying68
  have cs := h1.cr S hs
  rw [hy] at cs
  simp only [encM] at cs
  have csi0 : (0 : Int) ≤ (S : Int) := by omega
  have csi1 : (S : Int) < (R.length : Int) := by omega
  have i2 := fun w_ => in_yes (S : Int) (some ⟨gr, 0, none⟩) R.length R.length w_ ⟨by omega, by omega⟩ (by omega)
  have I2A := Aside0.mk i2
  clear i2
  clear hy
  have HB1 := Aside0.mk hB1
  have HW := Aside0.mk hw1
  have HNB := Aside0.mk hnB
  clear h hB h1 hB1 hw1 hbs hnB
  go_enter Try.func24, Try.ntmps24
  go_wp2_with fail
  rw [HW.out]
  generalize w.heap.size = bs at q0 q1 q2 ⊢
  go_quiet (((go_at_call 35; with_reducible exact Calls.quiet_of_same (I2A.out _))))
  go_wp2_with fail
  go_ret
  exact DoP.no (pw_below_drewN HB1.out _)
set_option maxRecDepth 100000 in
set_option maxHeartbeats 2000000 in
theorem do_out_no3 {base : Nat} {w0 w : World} {m gr go : Nat} {AB : Option Addr} {nB cB : Nat} {size : Nat} {R O : List (Option MR)} (h : MH base w m gr go (.slice AB nB cB) size R O) (hB : Below base w0 w) (hnB : nB ≤ 9223372036854775807) (f1 f3 : Int) (S : Nat) (hs : S < R.length) (r : MR) (hy : R[S] = some r) (hd : ¬ inR f1 O.length) :
    Calls Try.prog 24 #[.pointer (some ⟨m, 0, none⟩), .agg #[.int .u8 4, .int .i64 f1, .int .i64 (S : Int), .int .u8 f3]] w (DoP base w0 m gr go (.slice AB nB cB) size none) := by
  obtain ⟨w1, hw1⟩ : ∃ w1, w.alloc (.cells #[Value.int .u8 4, .int .i64 f1, .int .i64 (S : Int), .int .u8 f3] 38) = w1 := ⟨_, rfl⟩
  have h1 : MH base w1 m gr go (.slice AB nB cB) size R O := hw1 ▸ h.alloc _
  have hB1 : Below base w0 w1 := hw1 ▸ hB.alloc h.bw _
  have hbs : w1.heap[w.heap.size]? = some (.cells #[Value.int .u8 4, .int .i64 f1, .int .i64 (S : Int), .int .u8 f3] 38 (0, 0)) := hw1 ▸ heap_alloc_new w _
  have q0 : w1.cell? ⟨w.heap.size, 0, none⟩ = some (.int .u8 4) := (blk_cell hbs 0).trans rfl
  have q1 : w1.cell? ⟨w.heap.size, 1, none⟩ = some (.int .i64 f1) := (blk_cell hbs 1).trans rfl
  have q2 : w1.cell? ⟨w.heap.size, 2, none⟩ = some (.int .i64 (S : Int)) := (blk_cell hbs 2).trans rfl
  have c0 := h1.c0
  have c1 := h1.c1
  have c2 := h1.c2
  have hrl := h1.rl
  have hol := h1.ol
  have hq : ∀ (w : World) (a : Option Addr) (n c n' c' : Nat), (binOp .eql 68 (.slice a n c) (.slice none n' c')).run Try.prog w = .ok (.bool a.isNone) w := fun w a n c n' c' => Lib.run_eql_slice_nil w _ _ a n c n' c' Try.underlying68
  have cs := h1.cr S hs
  rw [hy] at cs
  simp only [encM] at cs
  have csi0 : (0 : Int) ≤ (S : Int) := by omega
  have csi1 : (S : Int) < (R.length : Int) := by omega
  have i2 := fun w_ => in_yes (S : Int) (some ⟨gr, 0, none⟩) R.length R.length w_ ⟨by omega, by omega⟩ (by omega)
  have I2A := Aside0.mk i2
  clear i2
  have i1 := fun w_ => in_no f1 (some ⟨go, 0, none⟩) O.length O.length w_ hd (by omega)
  have I1A := Aside0.mk i1
  clear i1
  have HD := Aside0.mk hd
  clear hd
  clear hy
  have HB1 := Aside0.mk hB1
  have HW := Aside0.mk hw1
  have HNB := Aside0.mk hnB
  clear h hB h1 hB1 hw1 hbs hnB
  go_enter Try.func24, Try.ntmps24
  go_wp2_with fail
  rw [HW.out]
  generalize w.heap.size = bs at q0 q1 q2 ⊢
  go_quiet ((first | (go_at_call 35; with_reducible exact Calls.quiet_of_same (I2A.out _)) | (go_at_call 35; with_reducible exact Calls.quiet_of_same (I1A.out _))))
  go_wp2_with fail
  go_ret
  exact DoP.no (pw_below_drewN HB1.out _)
set_option maxRecDepth 100000 in
set_option maxHeartbeats 2000000 in
theorem do_out_no4 {base : Nat} {w0 w : World} {m gr go : Nat} {AB : Option Addr} {nB cB : Nat} {size : Nat} {R O : List (Option MR)} (h : MH base w m gr go (.slice AB nB cB) size R O) (hB : Below base w0 w) (hnB : nB ≤ 9223372036854775807) (f3 : Int) (D : Nat) (S : Nat) (hs : S < R.length) (hd : D < O.length) (r r' : MR) (hy : R[S] = some r) (hx : O[D] = some r') :
    Calls Try.prog 24 #[.pointer (some ⟨m, 0, none⟩), .agg #[.int .u8 4, .int .i64 (D : Int), .int .i64 (S : Int), .int .u8 f3]] w (DoP base w0 m gr go (.slice AB nB cB) size none) := by
  obtain ⟨w1, hw1⟩ : ∃ w1, w.alloc (.cells #[Value.int .u8 4, .int .i64 (D : Int), .int .i64 (S : Int), .int .u8 f3] 38) = w1 := ⟨_, rfl⟩
  have h1 : MH base w1 m gr go (.slice AB nB cB) size R O := hw1 ▸ h.alloc _
  have hB1 : Below base w0 w1 := hw1 ▸ hB.alloc h.bw _
  have hbs : w1.heap[w.heap.size]? = some (.cells #[Value.int .u8 4, .int .i64 (D : Int), .int .i64 (S : Int), .int .u8 f3] 38 (0, 0)) := hw1 ▸ heap_alloc_new w _
  have q0 : w1.cell? ⟨w.heap.size, 0, none⟩ = some (.int .u8 4) := (blk_cell hbs 0).trans rfl
  have q1 : w1.cell? ⟨w.heap.size, 1, none⟩ = some (.int .i64 (D : Int)) := (blk_cell hbs 1).trans rfl
  have q2 : w1.cell? ⟨w.heap.size, 2, none⟩ = some (.int .i64 (S : Int)) := (blk_cell hbs 2).trans rfl
  have c0 := h1.c0
  have c1 := h1.c1
  have c2 := h1.c2
  have hrl := h1.rl
  have hol := h1.ol
  have hq : ∀ (w : World) (a : Option Addr) (n c n' c' : Nat), (binOp .eql 68 (.slice a n c) (.slice none n' c')).run Try.prog w = .ok (.bool a.isNone) w := fun w a n c n' c' => Lib.run_eql_slice_nil w _ _ a n c n' c' Try.underlying68
  have hq2 : ∀ (w : World) (a : Option Addr) (n c n' c' : Nat), (binOp .neq 68 (.slice a n c) (.slice none n' c')).run Try.prog w = .ok (.bool (!a.isNone)) w := fun w a n c n' c' => run_neq_slice_nil_any w _ _ a n c n' c' Try.underlying68
  have cs := h1.cr S hs
  rw [hy] at cs
  simp only [encM] at cs
  have csi0 : (0 : Int) ≤ (S : Int) := by omega
  have csi1 : (S : Int) < (R.length : Int) := by omega
  have co := h1.co D hd
  rw [hx] at co
  simp only [encM] at co
  have coi0 : (0 : Int) ≤ (D : Int) := by omega
  have coi1 : (D : Int) < (O.length : Int) := by omega
  have i2 := fun w_ => in_yes (S : Int) (some ⟨gr, 0, none⟩) R.length R.length w_ ⟨by omega, by omega⟩ (by omega)
  have I2A := Aside0.mk i2
  clear i2
  have i1 := fun w_ => in_yes (D : Int) (some ⟨go, 0, none⟩) O.length O.length w_ ⟨by omega, by omega⟩ (by omega)
  have I1A := Aside0.mk i1
  clear i1
  clear hy hx
  have HB1 := Aside0.mk hB1
  have HW := Aside0.mk hw1
  have HNB := Aside0.mk hnB
  clear h hB h1 hB1 hw1 hbs hnB
  go_enter Try.func24, Try.ntmps24
  go_wp2_with fail
  rw [HW.out]
  generalize w.heap.size = bs at q0 q1 q2 ⊢
  go_quiet ((first | (go_at_call 35; with_reducible exact Calls.quiet_of_same (I2A.out _)) | (go_at_call 35; with_reducible exact Calls.quiet_of_same (I1A.out _))))
  go_wp2_with fail
  go_ret
  exact DoP.no (pw_below_drewN HB1.out _)
set_option maxRecDepth 100000 in
set_option maxHeartbeats 2000000 in
theorem do_other {base : Nat} {w0 w : World} {m gr go : Nat} {AB : Option Addr} {nB cB : Nat} {size : Nat} {R O : List (Option MR)} (h : MH base w m gr go (.slice AB nB cB) size R O) (hB : Below base w0 w) (hnB : nB ≤ 9223372036854775807) (k f1 f2 f3 : Int)  (k1 : k ≠ 1) (k2 : k ≠ 2) (k3 : k ≠ 3) (k4 : k ≠ 4) :
    Calls Try.prog 24 #[.pointer (some ⟨m, 0, none⟩), .agg #[.int .u8 k, .int .i64 f1, .int .i64 f2, .int .u8 f3]] w (DoP base w0 m gr go (.slice AB nB cB) size none) := by
  obtain ⟨w1, hw1⟩ : ∃ w1, w.alloc (.cells #[Value.int .u8 k, .int .i64 f1, .int .i64 f2, .int .u8 f3] 38) = w1 := ⟨_, rfl⟩
  have h1 : MH base w1 m gr go (.slice AB nB cB) size R O := hw1 ▸ h.alloc _
  have hB1 : Below base w0 w1 := hw1 ▸ hB.alloc h.bw _
  have hbs : w1.heap[w.heap.size]? = some (.cells #[Value.int .u8 k, .int .i64 f1, .int .i64 f2, .int .u8 f3] 38 (0, 0)) := hw1 ▸ heap_alloc_new w _
  have q0 : w1.cell? ⟨w.heap.size, 0, none⟩ = some (.int .u8 k) := (blk_cell hbs 0).trans rfl
  have q1 : w1.cell? ⟨w.heap.size, 1, none⟩ = some (.int .i64 f1) := (blk_cell hbs 1).trans rfl
  have q2 : w1.cell? ⟨w.heap.size, 2, none⟩ = some (.int .i64 f2) := (blk_cell hbs 2).trans rfl
  have c0 := h1.c0
  have c1 := h1.c1
  have c2 := h1.c2
  have hrl := h1.rl
  have hol := h1.ol
  have b1 : (k == 1) = false := beq_eq_false_iff_ne.2 k1
  have b2 : (k == 2) = false := beq_eq_false_iff_ne.2 k2
  have b3 : (k == 3) = false := beq_eq_false_iff_ne.2 k3
  have b4 : (k == 4) = false := beq_eq_false_iff_ne.2 k4
  clear k1 k2 k3 k4
  have HB1 := Aside0.mk hB1
  have HW := Aside0.mk hw1
  have HNB := Aside0.mk hnB
  clear h hB h1 hB1 hw1 hbs hnB
  go_enter Try.func24, Try.ntmps24
  go_wp2_with fail
  rw [HW.out]
  generalize w.heap.size = bs at q0 q1 q2 ⊢
  go_wp2_with fail
  go_ret
  exact DoP.no HB1.out
end Go.Proofs.Ytlflfpkjbjbldaa.PA
