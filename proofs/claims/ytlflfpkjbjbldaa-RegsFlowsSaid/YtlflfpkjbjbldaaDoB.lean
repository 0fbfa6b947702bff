import Derived.Test.YtlflfpkjbjbldaaDoA
namespace Go.Proofs.Ytlflfpkjbjbldaa.PA
open Go.RowKit Go.Proofs.YtlflfpkjbjbldaaW.PrintWords Go.Proofs.YtlflfpkjbjbldaaW.PrintLast Go.Proofs.YtlflfpkjbjbldaaW.PrintMore
attribute [local go_sem] max2_int min2_int max_two min_two max_three min_three max_four min_four
set_option linter.unusedVariables false
set_option linter.unusedSimpArgs false
def DoP (base : Nat) (w0 : World) (m gr go : Nat) (vB : Value) (size : Nat) (X : Option (Cells × Cells)) (e : Ending) (w' : World) : Prop :=
  e = .returned (.bool X.isSome) ∧ Below base w0 w' ∧ ∀ R' O', X = some (R', O') → ∃ Rw Ow, MH base w' m gr go vB size Rw Ow ∧ plainM Rw = R' ∧ plainM Ow = O'
theorem DoP.no {base : Nat} {w0 : World} {m gr go : Nat} {vB : Value} {size : Nat} {w' : World} (h : Below base w0 w') : DoP base w0 m gr go vB size none (.returned (.bool false)) w' := ⟨rfl, h, fun _ _ e => by cases e⟩
theorem DoP.yes {base : Nat} {w0 : World} {m gr go : Nat} {vB : Value} {size : Nat} {w' : World} {Rw Ow : List (Option MR)} (h : Below base w0 w') (hm : MH base w' m gr go vB size Rw Ow) : DoP base w0 m gr go vB size (some (plainM Rw, plainM Ow)) (.returned (.bool true)) w' :=
  ⟨rfl, h, fun R' O' e => by obtain ⟨rfl, rfl⟩ := Prod.mk.inj (Option.some.inj e); exact ⟨Rw, Ow, hm, rfl, rfl⟩⟩
theorem plain_set (R : List (Option MR)) (D : Nat) (r : MR) : plainM (R.set D (some r)) = (plainM R).set D (some r.l) := by simp [plainM, List.map_set]
theorem mk_row (W : World) (base size : Nat) (hb : base ≤ W.heap.size) (hs : size ≤ 140737488351232) : (W.alloc (.cells (madeCells #[.int .u8 0] size) 5)).ownsRow base 5 1 (.slice (some ⟨W.heap.size, 0, none⟩) size size) size (nums .u8 (List.replicate size 0)) := own_made W base 5 .u8 size hb (by omega)
set_option maxRecDepth 100000 in
set_option maxHeartbeats 2000000 in
theorem do_clear_yes {base : Nat} {w0 w : World} {m gr go : Nat} {vB : Value} {size : Nat} {R O : List (Option MR)} (h : MH base w m gr go vB size R O) (hB : Below base w0 w) (f1 f2 f3 : Int) (hD : inR f1 R.length) :
    Calls Try.prog 24 #[.pointer (some ⟨m, 0, none⟩), .agg #[.int .u8 1, .int .i64 f1, .int .i64 f2, .int .u8 f3]] w (DoP base w0 m gr go vB size (some ((plainM R).set f1.toNat (some (List.replicate size 0)), plainM O))) := by
  obtain ⟨D, rfl⟩ : ∃ D : Nat, f1 = (D : Int) := ⟨f1.toNat, by have := hD.1; omega⟩
  have hDl : D < R.length := by have := hD.2; omega
  obtain ⟨w1, hw1⟩ : ∃ w1, w.alloc (.cells #[Value.int .u8 1, .int .i64 (D : Int), .int .i64 f2, .int .u8 f3] 38) = w1 := ⟨_, rfl⟩
  have h1 : MH base w1 m gr go vB size R O := hw1 ▸ h.alloc _
  have hB1 : Below base w0 w1 := hw1 ▸ hB.alloc h.bw _
  have hbs : w1.heap[w.heap.size]? = some (.cells #[Value.int .u8 1, .int .i64 (D : Int), .int .i64 f2, .int .u8 f3] 38 (0, 0)) := hw1 ▸ heap_alloc_new w _
  have q0 : w1.cell? ⟨w.heap.size, 0, none⟩ = some (.int .u8 1) := (blk_cell hbs 0).trans rfl
  have q1 : w1.cell? ⟨w.heap.size, 1, none⟩ = some (.int .i64 (D : Int)) := (blk_cell hbs 1).trans rfl
  have c0 := h1.c0
  have c3 := h1.c3
  have cr := h1.cr D hDl
  have hfr := h1.fr D
  have hsz := h1.sz
  have hrl := h1.rl
  have hin := in_yes (D : Int) (some ⟨gr, 0, none⟩) R.length R.length
  have HIN := Aside0.mk hin
  have HD := Aside0.mk hD
  have hmk := run_make_row' (P := Try.prog) 68 5 (.int .u8 0) 1 Try.underlying68 info5 rfl .i64 .i64 size (by omega) (by omega)
  have hD0 : (0 : Int) ≤ (D : Int) := by omega
  have hD1 : (D : Int) < (R.length : Int) := by omega
  have HMK := Aside0.mk hmk
  have H1 := Aside0.mk h1
  have HB1 := Aside0.mk hB1
  have HW := Aside0.mk hw1
  have e1 : ¬ w.heap.size = gr := blk_ty_ne hbs h1.rr (by decide)
  have e2 : ¬ gr = w.heap.size := fun e => e1 e.symm
  have e3 : ¬ m = gr := blk_ty_ne h1.blk h1.rr (by decide)
  have e4 : ¬ gr = m := fun e => e3 e.symm
  clear h hB h1 hB1 hw1 hbs hin hmk hD
  go_enter Try.func24, Try.ntmps24
  go_wp2_with fail
  rw [HW.out]
  generalize w.heap.size = bs at q0 q1 e1 e2 ⊢
  go_quiet ((go_at_call 35; exact Calls.quiet_of_same (HIN.out _ HD.out (by omega))))
  go_wp2_with fail
  obtain ⟨w2, hw2⟩ : ∃ w2, w1.drewN nq = w2 := ⟨_, rfl⟩
  have h2 : MH base w2 m gr go vB size R O := hw2 ▸ H1.out.drewN nq
  have hB2 : Below base w0 w2 := hw2 ▸ pw_below_drewN HB1.out nq
  have q1' : w2.cell? ⟨bs, 1, none⟩ = some (.int .i64 (D : Int)) := by rw [← hw2]; exact q1
  rw [hw2]
  clear q0 q1 c0 c3 cr hfr hw2 H1 HB1
  have c0 := h2.c0
  have c3 := h2.c3
  have cr := h2.cr D hDl
  have hfr := h2.fr D
  have n0 := World.new_ne w2 _ c0
  have n3 := World.new_ne w2 _ c3
  have nr := World.new_ne w2 _ cr
  have nq1 := World.new_ne w2 _ q1'
  have hmk := HMK.out
  have H2 := Aside0.mk h2
  have HB2 := Aside0.mk hB2
  have h3 := (h2.alloc (.cells (madeCells #[.int .u8 0] size) 5)).drew
  have crA := h3.cr D hDl
  have hfrA := h3.fr D
  have H3 := Aside0.mk h3
  clear h2 hB2 h3
  go_region_held3 (fun w' => w'.cell? ⟨m, 0, none⟩ = some (.slice (some ⟨gr, 0, none⟩) R.length R.length) ∧ w'.cell? ⟨m, 3, none⟩ = some (.int .i64 (size : Int)) ∧ w'.cell? ⟨bs, 1, none⟩ = some (.int .i64 (D : Int))) (go_keep) (fail)
  go_wp2_with fail
  go_ret
  have hb := H2.out.bw
  have hnb := H2.out.nb
  have hp := DoP.yes (below_drew1 (Below.setCell (HB2.out.alloc hb (.cells (madeCells #[.int .u8 0] size) 5)) (p := ⟨gr, D, none⟩) H2.out.br _)) (MH.drew (H2.out.setR D ⟨w2.heap.size, size, List.replicate size 0⟩ hDl _ (fun k hk => heap_alloc_old w2 _ hk) (by simp) (fun x hx => Nat.ne_of_lt (hnb x hx).2.2.2.1) (mk_row w2 base size hb hsz) (Nat.ne_of_gt (blk_lt H2.out.rr))))
  rw [plain_set] at hp
  exact hp
end Go.Proofs.Ytlflfpkjbjbldaa.PA
