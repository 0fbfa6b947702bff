import Derived.Test.YtlflfpkjbjbldaaRefB
import Derived.Test.YtlflfpkjbjbldaaPAx12
namespace Go.Proofs.Ytlflfpkjbjbldaa.PA
open Go.RowKit Go.Proofs.YtlflfpkjbjbldaaW.PrintWords Go.Proofs.YtlflfpkjbjbldaaW.PrintLast Go.Proofs.YtlflfpkjbjbldaaW.PrintMore
attribute [local go_sem] max2_int min2_int max_two min_two max_three min_three max_four min_four
set_option linter.unusedVariables false
set_option linter.unusedSimpArgs false
def recouplaw23_RegsRuns.f (k : Nat) (l0 : List S38) (a1 a2 a3 : Int) (bl : List (List Int)) : Option Bool :=
  (regs_Run.f l0 a1 a2 a3 bl).bind fun t => (recoupref23_Run.f k l0 a1 a2 a3 bl).bind fun u => (recoupref21_Blocks.f k t.1 u.1).bind fun b => if b = true then (if t.2 = u.2 then recouplaw23_anchored.f k else some false) else some false
set_option maxRecDepth 100000 in
set_option maxHeartbeats 2000000 in
theorem recouplaw23_RegsRuns.calls (k : Nat) (A0_0 : Option Addr) (c0_0 : Nat) (l0_0 : List (S38)) (a0_1 : Int) (a0_2 : Int) (a0_3 : Int) (A1 : Option Addr) (c1 : Nat) (l1 : List (List Int)) (r : Bool) (w : World) (hr0_0 : Kd.C k38 w A0_0 l0_0.length l0_0) (hc0_0 : l0_0.length ≤ c0_0) (hr1 : Kd.C (Kd.slice 5 (Kd.int .u8)) w A1 l1.length l1) (hc1 : l1.length ≤ c1) (h : recouplaw23_RegsRuns.f k l0_0 a0_1 a0_2 a0_3 l1 = some r) :
    Calls Try.prog 5 #[.agg #[.slice A0_0 l0_0.length c0_0, .int .i64 a0_1, .int .i64 a0_2, .int .u64 a0_3], .slice A1 l1.length c1] w fun e w' => e = .returned (.bool r) ∧ Below w.heap.size w w' := by
  have hu30 := Try.underlying30
  obtain ⟨⟨t1, t2⟩, hA, h2⟩ := Option.bind_eq_some_iff.1 h
  obtain ⟨⟨u1, u2⟩, hB, h3⟩ := Option.bind_eq_some_iff.1 h2
  obtain ⟨b, hC, h4⟩ := Option.bind_eq_some_iff.1 h3
  obtain ⟨W0, hW0⟩ : ∃ W0, w.alloc (.cells #[.slice A0_0 l0_0.length c0_0, .int .i64 a0_1, .int .i64 a0_2, .int .u64 a0_3] 30) = W0 := ⟨_, rfl⟩
  have hb0 : Below w.heap.size w W0 := hW0 ▸ below_alloc (Below.refl _ _) _
  have hbf : W0.heap[w.heap.size]? = some (.cells #[.slice A0_0 l0_0.length c0_0, .int .i64 a0_1, .int .i64 a0_2, .int .u64 a0_3] 30 (0, 0)) := hW0 ▸ heap_alloc_new w _
  have HR0 := Aside0.mk hr0_0
  have HR1 := Aside0.mk hr1
  have HA := Aside0.mk hA
  have HB := Aside0.mk hB
  have HC := Aside0.mk hC
  have H4 := Aside0.mk h4
  have HC0 := Aside0.mk hc0_0
  have HC1 := Aside0.mk hc1
  have HB0 := Aside0.mk hb0
  have HBF := Aside0.mk hbf
  have HW0 := Aside0.mk hW0
  have q0 : W0.cell? ⟨w.heap.size, 0, none⟩ = some (.slice A0_0 l0_0.length c0_0) := (blk_cell hbf 0).trans rfl
  have q1 : W0.cell? ⟨w.heap.size, 1, none⟩ = some (.int .i64 a0_1) := (blk_cell hbf 1).trans rfl
  have q2 : W0.cell? ⟨w.heap.size, 2, none⟩ = some (.int .i64 a0_2) := (blk_cell hbf 2).trans rfl
  have q3 : W0.cell? ⟨w.heap.size, 3, none⟩ = some (.int .u64 a0_3) := (blk_cell hbf 3).trans rfl
  clear hr0_0 hr1 h hA hB hC h2 h3 h4 hb0 hbf hW0 hc0_0 hc1
  go_enter Try.func5, Try.ntmps5
  go_wp2_with fail
  rw [HW0.out]
  refine (regs_Run.calls A0_0 c0_0 l0_0 a0_1 a0_2 a0_3 A1 c1 l1 t1 t2 W0 (Kd.C_below HR0.out HB0.out) HC0.out (Kd.C_below HR1.out HB0.out) HC1.out HA.out).mono ?_
  rintro e w1 ⟨v0, rfl, hs1, hb1⟩
  obtain ⟨Av, cv, rfl, hcv, hCv⟩ := Kd.S_reads hs1
  have hbf1 := (hb1.block _ (blk_lt HBF.out)).trans HBF.out
  have HB1 := Aside0.mk (below_step HB0.out hb1)
  have HBF1 := Aside0.mk hbf1
  have HCV := Aside0.mk (And.intro hcv hCv)
  have p0 : w1.cell? ⟨w.heap.size, 0, none⟩ = some (.slice A0_0 l0_0.length c0_0) := (blk_cell hbf1 0).trans rfl
  have p1 : w1.cell? ⟨w.heap.size, 1, none⟩ = some (.int .i64 a0_1) := (blk_cell hbf1 1).trans rfl
  have p2 : w1.cell? ⟨w.heap.size, 2, none⟩ = some (.int .i64 a0_2) := (blk_cell hbf1 2).trans rfl
  have p3 : w1.cell? ⟨w.heap.size, 3, none⟩ = some (.int .u64 a0_3) := (blk_cell hbf1 3).trans rfl
  clear hs1 hb1 hbf1 q0 q1 q2 q3 hcv hCv
  go_wp2_with fail
  refine (recoupref23_Run.calls k A0_0 c0_0 l0_0 a0_1 a0_2 a0_3 A1 c1 l1 u1 u2 w1 (Kd.C_below HR0.out HB1.out) HC0.out (Kd.C_below HR1.out HB1.out) HC1.out HB.out).mono ?_
  rintro e w2 ⟨Au, cu, rfl, hcu, hCu, hb2⟩
  have HB2 := Aside0.mk (below_step HB1.out hb2)
  have HCV2 := Aside0.mk (Kd.C_below HCV.out.2 hb2)
  have HCU := Aside0.mk (And.intro hcu hCu)
  clear hb2 p0 p1 p2 p3 hcu hCu
  cases b with
  | false =>
    have h5 := H4.out
    simp only [Bool.false_eq_true, if_false, Option.some.injEq] at h5
    subst h5
    go_wp2_with (go_at_call 14; refine (recoupref21_Blocks.calls k Av cv t1 Au cu u1 false w2 HCV2.out HCV.out.1 HCU.out.2 HCU.out.1 HC.out).mono ?_; rintro e w3 ⟨rfl, hd⟩; obtain ⟨q, rfl⟩ := hd.out)
    go_ret
    exact ⟨rfl, pw_below_drewN HB2.out q⟩
  | true =>
    have h5 := H4.out
    simp only [if_true] at h5
    by_cases e : t2 = u2
    · subst e
      rw [if_pos rfl] at h5
      have H5 := Aside0.mk h5
      clear h5
      go_wp2_with (first | (go_at_call 14; refine (recoupref21_Blocks.calls k Av cv t1 Au cu u1 true w2 HCV2.out HCV.out.1 HCU.out.2 HCU.out.1 HC.out).mono ?_; rintro e w3 ⟨rfl, hd⟩; have HB3 := Aside0.mk (below_step HB2.out hd.below); clear hd) | (go_at_call 8; refine (recouplaw23_anchored.calls k r _ H5.out).mono ?_; rintro e w4 ⟨rfl, hb4⟩; have HB4 := Aside0.mk (below_step HB3.out hb4); clear hb4))
      go_ret
      exact ⟨rfl, HB4.out⟩
    · rw [if_neg e] at h5
      obtain rfl := Option.some.inj h5
      have eb : (t2 == u2) = false := beq_eq_false_iff_ne.2 e
      clear h5 e
      go_wp2_with (go_at_call 14; refine (recoupref21_Blocks.calls k Av cv t1 Au cu u1 true w2 HCV2.out HCV.out.1 HCU.out.2 HCU.out.1 HC.out).mono ?_; rintro e w3 ⟨rfl, hd⟩; have HB3 := Aside0.mk (below_step HB2.out hd.below); clear hd)
      go_ret
      exact ⟨rfl, HB3.out⟩
end Go.Proofs.Ytlflfpkjbjbldaa.PA
