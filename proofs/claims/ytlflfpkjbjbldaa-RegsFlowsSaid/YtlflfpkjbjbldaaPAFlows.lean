import Derived.Test.YtlflfpkjbjbldaaRunC
import Derived.Test.YtlflfpkjbjbldaaPAx8
import Derived.Test.YtlflfpkjbjbldaaPAx12
import Derived.Test.YtlflfpkjbjbldaaPAx13
namespace Go.Proofs.Ytlflfpkjbjbldaa.PA
open Go.RowKit Go.Proofs.YtlflfpkjbjbldaaW.PrintWords Go.Proofs.YtlflfpkjbjbldaaW.PrintLast Go.Proofs.YtlflfpkjbjbldaaW.PrintMore
attribute [local go_sem] max2_int min2_int max_two min_two max_three min_three max_four min_four
set_option linter.unusedVariables false
set_option linter.unusedSimpArgs false
def recouplaw23_RegsFlows.f (k : Nat) (l0 : List Int) (l1 : List (List S62)) (l2 : List Int) (bl : List (List Int)) : Option Bool :=
  (regs_Give.f k l0 l1 l2).bind fun p => (recoupref21_May.f k l0 l1 l2).bind fun m => (recouplaw23_anchored.f k).bind fun an => if an = true then
    (if m = true then (recoupref21_Run.f k l0 l1 l2 bl).bind fun a => (regs_Run.f p.1 p.2.1 p.2.2.1 p.2.2.2.1 bl).bind fun b =>
      (if p.2.2.2.2 = 0 then (if a.2 = 0 then (if b.2 = 0 then (recoupref21_Blocks.f k a.1 b.1).bind fun q => if q = true then some true else none else none) else some true) else (if p.2.2.2.2 = 4 then (if 256 < l0.length + l1.length then (if l0.length + l1.length ≤ 1000000000000000 then some true else none) else none) else none))
     else (if p.2.2.2.2 = 2 then some true else none)) else none
set_option maxRecDepth 100000 in
set_option maxHeartbeats 2000000 in
theorem recouplaw23_RegsFlows.calls (k : Nat) (A0_0 : Option Addr) (c0_0 : Nat) (l0_0 : List Int) (A0_1 : Option Addr) (c0_1 : Nat) (l0_1 : List (List S62)) (A0_2 : Option Addr) (c0_2 : Nat) (l0_2 : List Int) (A1 : Option Addr) (c1 : Nat) (l1 : List (List Int)) (r : Bool) (w : World) (hr0_0 : Kd.C (Kd.int .i64) w A0_0 l0_0.length l0_0) (hc0_0 : l0_0.length ≤ c0_0) (hr0_1 : Kd.C (Kd.slice 62 k62) w A0_1 l0_1.length l0_1) (hc0_1 : l0_1.length ≤ c0_1) (hr0_2 : Kd.C (Kd.int .i64) w A0_2 l0_2.length l0_2) (hc0_2 : l0_2.length ≤ c0_2) (hr1 : Kd.C (Kd.slice 5 (Kd.int .u8)) w A1 l1.length l1) (hc1 : l1.length ≤ c1) (h : recouplaw23_RegsFlows.f k l0_0 l0_1 l0_2 l1 = some r) :
    Calls Try.prog 6 #[.agg #[.slice A0_0 l0_0.length c0_0, .slice A0_1 l0_1.length c0_1, .slice A0_2 l0_2.length c0_2], .slice A1 l1.length c1] w fun e w' => e = .returned (.bool r) ∧ Below w.heap.size w w' := by
  have hu25 := Try.underlying25
  have hu30 := Try.underlying30
  obtain ⟨⟨s1, s2, s3, s4, e0⟩, hP, h2⟩ := Option.bind_eq_some_iff.1 h
  obtain ⟨m, hM, h3⟩ := Option.bind_eq_some_iff.1 h2
  obtain ⟨an, hAn, h4⟩ := Option.bind_eq_some_iff.1 h3
  cases an with
  | false => simp at h4
  | true =>
  simp only [if_true] at h4
  obtain ⟨W0, hW0⟩ : ∃ W0, w.alloc (.cells #[.slice A0_0 l0_0.length c0_0, .slice A0_1 l0_1.length c0_1, .slice A0_2 l0_2.length c0_2] 25) = W0 := ⟨_, rfl⟩
  have hb0 : Below w.heap.size w W0 := hW0 ▸ below_alloc (Below.refl _ _) _
  have hbf : W0.heap[w.heap.size]? = some (.cells #[.slice A0_0 l0_0.length c0_0, .slice A0_1 l0_1.length c0_1, .slice A0_2 l0_2.length c0_2] 25 (0, 0)) := hW0 ▸ heap_alloc_new w _
  have HR0 := Aside0.mk (And.intro hr0_0 (And.intro hr0_1 hr0_2))
  have HC := Aside0.mk (And.intro hc0_0 (And.intro hc0_1 hc0_2))
  have HR1 := Aside0.mk (And.intro hr1 hc1)
  have HP := Aside0.mk hP
  have HM := Aside0.mk hM
  have HAN := Aside0.mk hAn
  have H4 := Aside0.mk h4
  have HB0 := Aside0.mk hb0
  have HBF := Aside0.mk hbf
  have HW0 := Aside0.mk hW0
  have q0 : W0.cell? ⟨w.heap.size, 0, none⟩ = some (.slice A0_0 l0_0.length c0_0) := (blk_cell hbf 0).trans rfl
  have q1 : W0.cell? ⟨w.heap.size, 1, none⟩ = some (.slice A0_1 l0_1.length c0_1) := (blk_cell hbf 1).trans rfl
  have q2 : W0.cell? ⟨w.heap.size, 2, none⟩ = some (.slice A0_2 l0_2.length c0_2) := (blk_cell hbf 2).trans rfl
  clear hr0_0 hr0_1 hr0_2 hr1 h hP hM hAn h2 h3 h4 hb0 hbf hW0 hc0_0 hc0_1 hc0_2 hc1
  go_enter Try.func6, Try.ntmps6
  go_wp2_with fail
  rw [HW0.out]
  refine (regs_Give.calls k A0_0 c0_0 l0_0 A0_1 c0_1 l0_1 A0_2 c0_2 l0_2 s1 s2 s3 s4 e0 W0 (Kd.C_below HR0.out.1 HB0.out) HC.out.1 (Kd.C_below HR0.out.2.1 HB0.out) HC.out.2.1 (Kd.C_below HR0.out.2.2 HB0.out) HC.out.2.2 HP.out).mono ?_
  rintro e w1 ⟨v0, rfl, hs1, hb1⟩
  obtain ⟨Av, cv, rfl, hcv, hCv⟩ := Kd.R_reads hs1
  have hbf1 := (hb1.block _ (blk_lt HBF.out)).trans HBF.out
  have HB1 := Aside0.mk (below_step HB0.out hb1)
  have HBF1 := Aside0.mk hbf1
  have HCV := Aside0.mk (And.intro hcv hCv)
  clear hs1 hb1 hbf1 q0 q1 q2 hcv hCv
  obtain ⟨w2, hw2⟩ : ∃ w2, w1.alloc (.cells #[.slice Av s1.length cv, .int .i64 s2, .int .i64 s3, .int .u64 s4] 30) = w2 := ⟨_, rfl⟩
  have hB2 : Below w.heap.size w w2 := hw2 ▸ below_alloc HB1.out _
  have hbp2 : w2.heap[w1.heap.size]? = some (.cells #[.slice Av s1.length cv, .int .i64 s2, .int .i64 s3, .int .u64 s4] 30 (0, 0)) := hw2 ▸ heap_alloc_new w1 _
  have hbf2 : w2.heap[w.heap.size]? = some (.cells #[.slice A0_0 l0_0.length c0_0, .slice A0_1 l0_1.length c0_1, .slice A0_2 l0_2.length c0_2] 25 (0, 0)) := hw2 ▸ blk_alloc HBF1.out _
  have hCV2 : Kd.C k38 w2 Av s1.length s1 := Kd.C_below HCV.out.2 (hw2 ▸ below_alloc (Below.refl _ _) _)
  have p0 : w2.cell? ⟨w.heap.size, 0, none⟩ = some (.slice A0_0 l0_0.length c0_0) := (blk_cell hbf2 0).trans rfl
  have p1 : w2.cell? ⟨w.heap.size, 1, none⟩ = some (.slice A0_1 l0_1.length c0_1) := (blk_cell hbf2 1).trans rfl
  have p2 : w2.cell? ⟨w.heap.size, 2, none⟩ = some (.slice A0_2 l0_2.length c0_2) := (blk_cell hbf2 2).trans rfl
  have HB2 := Aside0.mk hB2
  have HBP2 := Aside0.mk hbp2
  have HBF2 := Aside0.mk hbf2
  have HCV2 := Aside0.mk hCV2
  have HW2 := Aside0.mk hw2
  clear hB2 hbp2 hbf2 hCV2 hw2
  go_upto_region 2 with fail
  rw [HW2.out]
  generalize w1.heap.size = bq at HBP2 ⊢
  have HMC := Aside0.mk (recoupref21_May.calls k A0_0 c0_0 l0_0 A0_1 c0_1 l0_1 A0_2 c0_2 l0_2 m w2 (Kd.C_below HR0.out.1 HB2.out) HC.out.1 (Kd.C_below HR0.out.2.1 HB2.out) HC.out.2.1 (Kd.C_below HR0.out.2.2 HB2.out) HC.out.2.2 HM.out)
  cases m with
  | false =>
    have h5 := H4.out
    simp only [Bool.false_eq_true, if_false] at h5
    by_cases he : e0 = 2
    · subst he
      simp only [if_true] at h5
      obtain rfl := Option.some.inj h5
      clear h5
      go_wp2_with (first | (go_at_call 9; refine HMC.out.mono ?_; rintro e w3 ⟨rfl, hb3⟩; have HB3 := Aside0.mk (below_step HB2.out hb3); clear hb3) | (go_at_call 8; refine (recouplaw23_anchored.calls k true _ HAN.out).mono ?_; rintro e w4 ⟨rfl, hb4⟩; have HB4 := Aside0.mk (below_step HB3.out hb4); clear hb4))
      go_ret
      exact ⟨rfl, HB4.out⟩
    · rw [if_neg he] at h5; cases h5
  | true =>
    have h5 := H4.out
    simp only [if_true] at h5
    obtain ⟨⟨a1, a2⟩, hA, h6⟩ := Option.bind_eq_some_iff.1 h5
    obtain ⟨⟨b1, b2⟩, hB, h7⟩ := Option.bind_eq_some_iff.1 h6
    have HA := Aside0.mk hA
    have HB := Aside0.mk hB
    have H7 := Aside0.mk h7
    clear h5 h6 h7 hA hB
    go_upto_region 6 with (first | (go_at_call 9; refine HMC.out.mono ?_; rintro e w3 ⟨rfl, hb3⟩; have HB3 := Aside0.mk (below_step HB2.out hb3); have hbf3 := (hb3.block _ (blk_lt HBF2.out)).trans HBF2.out; have hbp3 := (hb3.block _ (blk_lt HBP2.out)).trans HBP2.out; have HBF3 := Aside0.mk hbf3; have HBP3 := Aside0.mk hbp3; have HCV3 := Aside0.mk (Kd.C_below HCV2.out hb3); have m0 : w3.cell? ⟨w.heap.size, 0, none⟩ = some (.slice A0_0 l0_0.length c0_0) := (blk_cell hbf3 0).trans rfl; have m1 : w3.cell? ⟨w.heap.size, 1, none⟩ = some (.slice A0_1 l0_1.length c0_1) := (blk_cell hbf3 1).trans rfl; have m2 : w3.cell? ⟨w.heap.size, 2, none⟩ = some (.slice A0_2 l0_2.length c0_2) := (blk_cell hbf3 2).trans rfl; clear hb3 hbf3 hbp3 p0 p1 p2) | (go_at_call 15; refine (recoupref21_Run.calls k A0_0 c0_0 l0_0 A0_1 c0_1 l0_1 A0_2 c0_2 l0_2 A1 c1 l1 a1 a2 w3 (Kd.C_below HR0.out.1 HB3.out) HC.out.1 (Kd.C_below HR0.out.2.1 HB3.out) HC.out.2.1 (Kd.C_below HR0.out.2.2 HB3.out) HC.out.2.2 (Kd.C_below HR1.out.1 HB3.out) HR1.out.2 HA.out).mono ?_; rintro e w4 ⟨va, rfl, hsa, hb4⟩; have HB4 := Aside0.mk (below_step HB3.out hb4); have hbf4 := (hb4.block _ (blk_lt HBF3.out)).trans HBF3.out; have hbp4 := (hb4.block _ (blk_lt HBP3.out)).trans HBP3.out; have HBF4 := Aside0.mk hbf4; have HCV4 := Aside0.mk (Kd.C_below HCV3.out hb4); obtain ⟨Aa, ca, rfl, hca, hCa⟩ := Kd.S_reads hsa; have HCA := Aside0.mk (And.intro hca hCa); have n0 : w4.cell? ⟨bq, 0, none⟩ = some (.slice Av s1.length cv) := (blk_cell hbp4 0).trans rfl; have n1 : w4.cell? ⟨bq, 1, none⟩ = some (.int .i64 s2) := (blk_cell hbp4 1).trans rfl; have n2 : w4.cell? ⟨bq, 2, none⟩ = some (.int .i64 s3) := (blk_cell hbp4 2).trans rfl; have n3 : w4.cell? ⟨bq, 3, none⟩ = some (.int .u64 s4) := (blk_cell hbp4 3).trans rfl; clear hb4 hbf4 hbp4 m0 m1 m2 hsa hca hCa) | (go_at_call 12; refine (regs_Run.calls Av cv s1 s2 s3 s4 A1 c1 l1 b1 b2 w4 HCV4.out HCV.out.1 (Kd.C_below HR1.out.1 HB4.out) HR1.out.2 HB.out).mono ?_; rintro e w5 ⟨vb, rfl, hsb, hb5⟩; have HB5 := Aside0.mk (below_step HB4.out hb5); have hbf5 := (hb5.block _ (blk_lt HBF4.out)).trans HBF4.out; obtain ⟨Ab, cb, rfl, hcb, hCb⟩ := Kd.S_reads hsb; have HCB := Aside0.mk (And.intro hcb hCb); have HCA5 := Aside0.mk (Kd.C_below HCA.out.2 hb5); have HBF5 := Aside0.mk hbf5; clear hb5 hbf5 hsb hcb hCb n0 n1 n2 n3))
    have HAC := Aside0.mk (recouplaw23_anchored.calls k true w5 HAN.out)
    by_cases he : e0 = 0
    · subst he
      have h7 := H7.out
      simp only [if_true] at h7
      by_cases ha : a2 = 0
      · subst ha
        simp only [if_true] at h7
        by_cases hb : b2 = 0
        · subst hb
          simp only [if_true] at h7
          obtain ⟨q, hQ, h8⟩ := Option.bind_eq_some_iff.1 h7
          cases q with
          | false => simp at h8
          | true =>
          simp only [if_true] at h8
          obtain rfl := Option.some.inj h8
          have HQ := Aside0.mk hQ
          clear h7 h8 hQ
          go_wp2_with (first | (go_at_call 8; refine HAC.out.mono ?_; rintro e w6 ⟨rfl, hb6⟩; have HB6 := Aside0.mk (below_step HB5.out hb6); have HCA6 := Aside0.mk (Kd.C_below HCA5.out hb6); have HCB6 := Aside0.mk (Kd.C_below HCB.out.2 hb6); clear hb6) | (go_at_call 14; refine (recoupref21_Blocks.calls k Aa ca a1 Ab cb b1 true w6 HCA6.out HCA.out.1 HCB6.out HCB.out.1 HQ.out).mono ?_; rintro e w7 ⟨rfl, hd⟩; have HB7 := Aside0.mk (below_step HB6.out hd.below); clear hd))
          go_ret
          exact ⟨rfl, HB7.out⟩
        · rw [if_neg hb] at h7; cases h7
      · rw [if_neg ha] at h7
        obtain rfl := Option.some.inj h7
        have hb : (a2 != 0) = true := bne_iff_ne.2 ha
        clear h7 ha
        go_wp2_with (go_at_call 8; refine HAC.out.mono ?_; rintro e w6 ⟨rfl, hb6⟩; have HB6 := Aside0.mk (below_step HB5.out hb6); clear hb6)
        go_ret
        exact ⟨rfl, HB6.out⟩
    · have h7 := H7.out
      rw [if_neg he] at h7
      by_cases h4' : e0 = 4
      · subst h4'
        simp only [if_true] at h7
        by_cases hl : 256 < l0_0.length + l0_1.length
        · rw [if_pos hl] at h7
          by_cases hx : l0_0.length + l0_1.length ≤ 1000000000000000
          · rw [if_pos hx] at h7
            obtain rfl := Option.some.inj h7
            have hg : decide ((l0_0.length : Int) + (l0_1.length : Int) > 256) = true := decide_eq_true (by omega)
            have hl2 : (l0_0.length : Int) + (l0_1.length : Int) ≤ 1000000000000000 := by omega
            clear h7 he hl
            go_wp2_with (go_at_call 8; refine HAC.out.mono ?_; rintro e w6 ⟨rfl, hb6⟩; have HB6 := Aside0.mk (below_step HB5.out hb6); have hbf6 := (hb6.block _ (blk_lt HBF5.out)).trans HBF5.out; have g0 : w6.cell? ⟨w.heap.size, 0, none⟩ = some (.slice A0_0 l0_0.length c0_0) := (blk_cell hbf6 0).trans rfl; have g1 : w6.cell? ⟨w.heap.size, 1, none⟩ = some (.slice A0_1 l0_1.length c0_1) := (blk_cell hbf6 1).trans rfl; clear hb6 hbf6)
            go_ret
            exact ⟨by first | rfl | exact congrArg (fun b => Ending.returned (.bool b)) hg, HB6.out⟩
          · rw [if_neg hx] at h7; cases h7
        · rw [if_neg hl] at h7; cases h7
      · rw [if_neg h4'] at h7; cases h7
end Go.Proofs.Ytlflfpkjbjbldaa.PA
