/- The walks of flow.run and flow.Run once more (out of the print's), telling that the blocks answered lie apart. Conditions: none. -/
import Derived.Test.YtfnhnniecclleaaPAx14
import Derived.Test.YtfnhnniecclleaaShort
namespace Go.Proofs.Ytfnhnniecclleaa.PA
open Go.RowKit Go.Proofs.Ytfnhnniecclleaa.Sh Go.Proofs.YtfnhnniecclleaaW.PrintWords Go.Proofs.YtfnhnniecclleaaW.PrintLast Go.Proofs.YtfnhnniecclleaaW.PrintMore
attribute [local go_sem] max2_int min2_int max_two min_two max_three min_three max_four min_four   -- for this text's walks alone
set_option linter.unusedVariables false
set_option linter.unusedSimpArgs false

set_option maxHeartbeats 8000000 in
set_option maxRecDepth 100000 in
theorem flow_run_S (k : Nat) (A0_0 : Option Addr) (c0_0 : Nat) (l0_0 : List Int) (A0_1 : Option Addr) (c0_1 : Nat) (l0_1 : List (List (S64))) (A0_2 : Option Addr) (c0_2 : Nat) (l0_2 : List Int) (P1_ : Nat → Prop) (A1 : Option Addr) (c1 : Nat) (l1 : List (List Int)) (a2 : Int) (r : List (List Int)) (w : World) (hr0_0 : Kd.C (Kd.int .i64) w A0_0 l0_0.length l0_0) (hc0_0 : l0_0.length ≤ c0_0) (hr0_1 : Kd.C (Kd.slice 64 k64) w A0_1 l0_1.length l0_1) (hc0_1 : l0_1.length ≤ c0_1) (hr0_2 : Kd.C (Kd.int .i64) w A0_2 l0_2.length l0_2) (hc0_2 : l0_2.length ≤ c0_2) (hs1 : Kd.V (Kd.slice 5 (Kd.int .u8)) 45 w w.heap.size (fun k_ => P1_ k_) (.slice A1 l1.length c1) l1) (h : flow_run.f k l0_0 l0_1 l0_2 l1 a2 = some r) :
  Calls Try.prog 43 #[.agg #[.slice A0_0 l0_0.length c0_0, .slice A0_1 l0_1.length c0_1, .slice A0_2 l0_2.length c0_2], .slice A1 l1.length c1, .int .i64 a2] w fun e w' => ∃ v0_ : Value, e = .returned (v0_) ∧ Kd.S (Kd.slice 5 (Kd.int .u8)) 45 w' w.heap.size (fun _ => True) v0_ r ∧ Below w.heap.size w w' := by
 have hu25 := Try.underlying25
 have hu64 := Try.underlying64
 have HR0_0 := Aside0.mk hr0_0
 have HC0_0 := Aside0.mk hc0_0
 clear hr0_0 hc0_0
 have HR0_1 := Aside0.mk hr0_1
 have HC0_1 := Aside0.mk hc0_1
 clear hr0_1 hc0_1
 have HR0_2 := Aside0.mk hr0_2
 have HC0_2 := Aside0.mk hc0_2
 clear hr0_2 hc0_2
 have HO1 := Aside0.mk (show Kd.V (Kd.slice 5 (Kd.int .u8)) 45 w w.heap.size (fun k_ => (P1_ k_ ∨ w.heap.size ≤ k_)) (.slice A1 l1.length c1) l1 from Kd.V_mono hs1 (fun k_ hk => .inl hk))
 have HB := Aside0.mk (Below.refl w.heap.size w)
 have H : ((slices_Clone_byte_byte_49.f l1).bind fun t325 => (flow_run.l0 k a2 t325 l0_1 (l0_1.length : Int) 0 l0_0 l0_1 l0_2)) = some r := h
 clear h
 replace H := Option.bind_eq_some_iff.mp H
 obtain ⟨t325, A40, H⟩ := H
 replace H : (flow_run.l0 k a2 t325 l0_1 (l0_1.length : Int) 0 l0_0 l0_1 l0_2) = some r := H
 have A4 := Aside0.mk A40
 clear A40
 have H' := Aside0.mk H
 clear H
 go_enter Try.func43, Try.ntmps43
 go_wp2_with (first | ((with_reducible refine gate_dst (N := 3) rfl ?_); refine box_event ?hg (N := 3) ?hd (cs := #[.slice A0_0 l0_0.length c0_0, .slice A0_1 l0_1.length c0_1, .slice A0_2 l0_2.length c0_2]) (t := 25) ?hr ?_; (case hd => rfl); (case hg => rfl); (case hr => first | (go_simp; done) | (go_simp; rfl)); intro gb324 hg w5 hbox hb; have n0_ := Aside0.mk (Kd.V_below (Kd.V_elderB (kV HO1) gb324 (Nat.le_of_eq hg.symm)) hb); have n1_ := Aside0.mk (below_step bl hb); have n2_ := Aside0.mk (hbox); have n3_ := Aside0.mk ((sz hg)); have n4_ := Aside0.mk ((sz hg)); clear HO1; clear HB; have HO1 := n0_; have HB := n1_; have BK324 := n2_; have GW324 := n3_; have GE324 := n4_; clear n0_ n1_ n2_ n3_ n4_; clear hb hbox hg) | ((with_reducible refine gate_callee (f := 49) rfl ?_); refine goesL_ (some 19) rfl rfl Try.func49 (by kernel_rfl) rfl #[.slice A1 l1.length c1] rfl (by (try simp only [List.map_toArray, List.map_cons, List.map_nil]); first | done | rfl | (simp only [List.length_drop, List.length_take]; rfl)) ?_; (with_reducible refine (slices_Clone_byte_byte_49.calls (fun k_ => ((P1_ k_ ∨ w.heap.size ≤ k_) ∧ k_ ≠ gb324)) _ _ l1 t325 _ ?side1 A4.out).mono ?_); (case side1 => exact HO1.out); rintro e w6 ⟨v326, rfl, ho0, hb⟩; refine ⟨_, rfl, ?_⟩; have n0_ := Aside0.mk (Kd.V_elder' (kV HO1) (by first | exact Kd.N_base ho0 | exact Kd.S_base ho0) hb); have n1_ := Aside0.mk (Kd.N_lower (Kd.N_mono (ok' := fun k_ => (P1_ k_ ∨ w.heap.size ≤ k_) ∧ k_ ≠ gb324) ho0 (fun k_ hk_ => ⟨Or.elim hk_ (fun hs_ => hs_.1) (fun hn_ => (.inr (Nat.le_trans (below_size bl) hn_))), Or.elim hk_ (fun hs_ => hs_.2) (fun hn_ => (Kd.freshB (g := gb324) (o := .cells #[.slice A0_0 l0_0.length c0_0, .slice A0_1 l0_1.length c0_1, .slice A0_2 l0_2.length c0_2] 25 (0, 0)) bk k_ hn_))⟩)) (below_size bl)); have n2_ := Aside0.mk (blk_below (g := gb324) (o := .cells #[.slice A0_0 l0_0.length c0_0, .slice A0_1 l0_1.length c0_1, .slice A0_2 l0_2.length c0_2] 25 (0, 0)) bk hb); have n3_ := Aside0.mk (below_step bl hb); clear HO1; clear BK324; clear HB; have HO1 := n0_; have HO327 := n1_; have BK324 := n2_; have HB := n3_; clear n0_ n1_ n2_ n3_; (try clear hb); (try clear hb2); (try clear hk); (try clear hi); (try clear ho0); obtain ⟨⟨hcz7_0, hcz7_1, hcz7_2⟩, hfz7_0, hfz7_1, hfz7_2⟩ := b3 BK324.out))
 go_loopg [7, 23] k (fun kq v7 v23 w' => ∃ (x7_1 : List (List Int)) (x23_1 : Int), v23 = .int .i64 x23_1 ∧ Aside0 (flow_run.l0 kq a2 x7_1 l0_1 (l0_1.length : Int) x23_1 l0_0 l0_1 l0_2 = some r) ∧ Aside0 (kq ≤ k) ∧ Aside0 (Kd.N (Kd.slice 5 (Kd.int .u8)) 45 w' w.heap.size (fun k_ => (P1_ k_ ∨ w.heap.size ≤ k_) ∧ k_ ≠ gb324) v7 x7_1) ∧ Aside0 (w'.heap[gb324]? = some (.cells #[(.slice A0_0 l0_0.length c0_0), (.slice A0_1 l0_1.length c0_1), (.slice A0_2 l0_2.length c0_2)] 25 (0, 0))) ∧ Aside0 (Below w.heap.size w w'))
 case atStart => exact ⟨(t325), (0), (by first | rfl | (simp; done) | (simp [*]; done)), H', ⟨Nat.le_refl _⟩, ⟨kN HO327⟩, ⟨bk⟩, ⟨bl⟩⟩
 case round =>
  clear H'
  (try clear c1); (try clear p2); (try clear c4); (try clear hcz7_0 hcz7_1 hcz7_2 hfz7_0 hfz7_1 hfz7_2)
  obtain ⟨x7_1, x23_1, rfl, HA, HK1, HO_7, BK324, HB⟩ := hrel
  cases gk with
  | zero => exact absurd HA.out (by simp [flow_run.l0])
  | succ k1 =>
   have H := HA.out
   clear HA
   simp only [flow_run.l0] at H
   by_cases c8 : x23_1 < (l0_1.length : Int)
   ·rw [if_pos c8] at H
    have c8b0 : decide (x23_1 < (l0_1.length : Int)) = true := decide_eq_true c8
    clear c8
    by_cases c9 : 0 ≤ x23_1
    ·rw [if_pos c9] at H
     have c9b0 : decide (0 ≤ x23_1) = true := decide_eq_true c9
     clear c9
     by_cases c10 : x23_1 < (l0_1.length : Int)
     ·rw [if_pos c10] at H
      have c10b0 : decide (x23_1 < (l0_1.length : Int)) = true := decide_eq_true c10
      clear c10
      by_cases c11 : 0 ≤ a2
      ·rw [if_pos c11] at H
       have c11b0 := eq_true c11
       have c11b1 : decide (0 ≤ a2) = true := decide_eq_true c11
       clear c11
       by_cases c12 : (a2 : Int).toNat ≤ 281474976710656
       ·rw [if_pos c12] at H
        have c12b0 := eq_true c12
        have c12b1 : decide ((a2 : Int).toNat ≤ 281474976710656) = true := decide_eq_true c12
        clear c12
        obtain ⟨y329, hy329⟩ : ∃ y_ : List Int, y_ = (List.replicate (a2 : Int).toNat 0) := ⟨_, rfl⟩
        replace H : (flow_run.l1 k1 a2 x7_1 y329 l0_1 (l0_1.length : Int) x23_1 (rd_L4 l0_1 x23_1) ((rd_L4 l0_1 x23_1).length : Int) 0 l0_0 l0_1 l0_2) = some r := by first | (rw [hy329]; with_reducible exact H) | (have H2_ := (Option.bind_some _ _).symm.trans H; rw [hy329]; with_reducible exact H2_) | (have H2_ := (Option.bind_some _ _).symm.trans H; with_reducible exact H2_) | with_reducible exact H | (rw [hy329]; exact H) | exact H
        have Ny329 := Aside0.mk hy329
        clear hy329
        have H' := Aside0.mk H
        clear H
        have p328 : 0 ≤ (x23_1 : Int) := dt
        have q328 : x23_1 < (l0_1.length : Int) := dt
        obtain ⟨ad328, A328_0, c328_0, e328, hx328_0, hl328_0, hi328_0⟩ := at_L4 HR0_1.out x23_1 p328 q328
        cases e328
        replace hx328_0 := cx HB hx328_0
        have HR328_0 := Aside0.mk hi328_0
        have HC328_0 := Aside0.mk hl328_0
        clear hi328_0 hl328_0
        replace p328 := eq_true p328
        replace q328 := eq_true q328
        go_wp2_with (first | ((with_reducible refine gate_dst (N := 28) rfl ?_); refine Kd.R_make (Kd.int .u8) _ 5 rfl (N := 28) rfl 45 _ _ rfl a2 rfl rfl Try.underlying45 (.int .u8 0) 1 info5 rfl (by decide) (by omega) 0 (ok := fun _ => True) (okp := fun _ => True) rfl (fun _ hk => hk) trivial (dt) (Nat.le_trans (Nat.mul_le_mul_right _ (dt : a2.toNat ≤ 281474976710656)) (by omega)) (Below.refl _ _) (Nat.le_refl _) ?_; intro v330 w13 ho14 hb hg_ hnew_; clear hg_ hnew_; (first | rw [← Ny329.out] at ho14 | (simp only [Int.reduceToNat] at ho14; rw [← Ny329.out] at ho14)); have n0_ := Aside0.mk (Kd.N_elder' (kN HO_7) (Kd.R_base ho14) hb); have n1_ := Aside0.mk (Kd.R_lower (Kd.R_newM (M := fun k_ => (w.heap.size ≤ k_)) ho14 (below_size bl) (fun k_ h_ => h_)) (below_size bl)); have n2_ := Aside0.mk (blk_below (g := gb324) (o := .cells #[.slice A0_0 l0_0.length c0_0, .slice (some ad328) l0_1.length c0_1, .slice A0_2 l0_2.length c0_2] 25 (0, 0)) bk hb); have n3_ := Aside0.mk (below_step bl hb); clear HO_7; clear BK324; clear HB; have HO_7 := n0_; have HO331 := n1_; have BK324 := n2_; have HB := n3_; clear n0_ n1_ n2_ n3_; clear hb ho14))
        go_loopg [31] k1 (fun kq v31 w' => ∃ (x10_2 : List Int) (x31_2 : Int), v31 = .int .i64 x31_2 ∧ Aside0 (flow_run.l1 kq a2 x7_1 x10_2 l0_1 (l0_1.length : Int) x23_1 (rd_L4 l0_1 x23_1) ((rd_L4 l0_1 x23_1).length : Int) x31_2 l0_0 l0_1 l0_2 = some r) ∧ Aside0 (kq ≤ k1) ∧ Aside0 (Kd.N (Kd.slice 5 (Kd.int .u8)) 45 w' w.heap.size (fun k_ => (P1_ k_ ∨ w.heap.size ≤ k_) ∧ some k_ ≠ (v330 : Value).ownBlock ∧ k_ ≠ gb324) u7 x7_1) ∧ Aside0 (Kd.R (Kd.int .u8) 5 w' w.heap.size (fun k_ => (w.heap.size ≤ k_)) v330 x10_2) ∧ Aside0 (w'.heap[gb324]? = some (.cells #[(.slice A0_0 l0_0.length c0_0), (.slice (some ad328) l0_1.length c0_1), (.slice A0_2 l0_2.length c0_2)] 25 (0, 0))) ∧ Aside0 (Below w.heap.size w w'))
        case atStart => exact ⟨(y329), (0), (by first | rfl | (simp; done) | (simp [*]; done)), H', ⟨Nat.le_refl _⟩, ⟨by (with_reducible repeat (first | apply Kd.N_alloc | apply Kd.N_drewN | apply Kd.N_drew)); exact Kd.N_mono HO_7.out (fun _ hk => ⟨hk.1.1, ⟨hk.2, hk.1.2⟩⟩)⟩, ⟨by (with_reducible repeat (first | apply Kd.R_alloc | apply Kd.R_drewN | apply Kd.R_drew)); exact Kd.R_mono HO331.out (fun _ hk => hk.1)⟩, ⟨bk⟩, ⟨bl⟩⟩
        case round =>
         clear H'
         (try clear c1); (try clear p2); (try clear c3); (try clear p3); (try clear q3); (try clear hx3); (try clear c4); (try clear c8); (try clear c8b0); (try clear c9); (try clear c9b0); (try clear c10); (try clear c10b0); (try clear c11); (try clear c11b0); (try clear c11b1); (try clear c12); (try clear c12b0); (try clear c12b1); (try clear hcz7_0 hcz7_1 hcz7_2 hfz7_0 hfz7_1 hfz7_2); (try clear hx328_0); (try clear p328); (try clear q328)
         obtain ⟨x10_2, x31_2, rfl, HA, HK2, HO_7, HO_10, BK324, HB⟩ := hrel
         cases gk with
         | zero => exact absurd HA.out (by simp [flow_run.l1])
         | succ k2 =>
          have H := HA.out
          clear HA
          simp only [flow_run.l1] at H
          by_cases c15 : x31_2 < ((rd_L4 l0_1 x23_1).length : Int)
          ·rw [if_pos c15] at H
           have c15b0 : decide (x31_2 < ((rd_L4 l0_1 x23_1).length : Int)) = true := decide_eq_true c15
           clear c15
           by_cases c16 : 0 ≤ x31_2
           ·rw [if_pos c16] at H
            have c16b0 : decide (0 ≤ x31_2) = true := decide_eq_true c16
            clear c16
            by_cases c17 : x31_2 < ((rd_L4 l0_1 x23_1).length : Int)
            ·rw [if_pos c17] at H
             have c17b0 : decide (x31_2 < ((rd_L4 l0_1 x23_1).length : Int)) = true := decide_eq_true c17
             clear c17
             by_cases c18 : 0 ≤ ((rd_T64 (rd_L4 l0_1 x23_1) x31_2).f0)
             ·rw [if_pos c18] at H
              have c18b0 : decide (0 ≤ ((rd_T64 (rd_L4 l0_1 x23_1) x31_2).f0)) = true := decide_eq_true c18
              clear c18
              by_cases c19 : ((rd_T64 (rd_L4 l0_1 x23_1) x31_2).f0) < (x7_1.length : Int)
              ·rw [if_pos c19] at H
               have c19b0 : decide (((rd_T64 (rd_L4 l0_1 x23_1) x31_2).f0) < (x7_1.length : Int)) = true := decide_eq_true c19
               clear c19
               replace H := Option.bind_eq_some_iff.mp H
               obtain ⟨t338, A200, H⟩ := H
               replace H : (flow_run.l2 k2 a2 x7_1 x10_2 l0_1 (l0_1.length : Int) x23_1 (rd_L4 l0_1 x23_1) ((rd_L4 l0_1 x23_1).length : Int) x31_2 t338 (t338.length : Int) 0 l0_0 l0_1 l0_2) = some r := H
               have A20 := Aside0.mk A200
               clear A200
               have H' := Aside0.mk H
               clear H
               have p335 : 0 ≤ (x31_2 : Int) := dt
               have q335 : x31_2 < ((rd_L4 l0_1 x23_1).length : Int) := dt
               obtain ⟨ad335, e335, hx335_0, hx335_1⟩ := at_T64 HR328_0.out x31_2 p335 q335
               cases e335
               replace hx335_0 := cx HB hx335_0
               replace hx335_1 := cx HB hx335_1
               replace p335 := eq_true p335
               replace q335 := eq_true q335
               try go_wp2_with (first | ((with_reducible refine gate_dst (N := 12) rfl ?_); refine box_event ?hg (N := 12) ?hd (cs := #[.int .i64 0, .int .u8 0]) (t := 64) ?hr ?_; (case hd => rfl); (case hg => rfl); (case hr => first | (go_simp; done) | (go_simp; rfl)); intro gb336 hg w21 hbox hb; have n0_ := Aside0.mk (Kd.N_below (Kd.N_elderB (kN HO_7) gb336 (Nat.le_of_eq hg.symm)) hb); have n1_ := Aside0.mk (Kd.R_below (kR HO_10) hb); have n2_ := Aside0.mk (blk_below (g := gb324) (o := .cells #[.slice A0_0 l0_0.length c0_0, .slice (some ad328) l0_1.length c0_1, .slice A0_2 l0_2.length c0_2] 25 (0, 0)) bk hb); have n3_ := Aside0.mk (below_step bl hb); have n4_ := Aside0.mk (hbox); have n5_ := Aside0.mk ((sz hg)); have n6_ := Aside0.mk ((sz hg)); have n7_ := Aside0.mk ((nl (g := gb324) (g' := gb336) hg)); have n8_ := Aside0.mk ((nr (g := gb324) (g' := gb336) hg)); clear HO_7; clear HO_10; clear BK324; clear HB; have HO_7 := n0_; have HO_10 := n1_; have BK324 := n2_; have HB := n3_; have BK336 := n4_; have GW336 := n5_; have GE336 := n6_; have NB324_336 := n7_; have NB336_324 := n8_; clear n0_ n1_ n2_ n3_ n4_ n5_ n6_ n7_ n8_; clear hb hbox hg; have hnb22 := NB336_324.out; have hnc22 := NB324_336.out; obtain ⟨⟨hcz23_0, hcz23_1⟩, hfz23_0, hfz23_1⟩ := b2 BK336.out))
               have n0_ : Aside0 (Kd.N (Kd.slice 5 (Kd.int .u8)) 45 ((w21.setCell ⟨gb336, 0, none⟩ (.int .i64 ((rd_T64 (rd_L4 l0_1 x23_1) x31_2).f0))).setCell ⟨gb336, 1, none⟩ (.int .u8 ((rd_T64 (rd_L4 l0_1 x23_1) x31_2).f1))) w.heap.size (fun k_ => (P1_ k_ ∨ w.heap.size ≤ k_) ∧ some k_ ≠ (v330 : Value).ownBlock ∧ k_ ≠ gb324 ∧ k_ ≠ gb336) u7 x7_1) := ⟨by (with_reducible repeat (first | apply Kd.N_alloc | apply Kd.N_drewN | apply Kd.N_drew)); exact Kd.N_mono (Kd.N_far (p := ⟨gb336, 1, none⟩) (Kd.N_far (p := ⟨gb336, 0, none⟩) (Kd.N_mono HO_7.out (fun k_ hk => (⟨hk, hk.2⟩ : _ ∧ k_ ≠ gb336))) (fun _ hk => hk.2) (.int .i64 ((rd_T64 (rd_L4 l0_1 x23_1) x31_2).f0))) (fun _ hk => hk.2) (.int .u8 ((rd_T64 (rd_L4 l0_1 x23_1) x31_2).f1))) (fun _ hk => ⟨hk.1.1.1, ⟨hk.1.1.2.1, ⟨hk.1.1.2.2, hk.1.2⟩⟩⟩)⟩
               have n1_ : Aside0 (Kd.R (Kd.int .u8) 5 ((w21.setCell ⟨gb336, 0, none⟩ (.int .i64 ((rd_T64 (rd_L4 l0_1 x23_1) x31_2).f0))).setCell ⟨gb336, 1, none⟩ (.int .u8 ((rd_T64 (rd_L4 l0_1 x23_1) x31_2).f1))) w.heap.size (fun k_ => (w.heap.size ≤ k_)) v330 x10_2) := ⟨by (with_reducible repeat (first | apply Kd.R_alloc | apply Kd.R_drewN | apply Kd.R_drew)); exact Kd.R_mono (Kd.R_far (p := ⟨gb336, 1, none⟩) (Kd.R_far (p := ⟨gb336, 0, none⟩) (Kd.R_types HO_10.out BK336.out (by decide)) (fun _ hk => hk.2) (.int .i64 ((rd_T64 (rd_L4 l0_1 x23_1) x31_2).f0))) (fun _ hk => hk.2) (.int .u8 ((rd_T64 (rd_L4 l0_1 x23_1) x31_2).f1))) (fun _ hk => hk.1)⟩
               have n2_ : Aside0 (((w21.setCell ⟨gb336, 0, none⟩ (.int .i64 ((rd_T64 (rd_L4 l0_1 x23_1) x31_2).f0))).setCell ⟨gb336, 1, none⟩ (.int .u8 ((rd_T64 (rd_L4 l0_1 x23_1) x31_2).f1))).heap[gb324]? = some (.cells #[.slice A0_0 l0_0.length c0_0, .slice (some ad328) l0_1.length c0_1, .slice A0_2 l0_2.length c0_2] 25 (0, 0))) := ⟨by (with_reducible repeat (first | refine blk_drewN ?_ _ | refine blk_drew ?_ | refine blk_alloc ?_ _)); refine blk_far ?_ NB324_336.out _; (with_reducible repeat (first | refine blk_drewN ?_ _ | refine blk_drew ?_ | refine blk_alloc ?_ _)); refine blk_far ?_ NB324_336.out _; (with_reducible repeat (first | refine blk_drewN ?_ _ | refine blk_drew ?_ | refine blk_alloc ?_ _)); exact BK324.out⟩
               have n3_ : Aside0 (((w21.setCell ⟨gb336, 0, none⟩ (.int .i64 ((rd_T64 (rd_L4 l0_1 x23_1) x31_2).f0))).setCell ⟨gb336, 1, none⟩ (.int .u8 ((rd_T64 (rd_L4 l0_1 x23_1) x31_2).f1))).heap[gb336]? = some (.cells #[.int .i64 ((rd_T64 (rd_L4 l0_1 x23_1) x31_2).f0), .int .u8 ((rd_T64 (rd_L4 l0_1 x23_1) x31_2).f1)] 64 (0, 0))) := ⟨by (with_reducible repeat (first | refine blk_drewN ?_ _ | refine blk_drew ?_ | refine blk_alloc ?_ _)); refine blk_put (cs := #[.int .i64 ((rd_T64 (rd_L4 l0_1 x23_1) x31_2).f0), .int .u8 0]) ?_ 1 _ rfl; (with_reducible repeat (first | refine blk_drewN ?_ _ | refine blk_drew ?_ | refine blk_alloc ?_ _)); refine blk_put (cs := #[.int .i64 0, .int .u8 0]) ?_ 0 _ rfl; (with_reducible repeat (first | refine blk_drewN ?_ _ | refine blk_drew ?_ | refine blk_alloc ?_ _)); exact BK336.out⟩
               have n4_ : Aside0 (Below w.heap.size w ((w21.setCell ⟨gb336, 0, none⟩ (.int .i64 ((rd_T64 (rd_L4 l0_1 x23_1) x31_2).f0))).setCell ⟨gb336, 1, none⟩ (.int .u8 ((rd_T64 (rd_L4 l0_1 x23_1) x31_2).f1)))) := ⟨bl⟩
               (try clear HO_7)
               (try clear HO_10)
               (try clear BK324)
               (try clear BK336)
               (try clear HB)
               generalize ((w21.setCell ⟨gb336, 0, none⟩ (.int .i64 ((rd_T64 (rd_L4 l0_1 x23_1) x31_2).f0))).setCell ⟨gb336, 1, none⟩ (.int .u8 ((rd_T64 (rd_L4 l0_1 x23_1) x31_2).f1))) = w24 at n0_ n1_ n2_ n3_ n4_ ⊢
               have HO_7 := n0_
               have HO_10 := n1_
               have BK324 := n2_
               have BK336 := n3_
               have HB := n4_
               clear n0_ n1_ n2_ n3_ n4_
               have n0_ := Aside0.mk (Kd.N_drew HO_7.out)
               have n1_ := Aside0.mk (Kd.R_drew HO_10.out)
               have n2_ := Aside0.mk (blk_drew BK324.out)
               have n3_ := Aside0.mk (blk_drew BK336.out)
               have n4_ := Aside0.mk (below_drew1 HB.out)
               clear HO_7
               clear HO_10
               clear BK324
               clear BK336
               clear HB
               have HO_7 := n0_
               have HO_10 := n1_
               have BK324 := n2_
               have BK336 := n3_
               have HB := n4_
               clear n0_ n1_ n2_ n3_ n4_
               obtain ⟨Ao26, co26, eo26⟩ := Kd.N_slice HO_7.out
               (first | subst eo26 | (injection eo26 with f1_ f2_ f3_; have f4_ := f1_.symm; have f5_ := f3_.symm; clear f1_ f2_ f3_; subst f4_; subst f5_))
               have p337 : 0 ≤ (((rd_T64 (rd_L4 l0_1 x23_1) x31_2).f0) : Int) := dt
               have q337 : ((rd_T64 (rd_L4 l0_1 x23_1) x31_2).f0) < (x7_1.length : Int) := dt
               obtain ⟨ad337, A337_0, c337_0, e337, hx337_0, hl337_0, hi337_0⟩ := at_L9 (Kd.N_reads' HO_7.out).2.2 ((rd_T64 (rd_L4 l0_1 x23_1) x31_2).f0) p337 q337
               cases e337
               obtain ⟨ce337, hce337, hMe337, hcc337⟩ := Kd.N_get HO_7.out [] ((rd_T64 (rd_L4 l0_1 x23_1) x31_2).f0) p337 (by first | exact q337 | exact dt | (have e_ := (Kd.N_reads' HO_7.out).1; omega))
               obtain ⟨ua337_0, uc337_0, rfl, ul337_0, ge337_0⟩ := Kd.FK_slice_open hMe337
               have hv337_0 := hcc337 0 _ rfl
               rw [Nat.add_zero, show ((Kd.slice 5 (Kd.int .u8))).sz = 1 from rfl, Nat.mul_one] at hv337_0
               replace hv337_0 := Option.some.inj (hv337_0.symm.trans hx337_0)
               injection hv337_0 with hva_ hvn_ hvc_
               rw [hva_] at ge337_0
               rw [hvc_] at ul337_0
               have HL337_0 := Aside0.mk (show Kd.V (Kd.int .u8) 5 _ w.heap.size _ _ (rd_L9 x7_1 ((rd_T64 (rd_L4 l0_1 x23_1) x31_2).f0)) from Kd.V_mk ul337_0 ge337_0)
               clear hva_ hvn_ hvc_ ge337_0 ul337_0
               clear hcc337 hce337
               have HR337_0 := Aside0.mk hi337_0
               have HC337_0 := Aside0.mk hl337_0
               clear hi337_0 hl337_0
               replace p337 := eq_true p337
               replace q337 := eq_true q337
               refine start_ (n := 10) (S := fun w' => w'.cell? ⟨gb336, 0, none⟩ = some (.int .i64 ((rd_T64 (rd_L4 l0_1 x23_1) x31_2).f0)) ∧ w'.cell? ⟨gb336, 1, none⟩ = some (.int .u8 ((rd_T64 (rd_L4 l0_1 x23_1) x31_2).f1)) ∧ w'.cell? (ad337.add (((rd_T64 (rd_L4 l0_1 x23_1) x31_2).f0)).toNat) = some (.slice A337_0 (rd_L9 x7_1 ((rd_T64 (rd_L4 l0_1 x23_1) x31_2).f0)).length c337_0)) (ds := []) #[false, false, false, false, false, false, false, false, false, false] (by kernel_rfl) rfl rfl ⟨(blk_cell BK336.out 0).trans rfl, (blk_cell BK336.out 1).trans rfl, hx337_0⟩ (fun hHeld => ?_); refine with_tabW flow_run.tab9 flow_run.bits9 (fun HT_ HW_ => ?_)
               generalize w24.drew = w25 at HO_7 HO_10 BK324 BK336 HB HL337_0 HR337_0 hx337_0 hHeld ⊢
               refine pure_ (i := 0) (N := some 35) (v := ?_) (a' := ?_) #[true, false, false, false, false, false, false, false, false, false] rfl rfl (any_of HT_.out (by kernel_rfl)) (fun _ _ _ h => h) (Or.inl ⟨by rfl, ?_⟩) ?_ ?_
               rotate_left
               ·intro w'
                go_simp
                with_reducible rfl
               rotate_left
               ·simp only [Act.put, List.setIfInBounds_toArray, List.set_cons_zero, List.set_cons_succ, i64_w, i32_w]
                rfl
               refine pure_ (i := 2) (N := some 37) (v := ?_) (a' := ?_) #[true, false, true, false, false, false, false, false, false, false] rfl rfl (any_of HT_.out (by kernel_rfl)) (fun _ _ _ h => h) (Or.inl ⟨by rfl, ?_⟩) ?_ ?_
               rotate_left
               ·intro w'
                go_simp
                with_reducible rfl
               rotate_left
               ·simp only [Act.put, List.setIfInBounds_toArray, List.set_cons_zero, List.set_cons_succ, i64_w, i32_w]
                rfl
               refine pure_ (i := 3) (N := some 38) (v := ?_) (a' := ?_) #[true, false, true, true, false, false, false, false, false, false] rfl rfl (any_of HT_.out (by kernel_rfl)) (fun _ _ _ h => h) (Or.inl ⟨by rfl, ?_⟩) ?_ ?_
               rotate_left
               ·intro w'
                go_simp
                with_reducible rfl
               rotate_left
               ·simp only [Act.put, List.setIfInBounds_toArray, List.set_cons_zero, List.set_cons_succ, i64_w, i32_w]
                rfl
               refine pure_ (i := 9) (N := some 44) (v := ?_) (a' := ?_) #[true, false, true, true, false, false, false, false, false, true] rfl rfl (any_of HT_.out (by kernel_rfl)) (fun _ _ _ h => h) (Or.inl ⟨by rfl, ?_⟩) ?_ ?_
               rotate_left
               ·intro w'
                go_simp
                with_reducible rfl
               rotate_left
               ·simp only [Act.put, List.setIfInBounds_toArray, List.set_cons_zero, List.set_cons_succ, i64_w, i32_w]
                rfl
               refine take_ (i := 1) (N := some 36) (v := ?_) (a' := ?_) #[true, true, true, true, false, false, false, false, false, true] rfl rfl (take_ofW HT_.out HW_.out (by kernel_rfl)) (fun _ _ _ h => h) (Or.inl ⟨by rfl, ?_⟩) hHeld ?_ ?_
               rotate_left
               ·rintro w' ⟨s0, s1, s2⟩
                go_simp
                with_reducible rfl
               rotate_left
               ·simp only [Act.put, List.setIfInBounds_toArray, List.set_cons_zero, List.set_cons_succ, i64_w, i32_w]
                rfl
               refine take_ (i := 4) (N := some 39) (v := ?_) (a' := ?_) #[true, true, true, true, true, false, false, false, false, true] rfl rfl (take_ofW HT_.out HW_.out (by kernel_rfl)) (fun _ _ _ h => h) (Or.inl ⟨by rfl, ?_⟩) hHeld ?_ ?_
               rotate_left
               ·rintro w' ⟨s0, s1, s2⟩
                go_simp
                with_reducible rfl
               rotate_left
               ·simp only [Act.put, List.setIfInBounds_toArray, List.set_cons_zero, List.set_cons_succ, i64_w, i32_w]
                rfl
               refine pure_ (i := 5) (N := some 40) (v := ?_) (a' := ?_) #[true, true, true, true, true, true, false, false, false, true] rfl rfl (any_of HT_.out (by kernel_rfl)) (fun _ _ _ h => h) (Or.inl ⟨by rfl, ?_⟩) ?_ ?_
               rotate_left
               ·intro w'
                go_simp
                with_reducible rfl
               rotate_left
               ·simp only [Act.put, List.setIfInBounds_toArray, List.set_cons_zero, List.set_cons_succ, i64_w, i32_w]
                rfl
               refine take_ (i := 6) (N := some 41) (v := ?_) (a' := ?_) #[true, true, true, true, true, true, true, false, false, true] rfl rfl (take_ofW HT_.out HW_.out (by kernel_rfl)) (fun _ _ _ h => h) (Or.inl ⟨by rfl, ?_⟩) hHeld ?_ ?_
               rotate_left
               ·rintro w' ⟨s0, s1, s2⟩
                go_simp
                with_reducible rfl
               rotate_left
               ·simp only [Act.put, List.setIfInBounds_toArray, List.set_cons_zero, List.set_cons_succ, i64_w, i32_w]
                rfl
               refine one_ (i := 7) (N := some 42) #[true, true, true, true, true, true, true, true, false, true] rfl rfl (one_of HT_.out (by kernel_rfl)) (by decide) (fun K hK => ?_)
               refine goes_ Try.func50 (by kernel_rfl) rfl #[.int .u8 ((rd_T64 (rd_L4 l0_1 x23_1) x31_2).f1), .slice A337_0 (rd_L9 x7_1 ((rd_T64 (rd_L4 l0_1 x23_1) x31_2).f0)).length c337_0] (by rfl) rfl rfl (by (try simp only [List.map_toArray, List.map_cons, List.map_nil]); first | done | rfl | (simp only [List.length_drop, List.length_take]; rfl)) ?_
               with_reducible refine (field_Scale.calls ((rd_T64 (rd_L4 l0_1 x23_1) x31_2).f1) _ _ (rd_L9 x7_1 ((rd_T64 (rd_L4 l0_1 x23_1) x31_2).f0)) t338 _ ?side1 ?side2 A20.out).mono ?_
               (case side1 => repeat (first | exact (by repeat (first | (with_reducible exact HR337_0.out) | (with_reducible refine Kd.C_alloc ?_ _) | (with_reducible refine Kd.C_drewN ?_ _) | (with_reducible refine Kd.C_drew ?_) | exact HR337_0.out)) | (with_reducible refine Kd.C_alloc ?_ _) | (with_reducible refine Kd.C_drewN ?_ _) | (with_reducible refine Kd.C_drew ?_)))
               (case side2 => exact HC337_0.out)
               rintro e w27 ⟨v339, rfl, ho0, hb⟩
               have HS2_ := (hb.cell (World.block_lt_of_cell? _ _ (hHeld.2.2))).trans (hHeld.2.2)
               refine ⟨_, rfl, ?_⟩
               have n0_ := Aside0.mk (Kd.N_elder' (kN HO_7) (Kd.R_base ho0) hb)
               have n1_ := Aside0.mk (Kd.R_elder' (kR HO_10) (Kd.R_base ho0) hb)
               have n2_ := Aside0.mk (Kd.V_elder' (kV HL337_0) (Kd.R_base ho0) hb)
               have n3_ := Aside0.mk (Kd.R_lower (Kd.R_new' (Kd.R_newM (M := fun k_ => (w.heap.size ≤ k_)) ho0 (below_size bl) (fun k_ h_ => h_)) (Kd.R_lt (kR HO_10))) (below_size bl))
               have n4_ := Aside0.mk (blk_below (g := gb324) (o := .cells #[.slice A0_0 l0_0.length c0_0, .slice (some ad328) l0_1.length c0_1, .slice A0_2 l0_2.length c0_2] 25 (0, 0)) bk hb)
               have n5_ := Aside0.mk (blk_below (g := gb336) (o := .cells #[.int .i64 ((rd_T64 (rd_L4 l0_1 x23_1) x31_2).f0), .int .u8 ((rd_T64 (rd_L4 l0_1 x23_1) x31_2).f1)] 64 (0, 0)) bk hb)
               have n6_ := Aside0.mk (Kd.C_below (by repeat (first | (with_reducible exact HR337_0.out) | (with_reducible refine Kd.C_alloc ?_ _) | (with_reducible refine Kd.C_drewN ?_ _) | (with_reducible refine Kd.C_drew ?_) | exact HR337_0.out)) hb)
               have n7_ := Aside0.mk (below_step bl hb)
               clear HO_7
               clear HO_10
               clear HL337_0
               clear BK324
               clear BK336
               clear HR337_0
               clear HB
               have HO_7 := n0_
               have HO_10 := n1_
               have HL337_0 := n2_
               have HO340 := n3_
               have BK324 := n4_
               have BK336 := n5_
               have HR337_0 := n6_
               have HB := n7_
               clear n0_ n1_ n2_ n3_ n4_ n5_ n6_ n7_
               (try clear hb)
               (try clear hb2)
               (try clear hk)
               (try clear hi)
               (try clear ho0)
               obtain ⟨Ao28, co28, eo28⟩ := Kd.R_slice HO340.out
               (first | subst eo28 | (injection eo28 with f1_ f2_ f3_; have f4_ := f1_.symm; have f5_ := f3_.symm; clear f1_ f2_ f3_; subst f4_; subst f5_))
               refine hK.out _ _ ⟨(blk_cell BK336.out 0).trans rfl, (blk_cell BK336.out 1).trans rfl, HS2_⟩ (fun hHeld => ?_)
               clear hK K
               refine norm_ (a' := ?_) ?_ ?_
               rotate_left
               ·show Act.put _ (some 42) _ = _
                simp only [Act.put, List.setIfInBounds_toArray, List.set_cons_zero, List.set_cons_succ, i64_w, i32_w]
                rfl
               refine pure_ (i := 8) (N := some 43) (v := ?_) (a' := ?_) #[true, true, true, true, true, true, true, true, true, true] rfl rfl (any_of HT_.out (by kernel_rfl)) (fun _ _ _ h => h) (Or.inl ⟨by rfl, ?_⟩) ?_ ?_
               rotate_left
               ·intro w'
                go_simp
                with_reducible rfl
               rotate_left
               ·simp only [Act.put, List.setIfInBounds_toArray, List.set_cons_zero, List.set_cons_succ, i64_w, i32_w]
                rfl
               refine done_ (done_of HT_.out (by kernel_rfl)) ?_
               try go_wp2
               go_loopg [44] k2 (fun kq v44 w' => ∃ (x10_3 : List Int) (x44_3 : Int), v44 = .int .i64 x44_3 ∧ Aside0 (flow_run.l2 kq a2 x7_1 x10_3 l0_1 (l0_1.length : Int) x23_1 (rd_L4 l0_1 x23_1) ((rd_L4 l0_1 x23_1).length : Int) x31_2 t338 (t338.length : Int) x44_3 l0_0 l0_1 l0_2 = some r) ∧ Aside0 (kq ≤ k2) ∧ Aside0 (Kd.N (Kd.slice 5 (Kd.int .u8)) 45 w' w.heap.size (fun k_ => (P1_ k_ ∨ w.heap.size ≤ k_) ∧ some k_ ≠ (v330 : Value).ownBlock ∧ some k_ ≠ ((.slice Ao28 t338.length co28) : Value).ownBlock ∧ k_ ≠ gb324 ∧ k_ ≠ gb336) (.slice (some ad337) x7_1.length co26) x7_1) ∧ Aside0 (Kd.R (Kd.int .u8) 5 w' w.heap.size (fun k_ => (w.heap.size ≤ k_) ∧ some k_ ≠ ((.slice Ao28 t338.length co28) : Value).ownBlock) v330 x10_3) ∧ Aside0 (Kd.R (Kd.int .u8) 5 w' w.heap.size (fun k_ => (w.heap.size ≤ k_) ∧ some k_ ≠ (v330 : Value).ownBlock) (.slice Ao28 t338.length co28) t338) ∧ Aside0 (w'.heap[gb324]? = some (.cells #[(.slice A0_0 l0_0.length c0_0), (.slice (some ad328) l0_1.length c0_1), (.slice A0_2 l0_2.length c0_2)] 25 (0, 0))) ∧ Aside0 (w'.heap[gb336]? = some (.cells #[.int .i64 ((rd_T64 (rd_L4 l0_1 x23_1) x31_2).f0), .int .u8 ((rd_T64 (rd_L4 l0_1 x23_1) x31_2).f1)] 64 (0, 0))) ∧ Aside0 (Below w.heap.size w w'))
               case atStart => exact ⟨(x10_2), (0), (by first | rfl | (simp; done) | (simp [*]; done)), H', ⟨Nat.le_refl _⟩, ⟨by (with_reducible repeat (first | apply Kd.N_alloc | apply Kd.N_drewN | apply Kd.N_drew)); exact Kd.N_mono HO_7.out (fun _ hk => ⟨hk.1.1, ⟨hk.1.2.1, ⟨hk.2, ⟨hk.1.2.2.1, hk.1.2.2.2⟩⟩⟩⟩)⟩, ⟨kR HO_10⟩, ⟨by (with_reducible repeat (first | apply Kd.R_alloc | apply Kd.R_drewN | apply Kd.R_drew)); exact Kd.R_mono HO340.out (fun _ hk => ⟨hk.1.1, hk.2⟩)⟩, ⟨bk⟩, ⟨bk⟩, ⟨bl⟩⟩
               case round =>
                clear H'
                (try clear c1); (try clear c2); (try clear p2); (try clear c3); (try clear p3); (try clear q3); (try clear hx3); (try clear c4); (try clear c5); (try clear c8); (try clear c8b0); (try clear c9); (try clear c9b0); (try clear c10); (try clear c10b0); (try clear c11); (try clear c11b0); (try clear c11b1); (try clear c12); (try clear c12b0); (try clear c12b1); (try clear c15); (try clear c15b0); (try clear c16); (try clear c16b0); (try clear c17); (try clear c17b0); (try clear c18); (try clear c18b0); (try clear c19); (try clear c19b0); (try clear c22); (try clear hcz23_0 hcz23_1 hfz23_0 hfz23_1); (try clear hcz7_0 hcz7_1 hcz7_2 hfz7_0 hfz7_1 hfz7_2); (try clear hx328_0); (try clear hx335_0); (try clear hx335_1); (try clear hx337_0); (try clear p328); (try clear p335); (try clear p337); (try clear q328); (try clear q335); (try clear q337)
                obtain ⟨x10_3, x44_3, rfl, HA, HK3, HO_7, HO_10, HO_42, BK324, BK336, HB⟩ := hrel
                cases gk with
                | zero => exact absurd HA.out (by simp [flow_run.l2])
                | succ k3 =>
                 have H := HA.out
                 clear HA
                 simp only [flow_run.l2] at H
                 by_cases c29 : x44_3 < (t338.length : Int)
                 ·rw [if_pos c29] at H
                  have c29b0 : decide (x44_3 < (t338.length : Int)) = true := decide_eq_true c29
                  clear c29
                  by_cases c30 : 0 ≤ x44_3
                  ·rw [if_pos c30] at H
                   have c30b0 : decide (0 ≤ x44_3) = true := decide_eq_true c30
                   clear c30
                   by_cases c31 : x44_3 < (t338.length : Int)
                   ·rw [if_pos c31] at H
                    have c31b0 : decide (x44_3 < (t338.length : Int)) = true := decide_eq_true c31
                    clear c31
                    by_cases c32 : x44_3 < (x10_3.length : Int)
                    ·rw [if_pos c32] at H
                     have c32b0 : decide (x44_3 < (x10_3.length : Int)) = true := decide_eq_true c32
                     clear c32
                     obtain ⟨y343, hy343⟩ : ∃ y_ : List Int, y_ = (x10_3.set (x44_3 : Int).toNat (Go.bits .xor .u8 (rd x10_3 x44_3) (rd t338 x44_3))) := ⟨_, rfl⟩
                     replace H : (flow_run.l2 k3 a2 x7_1 y343 l0_1 (l0_1.length : Int) x23_1 (rd_L4 l0_1 x23_1) ((rd_L4 l0_1 x23_1).length : Int) x31_2 t338 (t338.length : Int) (wrap64 (x44_3 + 1)) l0_0 l0_1 l0_2) = some r := by first | (rw [hy343]; with_reducible exact H) | (have H2_ := (Option.bind_some _ _).symm.trans H; rw [hy343]; with_reducible exact H2_) | (have H2_ := (Option.bind_some _ _).symm.trans H; with_reducible exact H2_) | with_reducible exact H | (rw [hy343]; exact H) | exact H
                     have Ny343 := Aside0.mk hy343
                     clear hy343
                     have H' := Aside0.mk H
                     clear H
                     have p341 : 0 ≤ (x44_3 : Int) := dt
                     have q341 : x44_3 < (t338.length : Int) := dt
                     obtain ⟨ad341, e341, hx341_0⟩ := Kd.at_int (Kd.R_reads' HO_42.out).2.2 x44_3 p341 q341
                     cases e341
                     replace p341 := eq_true p341
                     replace q341 := eq_true q341
                     obtain ⟨Ao34, co34, eo34⟩ := Kd.R_slice HO_10.out
                     subst eo34
                     have p342 : 0 ≤ (x44_3 : Int) := dt
                     have q342 : x44_3 < (x10_3.length : Int) := dt
                     obtain ⟨ad342, e342, hx342_0⟩ := Kd.at_int (Kd.R_reads' HO_10.out).2.2 x44_3 p342 q342
                     cases e342
                     replace p342 := eq_true p342
                     replace q342 := eq_true q342
                     have p33 : 0 ≤ (x44_3 : Int) := dt
                     have q33 : (x44_3 : Int) < ((x10_3.length : Int) : Int) := dt
                     obtain ⟨go33, co33, eo33, gb33, gl33, cl33, HG33⟩ := Kd.R_form HO_10.out (by omega)
                     (first | cases eo33 | (injection eo33 with ea_ en_ ec_; (first | subst ea_ | (injection ea_ with ea_; subst ea_)); subst ec_; clear en_))
                     have GB33 := Aside0.mk gb33
                     have GG33 := Aside0.mk HG33
                     clear gb33 gl33 HG33
                     (first | simp only [add_plain] at hx342_0 | skip)
                     obtain ⟨hx33_0, hf33_0⟩ := Kd.R_celln 0 HO_10.out (x44_3 : Int) p33 q33
                     replace p33 := eq_true p33
                     replace q33 := eq_true q33
                     have HP35 := Kd.R_putg HO_10.out (x44_3 : Int) (Go.bits .xor .u8 (rd x10_3 x44_3) (rd t338 x44_3))
                     go_wp2_with (first | ((with_reducible refine gate_store (t := 5) (p := 55) rfl ?_); refine store_event (t := 5) (p := 55) (v := ?vo_w36) (w1 := (wr.setCell ⟨go33, (x44_3 : Int).toNat, none⟩ (.int .u8 (Go.bits .xor .u8 (rd x10_3 x44_3) (rd t338 x44_3))))) ?hg ?ho ?hn ?hr ?_; (case ho => rfl); (case hg => rfl); (case hn => rfl); (case hr => first | (go_simp; done) | (go_simp; rfl)); intro w36 hw; have hg : wr.grownBy w36 (some go33) := (by rw [hw]; exact HP35.2); have hp_ : Kd.R (Kd.int .u8) 5 w36 w.heap.size (fun k_ => (w.heap.size ≤ k_) ∧ some k_ ≠ (.slice (some ad341) t338.length co28 : Value).ownBlock) (.slice (some ⟨go33, 0, none⟩) x10_3.length co34) y343 := (by rw [hw, Ny343.out]; exact HP35.1); clear HP35; have n0_ := Aside0.mk (Kd.N_afterv (v := (.slice (some ⟨go33, 0, none⟩) x10_3.length co34)) (v1 := (.slice (some ⟨go33, 0, none⟩) x10_3.length co34)) (ok := (fun k_ => (P1_ k_ ∨ w.heap.size ≤ k_) ∧ some k_ ≠ (.slice (some ad341) t338.length co28 : Value).ownBlock ∧ k_ ≠ gb324 ∧ k_ ≠ gb336)) (by (with_reducible repeat (first | apply Kd.N_alloc | apply Kd.N_drewN | apply Kd.N_drew)); exact Kd.N_mono HO_7.out (fun _ hk => ⟨⟨hk.1, ⟨hk.2.2.1, ⟨hk.2.2.2.1, hk.2.2.2.2⟩⟩⟩, hk.2.1⟩)) hg (.inl rfl)); have n1_ := Aside0.mk (hp_); have n2_ := Aside0.mk (Kd.R_after (v := (.slice (some ⟨go33, 0, none⟩) x10_3.length co34)) (v1 := (.slice (some ⟨go33, 0, none⟩) x10_3.length co34)) (ok := (fun k_ => (w.heap.size ≤ k_))) (kR HO_42) hg (.inl rfl)); have n3_ := Aside0.mk (blk_grown (g := gb324) (o := .cells #[.slice A0_0 l0_0.length c0_0, .slice (some ad328) l0_1.length c0_1, .slice A0_2 l0_2.length c0_2] 25 (0, 0)) bk hg (Kd.R_ne HO_10.out BK324.out (by decide))); have n4_ := Aside0.mk (blk_grown (g := gb336) (o := .cells #[.int .i64 ((rd_T64 (rd_L4 l0_1 x23_1) x31_2).f0), .int .u8 ((rd_T64 (rd_L4 l0_1 x23_1) x31_2).f1)] 64 (0, 0)) bk hg (Kd.R_ne HO_10.out BK336.out (by decide))); have n5_ := Aside0.mk ((by rw [hw]; exact below_set (HB.out) GB33.out : Below w.heap.size w w36)); clear HO_7; clear HO_10; clear HO_42; clear BK324; clear BK336; clear HB; have HO_7 := n0_; have HO_10 := n1_; have HO_42 := n2_; have BK324 := n3_; have BK336 := n4_; have HB := n5_; clear n0_ n1_ n2_ n3_ n4_ n5_; clear hg hw hp_))
                     go_roundg k3
                     case measure => have := HK1.out; have := HK2.out; have := HK3.out; omega
                     case rel => exact ⟨(y343), (wrap64 (x44_3 + 1)), (by first | rfl | (simp; done) | (simp [*]; done)), H', ⟨by have := HK1.out; have := HK2.out; have := HK3.out; omega⟩, ⟨by (with_reducible repeat (first | apply Kd.N_alloc | apply Kd.N_drewN | apply Kd.N_drew)); exact Kd.N_mono HO_7.out (fun _ hk => ⟨hk.1.1, ⟨hk.2, ⟨hk.1.2.1, ⟨hk.1.2.2.1, hk.1.2.2.2⟩⟩⟩⟩)⟩, ⟨kR HO_10⟩, ⟨kR HO_42⟩, ⟨bk⟩, ⟨bk⟩, ⟨bl⟩⟩
                    ·rw [if_neg c32] at H
                     exact absurd H (by simp)
                   ·rw [if_neg c31] at H
                    exact absurd H (by simp)
                  ·rw [if_neg c30] at H
                   exact absurd H (by simp)
                 ·rw [if_neg c29] at H
                  have c29b0 : decide (x44_3 < (t338.length : Int)) = false := decide_eq_false c29
                  clear c29
                  have H' := Aside0.mk H
                  clear H
                  go_wp2
                  go_roundg k3
                  case measure => have := HK1.out; have := HK2.out; have := HK3.out; omega
                  case rel => exact ⟨(x10_3), (wrap64 (x31_2 + 1)), (by first | rfl | (simp; done) | (simp [*]; done)), H', ⟨by have := HK1.out; have := HK2.out; have := HK3.out; omega⟩, ⟨by (with_reducible repeat (first | apply Kd.N_alloc | apply Kd.N_drewN | apply Kd.N_drew)); exact Kd.N_mono HO_7.out (fun _ hk => ⟨hk.1, ⟨hk.2.1, hk.2.2.2.1⟩⟩)⟩, ⟨by (with_reducible repeat (first | apply Kd.R_alloc | apply Kd.R_drewN | apply Kd.R_drew)); exact Kd.R_mono HO_10.out (fun _ hk => hk.1)⟩, ⟨bk⟩, ⟨bl⟩⟩
              ·rw [if_neg c19] at H
               exact absurd H (by simp)
             ·rw [if_neg c18] at H
              exact absurd H (by simp)
            ·rw [if_neg c17] at H
             exact absurd H (by simp)
           ·rw [if_neg c16] at H
            exact absurd H (by simp)
          ·rw [if_neg c15] at H
           have c15b0 : decide (x31_2 < ((rd_L4 l0_1 x23_1).length : Int)) = false := decide_eq_false c15
           clear c15
           by_cases c37 : x7_1.length < 5864062014805
           ·rw [if_pos c37] at H
            have LMc37 := Aside0.mk c37
            clear c37
            obtain ⟨y332, hy332⟩ : ∃ y_ : List (List Int), y_ = (x7_1 ++ [x10_2]) := ⟨_, rfl⟩
            replace H : (flow_run.l0 k2 a2 y332 l0_1 (l0_1.length : Int) (wrap64 (x23_1 + 1)) l0_0 l0_1 l0_2) = some r := by first | (rw [hy332]; with_reducible exact H) | (have H2_ := (Option.bind_some _ _).symm.trans H; rw [hy332]; with_reducible exact H2_) | (have H2_ := (Option.bind_some _ _).symm.trans H; with_reducible exact H2_) | with_reducible exact H | (rw [hy332]; exact H) | exact H
            have Ny332 := Aside0.mk hy332
            clear hy332
            have H' := Aside0.mk H
            clear H
            obtain ⟨Ao39, co39, eo39⟩ := Kd.R_slice HO_10.out
            subst eo39
            go_wp2_with (first | ((with_reducible refine gate_builtin (b := .append) (xs := #[.tmp 58, .tmp 60]) rfl ?_); at_builtin; refine Kd.N_append (Kd.slice 5 (Kd.int .u8)) (w0 := w) w.heap.size rfl (.tmp 58) (.tmp 60) 38 45 (.slice none 0 0) 24 rfl Try.underlying38 info45 rfl (by decide) (by omega) u7 x7_1 x10_2 [.slice Ao39 x10_2.length co39] (fun k_ => (P1_ k_ ∨ w.heap.size ≤ k_) ∧ k_ ≠ gb324) (fun k_ => ((fun k_ => (P1_ k_ ∨ w.heap.size ≤ k_) ∧ k_ ≠ gb324)) k_ ∧ some k_ ≠ (u7 : Value).ownBlock) rfl rfl ?aP (fun _ hk => hk) ?aF ?aO ?aB ?aS ?aL ?_; (case aP => exact (Kd.FK_slice_mk (Kd.R_reads' (Kd.R_mono (ok' := (fun k_ => ((fun k_ => (P1_ k_ ∨ w.heap.size ≤ k_) ∧ k_ ≠ gb324)) k_ ∧ some k_ ≠ (u7 : Value).ownBlock)) (Kd.R_types (Kd.R_apart' (HO_10.out) (Kd.N_typed HO_7.out) (by decide)) BK324.out (by decide)) (fun k_ hk => ⟨⟨(.inr (hk.1.1)), hk.2⟩, hk.1.2⟩))).2.1 (Kd.R_F (Kd.R_mono (ok' := (fun k_ => ((fun k_ => (P1_ k_ ∨ w.heap.size ≤ k_) ∧ k_ ≠ gb324)) k_ ∧ some k_ ≠ (u7 : Value).ownBlock)) (Kd.R_types (Kd.R_apart' (HO_10.out) (Kd.N_typed HO_7.out) (by decide)) BK324.out (by decide)) (fun k_ hk => ⟨⟨(.inr (hk.1.1)), hk.2⟩, hk.1.2⟩))))); (case aB => exact bl); (case aF => exact (fun k_ hk => ⟨(.inr (Nat.le_trans (below_size bl) hk)), Kd.freshB (g := gb324) (o := .cells #[.slice A0_0 l0_0.length c0_0, .slice (some ad328) l0_1.length c0_1, .slice A0_2 l0_2.length c0_2] 25 (0, 0)) bk k_ hk⟩)); (case aO => exact (by (with_reducible repeat (first | apply Kd.N_alloc | apply Kd.N_drewN | apply Kd.N_drew)); exact Kd.N_mono HO_7.out (fun _ hk => ⟨hk.1, hk.2.2⟩))); (case aS => exact (below_size bl)); (case aL => have := LMc37.out; omega); intro v333 w38 ho hb hg hat; rw [← Ny332.out] at ho; have n0_ := Aside0.mk (blk_grown (g := gb324) (o := .cells #[.slice A0_0 l0_0.length c0_0, .slice (some ad328) l0_1.length c0_1, .slice A0_2 l0_2.length c0_2] 25 (0, 0)) bk hg (Kd.N_ne HO_7.out BK324.out (by decide))); have n1_ := Aside0.mk (hb); have n2_ := Aside0.mk (ho); clear BK324; clear HB; clear HO_7; clear HO_10; have BK324 := n0_; have HB := n1_; have HO334 := n2_; clear n0_ n1_ n2_; clear ho hb hg hat))
            go_roundg k2
            case measure => have := HK1.out; have := HK2.out; omega
            case rel => exact ⟨(y332), (wrap64 (x23_1 + 1)), (by first | rfl | (simp; done) | (simp [*]; done)), H', ⟨by have := HK1.out; have := HK2.out; omega⟩, ⟨kN HO334⟩, ⟨bk⟩, ⟨bl⟩⟩
           ·rw [if_neg c37] at H
            exact absurd H (by simp)
       ·rw [if_neg c12] at H
        exact absurd H (by simp)
      ·rw [if_neg c11] at H
       exact absurd H (by simp)
     ·rw [if_neg c10] at H
      exact absurd H (by simp)
    ·rw [if_neg c9] at H
     exact absurd H (by simp)
   ·rw [if_neg c8] at H
    have c8b0 : decide (x23_1 < (l0_1.length : Int)) = false := decide_eq_false c8
    clear c8
    have H' := Aside0.mk H
    clear H
    obtain ⟨⟨hcz40_0, hcz40_1, hcz40_2⟩, hfz40_0, hfz40_1, hfz40_2⟩ := b3 BK324.out
    go_wp2
    go_loopg [15, 66] k1 (fun kq v15 v66 w' => ∃ (x15_2 : List (List Int)) (x66_2 : Int), v66 = .int .i64 x66_2 ∧ Aside0 (flow_run.l3 kq x7_1 x15_2 l0_2 (l0_2.length : Int) x66_2 = some r) ∧ Aside0 (kq ≤ k1) ∧ Aside0 (Kd.N (Kd.slice 5 (Kd.int .u8)) 45 w' w.heap.size (fun k_ => (P1_ k_ ∨ w.heap.size ≤ k_) ∧ some k_ ≠ (v15 : Value).ownBlock ∧ k_ ≠ gb324) u7 x7_1) ∧ Aside0 (Kd.S (Kd.slice 5 (Kd.int .u8)) 45 w' w.heap.size (fun k_ => some k_ ≠ (u7 : Value).ownBlock ∧ k_ ≠ gb324) v15 x15_2) ∧ Aside0 (w'.heap[gb324]? = some (.cells #[(.slice A0_0 l0_0.length c0_0), (.slice A0_1 l0_1.length c0_1), (.slice A0_2 l0_2.length c0_2)] 25 (0, 0))) ∧ Aside0 (Below w.heap.size w w'))
    case atStart => exact ⟨(([] : List (List Int))), (0), (by first | rfl | (simp; done) | (simp [*]; done)), H', ⟨Nat.le_refl _⟩, ⟨by (with_reducible repeat (first | apply Kd.N_alloc | apply Kd.N_drewN | apply Kd.N_drew)); exact Kd.N_mono HO_7.out (fun _ hk => ⟨hk.1, ⟨(by simp [Value.ownBlock]), hk.2⟩⟩)⟩, ⟨by first | exact Kd.S_nil _ _ _ _ _ | exact Kd.N_nil _ _ _ _ _ | exact Kd.V_nil _ _ _ _ _ | exact Kd.Q_nil _ _ _ _ _ | exact Kd.R_nil _ _ _ _ _⟩, ⟨bk⟩, ⟨bl⟩⟩
    case round =>
     clear H'
     (try clear c1); (try clear c2); (try clear p2); (try clear c3); (try clear p3); (try clear q3); (try clear hx3); (try clear hf3); (try clear c4); (try clear c5); (try clear p6); (try clear c8); (try clear c8b0); (try clear c9); (try clear c9b0); (try clear c10); (try clear c10b0); (try clear c11); (try clear c11b0); (try clear c11b1); (try clear c12); (try clear c12b0); (try clear c12b1); (try clear c15); (try clear c15b0); (try clear c16); (try clear c16b0); (try clear c17); (try clear c17b0); (try clear c18); (try clear c18b0); (try clear c19); (try clear c19b0); (try clear c22); (try clear c29); (try clear c29b0); (try clear c30); (try clear c30b0); (try clear c31); (try clear c31b0); (try clear c32); (try clear c32b0); (try clear p32); (try clear q32); (try clear hx32); (try clear c33); (try clear p33); (try clear q33); (try clear hx33); (try clear hf33); (try clear p34); (try clear q34); (try clear hx34); (try clear c37); (try clear hcz23_0 hcz23_1 hfz23_0 hfz23_1); (try clear hcz40_0 hcz40_1 hcz40_2 hfz40_0 hfz40_1 hfz40_2); (try clear hcz7_0 hcz7_1 hcz7_2 hfz7_0 hfz7_1 hfz7_2); (try clear hx328_0); (try clear hx335_0); (try clear hx335_1); (try clear hx337_0); (try clear hx33_0); (try clear hx341_0); (try clear hx342_0); (try clear p328); (try clear p335); (try clear p337); (try clear p341); (try clear p342); (try clear q328); (try clear q335); (try clear q337); (try clear q341); (try clear q342)
     obtain ⟨x15_2, x66_2, rfl, HA, HK2, HO_7, HO_15, BK324, HB⟩ := hrel
     cases gk with
     | zero => exact absurd HA.out (by simp [flow_run.l3])
     | succ k2 =>
      have H := HA.out
      clear HA
      simp only [flow_run.l3] at H
      by_cases c41 : x66_2 < (l0_2.length : Int)
      ·rw [if_pos c41] at H
       have c41b0 : decide (x66_2 < (l0_2.length : Int)) = true := decide_eq_true c41
       clear c41
       by_cases c42 : 0 ≤ x66_2
       ·rw [if_pos c42] at H
        have c42b0 : decide (0 ≤ x66_2) = true := decide_eq_true c42
        clear c42
        by_cases c43 : x66_2 < (l0_2.length : Int)
        ·rw [if_pos c43] at H
         have c43b0 : decide (x66_2 < (l0_2.length : Int)) = true := decide_eq_true c43
         clear c43
         by_cases c44 : 0 ≤ (rd l0_2 x66_2)
         ·rw [if_pos c44] at H
          have c44b0 : decide (0 ≤ (rd l0_2 x66_2)) = true := decide_eq_true c44
          clear c44
          by_cases c45 : (rd l0_2 x66_2) < (x7_1.length : Int)
          ·rw [if_pos c45] at H
           have c45b0 : decide ((rd l0_2 x66_2) < (x7_1.length : Int)) = true := decide_eq_true c45
           clear c45
           replace H := Option.bind_eq_some_iff.mp H
           obtain ⟨t346, A460, H⟩ := H
           replace H : (if x15_2.length < 5864062014805 then (flow_run.l3 k2 x7_1 (x15_2 ++ [t346]) l0_2 (l0_2.length : Int) (wrap64 (x66_2 + 1))) else (none)) = some r := H
           have A46 := Aside0.mk A460
           clear A460
           by_cases c47 : x15_2.length < 5864062014805
           ·rw [if_pos c47] at H
            have LMc47 := Aside0.mk c47
            clear c47
            obtain ⟨y349, hy349⟩ : ∃ y_ : List (List Int), y_ = (x15_2 ++ [t346]) := ⟨_, rfl⟩
            replace H : (flow_run.l3 k2 x7_1 y349 l0_2 (l0_2.length : Int) (wrap64 (x66_2 + 1))) = some r := by first | (rw [hy349]; with_reducible exact H) | (have H2_ := (Option.bind_some _ _).symm.trans H; rw [hy349]; with_reducible exact H2_) | (have H2_ := (Option.bind_some _ _).symm.trans H; with_reducible exact H2_) | with_reducible exact H | (rw [hy349]; exact H) | exact H
            have Ny349 := Aside0.mk hy349
            clear hy349
            have H' := Aside0.mk H
            clear H
            have p344 : 0 ≤ (x66_2 : Int) := dt
            have q344 : x66_2 < (l0_2.length : Int) := dt
            obtain ⟨ad344, e344, hx344_0⟩ := Kd.at_int HR0_2.out x66_2 p344 q344
            cases e344
            replace hx344_0 := cx HB hx344_0
            replace p344 := eq_true p344
            replace q344 := eq_true q344
            obtain ⟨Ao48, co48, eo48⟩ := Kd.N_slice HO_7.out
            subst eo48
            have p345 : 0 ≤ ((rd l0_2 x66_2) : Int) := dt
            have q345 : (rd l0_2 x66_2) < (x7_1.length : Int) := dt
            obtain ⟨ad345, A345_0, c345_0, e345, hx345_0, hl345_0, hi345_0⟩ := at_L9 (Kd.N_reads' HO_7.out).2.2 (rd l0_2 x66_2) p345 q345
            cases e345
            obtain ⟨ce345, hce345, hMe345, hcc345⟩ := Kd.N_get HO_7.out [] (rd l0_2 x66_2) p345 (by first | exact q345 | exact dt | (have e_ := (Kd.N_reads' HO_7.out).1; omega))
            obtain ⟨ua345_0, uc345_0, rfl, ul345_0, ge345_0⟩ := Kd.FK_slice_open hMe345
            have hv345_0 := hcc345 0 _ rfl
            rw [Nat.add_zero, show ((Kd.slice 5 (Kd.int .u8))).sz = 1 from rfl, Nat.mul_one] at hv345_0
            replace hv345_0 := Option.some.inj (hv345_0.symm.trans hx345_0)
            injection hv345_0 with hva_ hvn_ hvc_
            rw [hva_] at ge345_0
            rw [hvc_] at ul345_0
            have HL345_0 := Aside0.mk (show Kd.V (Kd.int .u8) 5 _ w.heap.size _ _ (rd_L9 x7_1 (rd l0_2 x66_2)) from Kd.V_mk ul345_0 ge345_0)
            clear hva_ hvn_ hvc_ ge345_0 ul345_0
            clear hcc345 hce345
            have HR345_0 := Aside0.mk hi345_0
            have HC345_0 := Aside0.mk hl345_0
            clear hi345_0 hl345_0
            replace p345 := eq_true p345
            replace q345 := eq_true q345
            go_wp2_with (first | ((with_reducible refine gate_callee (f := 51) rfl ?_); refine goesL_ (some 75) rfl rfl Try.func51 (by kernel_rfl) rfl #[.slice A345_0 (rd_L9 x7_1 (rd l0_2 x66_2)).length c345_0] rfl (by (try simp only [List.map_toArray, List.map_cons, List.map_nil]); first | done | rfl | (simp only [List.length_drop, List.length_take]; rfl)) ?_; (with_reducible refine (slices_Clone_byte_byte_51.calls _ _ (rd_L9 x7_1 (rd l0_2 x66_2)) t346 _ ?side1 ?side2 A46.out).mono ?_); (case side1 => repeat (first | exact (by repeat (first | (with_reducible exact HR345_0.out) | (with_reducible refine Kd.C_alloc ?_ _) | (with_reducible refine Kd.C_drewN ?_ _) | (with_reducible refine Kd.C_drew ?_) | exact HR345_0.out)) | (with_reducible refine Kd.C_alloc ?_ _) | (with_reducible refine Kd.C_drewN ?_ _) | (with_reducible refine Kd.C_drew ?_))); (case side2 => exact HC345_0.out); rintro e w49 ⟨v347, rfl, ho0, hb⟩; refine ⟨_, rfl, ?_⟩; have n0_ := Aside0.mk (Kd.N_elder' (kN HO_7) (Kd.R_base ho0) hb); have n1_ := Aside0.mk (Kd.S_elder' (kS HO_15) (Kd.R_base ho0) hb); have n2_ := Aside0.mk (Kd.V_elder' (kV HL345_0) (Kd.R_base ho0) hb); have n3_ := Aside0.mk (Kd.R_lower (Kd.R_newM (M := fun k_ => (w.heap.size ≤ k_)) ho0 (below_size bl) (fun k_ h_ => h_)) (below_size bl)); have n4_ := Aside0.mk (blk_below (g := gb324) (o := .cells #[.slice A0_0 l0_0.length c0_0, .slice A0_1 l0_1.length c0_1, .slice (some ad344) l0_2.length c0_2] 25 (0, 0)) bk hb); have n5_ := Aside0.mk (Kd.C_below (by repeat (first | (with_reducible exact HR345_0.out) | (with_reducible refine Kd.C_alloc ?_ _) | (with_reducible refine Kd.C_drewN ?_ _) | (with_reducible refine Kd.C_drew ?_) | exact HR345_0.out)) hb); have n6_ := Aside0.mk (below_step bl hb); clear HO_7; clear HO_15; clear HL345_0; clear BK324; clear HR345_0; clear HB; have HO_7 := n0_; have HO_15 := n1_; have HL345_0 := n2_; have HO348 := n3_; have BK324 := n4_; have HR345_0 := n5_; have HB := n6_; clear n0_ n1_ n2_ n3_ n4_ n5_ n6_; (try clear hb); (try clear hb2); (try clear hk); (try clear hi); (try clear ho0); obtain ⟨Ao51, co51, eo51⟩ := Kd.R_slice HO348.out; subst eo51) | ((with_reducible refine gate_builtin (b := .append) (xs := #[.tmp 70, .tmp 76]) rfl ?_); at_builtin; refine Kd.S_append (Kd.slice 5 (Kd.int .u8)) (w0 := w) w.heap.size rfl (.tmp 70) (.tmp 76) 38 45 (.slice none 0 0) 24 rfl Try.underlying38 info45 rfl (by decide) (by omega) u15 x15_2 t346 [.slice Ao51 t346.length co51] (fun k_ => some k_ ≠ (.slice (some ad345) x7_1.length co48 : Value).ownBlock ∧ k_ ≠ gb324) (fun k_ => some k_ = (.slice Ao51 t346.length co51 : Value).ownBlock) rfl rfl ?aP (fun k_ hk_ => (Kd.R_mono (ok' := fun k_ => (fun k_ => some k_ ≠ (.slice (some ad345) x7_1.length co48 : Value).ownBlock ∧ k_ ≠ gb324) k_ ∧ some k_ ≠ (u15 : Value).ownBlock) (Kd.R_types (Kd.R_apart' (Kd.R_apart' (HO348.out) (Kd.N_typed HO_7.out) (by decide)) (Kd.S_typed HO_15.out) (by decide)) BK324.out (by decide)) (fun k_ hk => ⟨⟨hk.1.1.2, hk.2⟩, hk.1.2⟩)).1 k_ hk_.symm) ?aF ?aO ?aB ?aS ?aL ?_; (case aP => exact Kd.M_row (Kd.R_mono (Kd.R_tight rfl (Kd.R_mono (ok' := fun k_ => (fun k_ => some k_ ≠ (.slice (some ad345) x7_1.length co48 : Value).ownBlock ∧ k_ ≠ gb324) k_ ∧ some k_ ≠ (u15 : Value).ownBlock) (Kd.R_types (Kd.R_apart' (Kd.R_apart' (HO348.out) (Kd.N_typed HO_7.out) (by decide)) (Kd.S_typed HO_15.out) (by decide)) BK324.out (by decide)) (fun k_ hk => ⟨⟨hk.1.1.2, hk.2⟩, hk.1.2⟩))) (fun _ h_ => h_))); (case aB => exact bl); (case aF => exact (fun k_ hk => ⟨Kd.fresh' (Kd.N_lt (kN HO_7)) k_ hk, Kd.freshB (g := gb324) (o := .cells #[.slice A0_0 l0_0.length c0_0, .slice A0_1 l0_1.length c0_1, .slice (some ad344) l0_2.length c0_2] 25 (0, 0)) bk k_ hk⟩)); (case aO => exact (by (with_reducible repeat (first | apply Kd.S_alloc | apply Kd.S_drewN | apply Kd.S_drew)); exact Kd.S_mono HO_15.out (fun k_ hk => ⟨hk.1, fun e_ => hk.2 e_⟩))); (case aS => exact (below_size bl)); (case aL => have := LMc47.out; omega); intro v350 w50 ho hb hg hat; rw [← Ny349.out] at ho; have n0_ := Aside0.mk (Kd.N_afterv (ok := (fun k_ => (P1_ k_ ∨ w.heap.size ≤ k_) ∧ some k_ ≠ (.slice Ao51 t346.length co51 : Value).ownBlock ∧ k_ ≠ gb324)) (by (with_reducible repeat (first | apply Kd.N_alloc | apply Kd.N_drewN | apply Kd.N_drew)); exact Kd.N_mono HO_7.out (fun _ hk => ⟨⟨hk.1.1, ⟨hk.2, hk.1.2.2⟩⟩, hk.1.2.1⟩)) hg hat); have n1_ := Aside0.mk (blk_grown (g := gb324) (o := .cells #[.slice A0_0 l0_0.length c0_0, .slice A0_1 l0_1.length c0_1, .slice (some ad344) l0_2.length c0_2] 25 (0, 0)) bk hg (Kd.R_ne (Kd.S_R HO_15.out) BK324.out (by decide))); have n2_ := Aside0.mk (Kd.V_afterv (ok := (fun k_ => (P1_ k_ ∨ w.heap.size ≤ k_) ∧ some k_ ≠ (.slice (some ad345) x7_1.length co48 : Value).ownBlock ∧ some k_ ≠ (.slice Ao51 t346.length co51 : Value).ownBlock ∧ k_ ≠ gb324)) (by (with_reducible repeat (first | apply Kd.V_alloc | apply Kd.V_drewN | apply Kd.V_drew)); exact Kd.V_mono HL345_0.out (fun _ hk => ⟨⟨hk.1.1.1, ⟨hk.1.2, ⟨hk.2, hk.1.1.2.2⟩⟩⟩, hk.1.1.2.1⟩)) hg hat); have n3_ := Aside0.mk (hb); have n4_ := Aside0.mk (ho); clear HO_7; clear BK324; clear HL345_0; clear HB; clear HO_15; clear HO348; have HO_7 := n0_; have BK324 := n1_; have HL345_0 := n2_; have HB := n3_; have HO351 := n4_; clear n0_ n1_ n2_ n3_ n4_; clear ho hb hg hat))
            go_roundg k2
            case measure => have := HK1.out; have := HK2.out; omega
            case rel => exact ⟨(y349), (wrap64 (x66_2 + 1)), (by first | rfl | (simp; done) | (simp [*]; done)), H', ⟨by have := HK1.out; have := HK2.out; omega⟩, ⟨by (with_reducible repeat (first | apply Kd.N_alloc | apply Kd.N_drewN | apply Kd.N_drew)); exact Kd.N_mono HO_7.out (fun _ hk => ⟨hk.1.1, ⟨hk.2, hk.1.2.2⟩⟩)⟩, ⟨kS HO351⟩, ⟨bk⟩, ⟨bl⟩⟩
           ·rw [if_neg c47] at H
            exact absurd H (by simp)
          ·rw [if_neg c45] at H
           exact absurd H (by simp)
         ·rw [if_neg c44] at H
          exact absurd H (by simp)
        ·rw [if_neg c43] at H
         exact absurd H (by simp)
       ·rw [if_neg c42] at H
        exact absurd H (by simp)
      ·rw [if_neg c41] at H
       have c41b0 : decide (x66_2 < (l0_2.length : Int)) = false := decide_eq_false c41
       clear c41
       obtain rfl := Option.some.inj H
       go_wp2
       go_ret
       exact ⟨_, by first | rfl | (simp [errW_none, errW_some] <;> rfl) | (simp [*, errW_none, errW_some] <;> rfl), by (with_reducible repeat (first | apply Kd.S_alloc | apply Kd.S_drewN | apply Kd.S_drew)); exact Kd.S_mono HO_15.out (fun _ _ => trivial), bl⟩


set_option maxHeartbeats 8000000 in
set_option maxRecDepth 100000 in
theorem flow_Run_S (k : Nat) (A0_0 : Option Addr) (c0_0 : Nat) (l0_0 : List Int) (A0_1 : Option Addr) (c0_1 : Nat) (l0_1 : List (List (S64))) (A0_2 : Option Addr) (c0_2 : Nat) (l0_2 : List Int) (P1_ : Nat → Prop) (A1 : Option Addr) (c1 : Nat) (l1 : List (List Int)) (r1 : List (List Int)) (r2 : Int) (w : World) (hr0_0 : Kd.C (Kd.int .i64) w A0_0 l0_0.length l0_0) (hc0_0 : l0_0.length ≤ c0_0) (hr0_1 : Kd.C (Kd.slice 64 k64) w A0_1 l0_1.length l0_1) (hc0_1 : l0_1.length ≤ c0_1) (hr0_2 : Kd.C (Kd.int .i64) w A0_2 l0_2.length l0_2) (hc0_2 : l0_2.length ≤ c0_2) (hs1 : Kd.V (Kd.slice 5 (Kd.int .u8)) 45 w w.heap.size (fun k_ => P1_ k_) (.slice A1 l1.length c1) l1) (h : flow_Run.f k l0_0 l0_1 l0_2 l1 = some (r1, r2)) :
  Calls Try.prog 20 #[.agg #[.slice A0_0 l0_0.length c0_0, .slice A0_1 l0_1.length c0_1, .slice A0_2 l0_2.length c0_2], .slice A1 l1.length c1] w fun e w' => ∃ v0_ : Value, e = .returned (.tuple #[v0_, .int .i64 r2]) ∧ Kd.S (Kd.slice 5 (Kd.int .u8)) 45 w' w.heap.size (fun _ => True) v0_ r1 ∧ Below w.heap.size w w' := by
 have hu25 := Try.underlying25
 have HR0_0 := Aside0.mk hr0_0
 have HC0_0 := Aside0.mk hc0_0
 clear hr0_0 hc0_0
 have HR0_1 := Aside0.mk hr0_1
 have HC0_1 := Aside0.mk hc0_1
 clear hr0_1 hc0_1
 have HR0_2 := Aside0.mk hr0_2
 have HC0_2 := Aside0.mk hc0_2
 clear hr0_2 hc0_2
 have HO1 := Aside0.mk (show Kd.V (Kd.slice 5 (Kd.int .u8)) 45 w w.heap.size (fun k_ => (P1_ k_ ∨ w.heap.size ≤ k_)) (.slice A1 l1.length c1) l1 from Kd.V_mono hs1 (fun k_ hk => .inl hk))
 have HB := Aside0.mk (Below.refl w.heap.size w)
 have H : ((flow_May.f k l0_0 l0_1 l0_2).bind fun t353 => (if t353 = true then (flow_Run.l0 k l1 0 l1 (l1.length : Int) 0 l0_0 l0_1 l0_2) else (some (([] : List (List Int)), 2)))) = some (r1, r2) := h
 clear h
 replace H := Option.bind_eq_some_iff.mp H
 obtain ⟨t353, A30, H⟩ := H
 replace H : (if t353 = true then (flow_Run.l0 k l1 0 l1 (l1.length : Int) 0 l0_0 l0_1 l0_2) else (some (([] : List (List Int)), 2))) = some (r1, r2) := H
 have A3 := Aside0.mk A30
 clear A30
 by_cases c4 : t353 = true
 ·subst c4
  have H1 : (flow_Run.l0 k l1 0 l1 (l1.length : Int) 0 l0_0 l0_1 l0_2) = some (r1, r2) := by rw [if_pos rfl] at H; exact H
  clear H
  have H := H1
  clear H1
  have H' := Aside0.mk H
  clear H
  go_enter Try.func20, Try.ntmps20
  go_wp2_with (first | ((with_reducible refine gate_dst (N := 2) rfl ?_); refine box_event ?hg (N := 2) ?hd (cs := #[.slice A0_0 l0_0.length c0_0, .slice A0_1 l0_1.length c0_1, .slice A0_2 l0_2.length c0_2]) (t := 25) ?hr ?_; (case hd => rfl); (case hg => rfl); (case hr => first | (go_simp; done) | (go_simp; rfl)); intro gb352 hg w5 hbox hb; have n0_ := Aside0.mk (Kd.V_below (Kd.V_elderB (kV HO1) gb352 (Nat.le_of_eq hg.symm)) hb); have n1_ := Aside0.mk (below_step bl hb); have n2_ := Aside0.mk (hbox); have n3_ := Aside0.mk ((sz hg)); have n4_ := Aside0.mk ((sz hg)); clear HO1; clear HB; have HO1 := n0_; have HB := n1_; have BK352 := n2_; have GW352 := n3_; have GE352 := n4_; clear n0_ n1_ n2_ n3_ n4_; clear hb hbox hg; obtain ⟨⟨hcz6_0, hcz6_1, hcz6_2⟩, hfz6_0, hfz6_1, hfz6_2⟩ := b3 BK352.out) | ((with_reducible refine gate_callee (f := 11) rfl ?_); refine goesL_ (some 13) rfl rfl Try.func11 (by kernel_rfl) rfl #[.agg #[.slice A0_0 l0_0.length c0_0, .slice A0_1 l0_1.length c0_1, .slice A0_2 l0_2.length c0_2]] rfl (by (try simp only [List.map_toArray, List.map_cons, List.map_nil]); first | done | rfl | (simp only [List.length_drop, List.length_take]; rfl)) ?_; (with_reducible refine (flow_May.calls k _ _ l0_0 _ _ l0_1 _ _ l0_2 true _ ?side1 ?side2 ?side3 ?side4 ?side5 ?side6 A3.out).mono ?_); (case side1 => repeat (first | exact (Kd.C_below HR0_0.out HB.out) | (with_reducible refine Kd.C_alloc ?_ _) | (with_reducible refine Kd.C_drewN ?_ _) | (with_reducible refine Kd.C_drew ?_))); (case side2 => exact HC0_0.out); (case side3 => repeat (first | exact (Kd.C_below HR0_1.out HB.out) | (with_reducible refine Kd.C_alloc ?_ _) | (with_reducible refine Kd.C_drewN ?_ _) | (with_reducible refine Kd.C_drew ?_))); (case side4 => exact HC0_1.out); (case side5 => repeat (first | exact (Kd.C_below HR0_2.out HB.out) | (with_reducible refine Kd.C_alloc ?_ _) | (with_reducible refine Kd.C_drewN ?_ _) | (with_reducible refine Kd.C_drew ?_))); (case side6 => exact HC0_2.out); rintro e w7 ⟨rfl, hb⟩; refine ⟨_, rfl, ?_⟩; have n0_ := Aside0.mk (Kd.V_below (kV HO1) hb); have n1_ := Aside0.mk (blk_below (g := gb352) (o := .cells #[.slice A0_0 l0_0.length c0_0, .slice A0_1 l0_1.length c0_1, .slice A0_2 l0_2.length c0_2] 25 (0, 0)) bk hb); have n2_ := Aside0.mk (below_step bl hb); clear HO1; clear BK352; clear HB; have HO1 := n0_; have BK352 := n1_; have HB := n2_; clear n0_ n1_ n2_; (try clear hb); (try clear hb2); (try clear hk); (try clear hi)))
  go_loopg [6, 17] k (fun kq v6 v17 w' => ∃ (x6_1 : Int) (x17_1 : Int), v6 = .int .i64 x6_1 ∧ v17 = .int .i64 x17_1 ∧ Aside0 (flow_Run.l0 kq l1 x6_1 l1 (l1.length : Int) x17_1 l0_0 l0_1 l0_2 = some (r1, r2)) ∧ Aside0 (kq ≤ k) ∧ Aside0 (Kd.V (Kd.slice 5 (Kd.int .u8)) 45 w' w.heap.size (fun k_ => (P1_ k_ ∨ w.heap.size ≤ k_) ∧ k_ ≠ gb352) (.slice A1 l1.length c1) l1) ∧ Aside0 (Kd.V (Kd.slice 5 (Kd.int .u8)) 45 w' w.heap.size (fun k_ => (P1_ k_ ∨ w.heap.size ≤ k_) ∧ k_ ≠ gb352) (.slice A1 l1.length c1) l1) ∧ Aside0 (w'.heap[gb352]? = some (.cells #[(.slice A0_0 l0_0.length c0_0), (.slice A0_1 l0_1.length c0_1), (.slice A0_2 l0_2.length c0_2)] 25 (0, 0))) ∧ Aside0 (Below w.heap.size w w'))
  case atStart => exact ⟨(0), (0), (by first | rfl | (simp; done) | (simp [*]; done)), (by first | rfl | (simp; done) | (simp [*]; done)), H', ⟨Nat.le_refl _⟩, ⟨kV HO1⟩, ⟨kV HO1⟩, ⟨bk⟩, ⟨bl⟩⟩
  case round =>
   clear H'
   (try clear c1); (try clear c2); (try clear p2); (try clear c4); (try clear hcz6_0 hcz6_1 hcz6_2 hfz6_0 hfz6_1 hfz6_2)
   obtain ⟨x6_1, x17_1, rfl, rfl, HA, HK1, HO_1, HO_15, BK352, HB⟩ := hrel
   cases gk with
   | zero => exact absurd HA.out (by simp [flow_Run.l0])
   | succ k1 =>
    have H := HA.out
    clear HA
    simp only [flow_Run.l0] at H
    by_cases c8 : x17_1 < (l1.length : Int)
    ·rw [if_pos c8] at H
     have c8b0 : decide (x17_1 < (l1.length : Int)) = true := decide_eq_true c8
     clear c8
     by_cases c9 : 0 ≤ x17_1
     ·rw [if_pos c9] at H
      have c9b0 : decide (0 ≤ x17_1) = true := decide_eq_true c9
      clear c9
      by_cases c10 : x17_1 < (l1.length : Int)
      ·rw [if_pos c10] at H
       have c10b0 : decide (x17_1 < (l1.length : Int)) = true := decide_eq_true c10
       clear c10
       by_cases c11 : x17_1 = 0
       ·rw [if_pos c11] at H
        have c11b0 : (x17_1 == 0) = true := beq_iff_eq.mpr c11
        have c11b1 : (x17_1 != 0) = false := bne_eq_false_iff_eq.mpr c11
        clear c11
        by_cases c12 : ((rd_L9 l1 x17_1).length : Int) = ((rd_L9 l1 x17_1).length : Int)
        ·first | rw [if_pos c12] at H | rw [if_pos True.intro] at H
         have c12b0 : (((rd_L9 l1 x17_1).length : Int) == ((rd_L9 l1 x17_1).length : Int)) = true := beq_iff_eq.mpr c12
         have c12b1 : (((rd_L9 l1 x17_1).length : Int) != ((rd_L9 l1 x17_1).length : Int)) = false := bne_eq_false_iff_eq.mpr c12
         have c12b2 : ((rd_L9 l1 x17_1).length == (rd_L9 l1 x17_1).length) = true := by simp
         clear c12
         have H' := Aside0.mk H
         clear H
         have p354 : 0 ≤ (x17_1 : Int) := dt
         have q354 : x17_1 < (l1.length : Int) := dt
         obtain ⟨ad354, A354_0, c354_0, e354, hx354_0, hl354_0, hi354_0⟩ := at_L9 (Kd.V_reads' HO_15.out).2.2 x17_1 p354 q354
         cases e354
         obtain ⟨ce354, hce354, hMe354, hcc354⟩ := Kd.V_get HO_15.out [] x17_1 p354 (by first | exact q354 | exact dt | (have e_ := (Kd.V_reads' HO_15.out).1; omega))
         obtain ⟨ua354_0, uc354_0, rfl, ul354_0, ge354_0⟩ := Kd.FK_slice_open hMe354
         have hv354_0 := hcc354 0 _ rfl
         rw [Nat.add_zero, show ((Kd.slice 5 (Kd.int .u8))).sz = 1 from rfl, Nat.mul_one] at hv354_0
         replace hv354_0 := Option.some.inj (hv354_0.symm.trans hx354_0)
         injection hv354_0 with hva_ hvn_ hvc_
         rw [hva_] at ge354_0
         rw [hvc_] at ul354_0
         have HL354_0 := Aside0.mk (show Kd.V (Kd.int .u8) 5 _ w.heap.size _ _ (rd_L9 l1 x17_1) from Kd.V_mk ul354_0 ge354_0)
         clear hva_ hvn_ hvc_ ge354_0 ul354_0
         clear hcc354 hce354
         have HR354_0 := Aside0.mk hi354_0
         have HC354_0 := Aside0.mk hl354_0
         clear hi354_0 hl354_0
         replace p354 := eq_true p354
         replace q354 := eq_true q354
         go_wp2
         go_roundg k1
         case measure => have := HK1.out; omega
         case rel => exact ⟨(((rd_L9 l1 x17_1).length : Int)), (wrap64 (x17_1 + 1)), (by first | rfl | (simp; done) | (simp [*]; done)), (by first | rfl | (simp; done) | (simp [*]; done)), H', ⟨by have := HK1.out; omega⟩, ⟨kV HO_1⟩, ⟨kV HO_15⟩, ⟨bk⟩, ⟨bl⟩⟩
        ·exact absurd rfl c12
       ·rw [if_neg c11] at H
        have c11b0 : (x17_1 == 0) = false := beq_eq_false_iff_ne.mpr c11
        have c11b1 : (x17_1 != 0) = true := bne_iff_ne.mpr c11
        by_cases c13 : ((rd_L9 l1 x17_1).length : Int) = x6_1
        ·rw [if_pos c13] at H
         have c13b0 : (((rd_L9 l1 x17_1).length : Int) == x6_1) = true := beq_iff_eq.mpr c13
         have c13b1 : (((rd_L9 l1 x17_1).length : Int) != x6_1) = false := bne_eq_false_iff_eq.mpr c13
         clear c13
         have H' := Aside0.mk H
         clear H
         have p354 : 0 ≤ (x17_1 : Int) := dt
         have q354 : x17_1 < (l1.length : Int) := dt
         obtain ⟨ad354, A354_0, c354_0, e354, hx354_0, hl354_0, hi354_0⟩ := at_L9 (Kd.V_reads' HO_15.out).2.2 x17_1 p354 q354
         cases e354
         obtain ⟨ce354, hce354, hMe354, hcc354⟩ := Kd.V_get HO_15.out [] x17_1 p354 (by first | exact q354 | exact dt | (have e_ := (Kd.V_reads' HO_15.out).1; omega))
         obtain ⟨ua354_0, uc354_0, rfl, ul354_0, ge354_0⟩ := Kd.FK_slice_open hMe354
         have hv354_0 := hcc354 0 _ rfl
         rw [Nat.add_zero, show ((Kd.slice 5 (Kd.int .u8))).sz = 1 from rfl, Nat.mul_one] at hv354_0
         replace hv354_0 := Option.some.inj (hv354_0.symm.trans hx354_0)
         injection hv354_0 with hva_ hvn_ hvc_
         rw [hva_] at ge354_0
         rw [hvc_] at ul354_0
         have HL354_0 := Aside0.mk (show Kd.V (Kd.int .u8) 5 _ w.heap.size _ _ (rd_L9 l1 x17_1) from Kd.V_mk ul354_0 ge354_0)
         clear hva_ hvn_ hvc_ ge354_0 ul354_0
         clear hcc354 hce354
         have HR354_0 := Aside0.mk hi354_0
         have HC354_0 := Aside0.mk hl354_0
         clear hi354_0 hl354_0
         replace p354 := eq_true p354
         replace q354 := eq_true q354
         go_wp2
         go_roundg k1
         case measure => have := HK1.out; omega
         case rel => exact ⟨(x6_1), (wrap64 (x17_1 + 1)), (by first | rfl | (simp; done) | (simp [*]; done)), (by first | rfl | (simp; done) | (simp [*]; done)), H', ⟨by have := HK1.out; omega⟩, ⟨kV HO_1⟩, ⟨kV HO_15⟩, ⟨bk⟩, ⟨bl⟩⟩
        ·rw [if_neg c13] at H
         have c13b0 : (((rd_L9 l1 x17_1).length : Int) == x6_1) = false := beq_eq_false_iff_ne.mpr c13
         have c13b1 : (((rd_L9 l1 x17_1).length : Int) != x6_1) = true := bne_iff_ne.mpr c13
         simp only [Option.some.injEq, Prod.mk.injEq] at H
         obtain ⟨rfl, rfl⟩ := H
         have p354 : 0 ≤ (x17_1 : Int) := dt
         have q354 : x17_1 < (l1.length : Int) := dt
         obtain ⟨ad354, A354_0, c354_0, e354, hx354_0, hl354_0, hi354_0⟩ := at_L9 (Kd.V_reads' HO_15.out).2.2 x17_1 p354 q354
         cases e354
         obtain ⟨ce354, hce354, hMe354, hcc354⟩ := Kd.V_get HO_15.out [] x17_1 p354 (by first | exact q354 | exact dt | (have e_ := (Kd.V_reads' HO_15.out).1; omega))
         obtain ⟨ua354_0, uc354_0, rfl, ul354_0, ge354_0⟩ := Kd.FK_slice_open hMe354
         have hv354_0 := hcc354 0 _ rfl
         rw [Nat.add_zero, show ((Kd.slice 5 (Kd.int .u8))).sz = 1 from rfl, Nat.mul_one] at hv354_0
         replace hv354_0 := Option.some.inj (hv354_0.symm.trans hx354_0)
         injection hv354_0 with hva_ hvn_ hvc_
         rw [hva_] at ge354_0
         rw [hvc_] at ul354_0
         have HL354_0 := Aside0.mk (show Kd.V (Kd.int .u8) 5 _ w.heap.size _ _ (rd_L9 l1 x17_1) from Kd.V_mk ul354_0 ge354_0)
         clear hva_ hvn_ hvc_ ge354_0 ul354_0
         clear hcc354 hce354
         have HR354_0 := Aside0.mk hi354_0
         have HC354_0 := Aside0.mk hl354_0
         clear hi354_0 hl354_0
         replace p354 := eq_true p354
         replace q354 := eq_true q354
         go_wp2
         go_ret2
         exact ⟨_, by first | rfl | (simp [errW_none, errW_some] <;> rfl) | (simp [*, errW_none, errW_some] <;> rfl), by first | exact Kd.S_nil _ _ _ _ _ | exact Kd.N_nil _ _ _ _ _ | exact Kd.V_nil _ _ _ _ _ | exact Kd.Q_nil _ _ _ _ _ | exact Kd.R_nil _ _ _ _ _, bl⟩
      ·rw [if_neg c10] at H
       exact absurd H (by simp)
     ·rw [if_neg c9] at H
      exact absurd H (by simp)
    ·rw [if_neg c8] at H
     have c8b0 : decide (x17_1 < (l1.length : Int)) = false := decide_eq_false c8
     clear c8
     have H' := Aside0.mk H
     clear H
     obtain ⟨⟨hcz14_0, hcz14_1, hcz14_2⟩, hfz14_0, hfz14_1, hfz14_2⟩ := b3 BK352.out
     go_wp2
     go_loopg [9, 34] k1 (fun kq v9 v34 w' => ∃ (x9_2 : List (List Int)) (x34_2 : Int), v34 = .int .i64 x34_2 ∧ Aside0 (flow_Run.l1 kq l1 x6_1 x9_2 l0_0 (l0_0.length : Int) x34_2 l0_0 l0_1 l0_2 = some (r1, r2)) ∧ Aside0 (kq ≤ k1) ∧ Aside0 (Kd.V (Kd.slice 5 (Kd.int .u8)) 45 w' w.heap.size (fun k_ => (P1_ k_ ∨ w.heap.size ≤ k_) ∧ some k_ ≠ (v9 : Value).ownBlock ∧ k_ ≠ gb352) (.slice A1 l1.length c1) l1) ∧ Aside0 (Kd.N (Kd.slice 5 (Kd.int .u8)) 45 w' w.heap.size (fun k_ => (P1_ k_ ∨ w.heap.size ≤ k_) ∧ k_ ≠ gb352) v9 x9_2) ∧ Aside0 (w'.heap[gb352]? = some (.cells #[(.slice A0_0 l0_0.length c0_0), (.slice A0_1 l0_1.length c0_1), (.slice A0_2 l0_2.length c0_2)] 25 (0, 0))) ∧ Aside0 (Below w.heap.size w w'))
     case atStart => exact ⟨(([] : List (List Int))), (0), (by first | rfl | (simp; done) | (simp [*]; done)), H', ⟨Nat.le_refl _⟩, ⟨by (with_reducible repeat (first | apply Kd.V_alloc | apply Kd.V_drewN | apply Kd.V_drew)); exact Kd.V_mono HO_1.out (fun _ hk => ⟨hk.1, ⟨(by simp [Value.ownBlock]), hk.2⟩⟩)⟩, ⟨by first | exact Kd.S_nil _ _ _ _ _ | exact Kd.N_nil _ _ _ _ _ | exact Kd.V_nil _ _ _ _ _ | exact Kd.Q_nil _ _ _ _ _ | exact Kd.R_nil _ _ _ _ _⟩, ⟨bk⟩, ⟨bl⟩⟩
     case round =>
      clear H'
      (try clear c1); (try clear c2); (try clear p2); (try clear c3); (try clear p3); (try clear q3); (try clear hx3); (try clear c4); (try clear p6); (try clear c8); (try clear c8b0); (try clear c9); (try clear c9b0); (try clear c10); (try clear c10b0); (try clear c11); (try clear c11b0); (try clear c11b1); (try clear c12); (try clear c12b0); (try clear c12b1); (try clear c12b2); (try clear c13); (try clear c13b0); (try clear c13b1); (try clear hcz14_0 hcz14_1 hcz14_2 hfz14_0 hfz14_1 hfz14_2); (try clear hcz6_0 hcz6_1 hcz6_2 hfz6_0 hfz6_1 hfz6_2); (try clear hx354_0); (try clear p354); (try clear q354)
      obtain ⟨x9_2, x34_2, rfl, HA, HK2, HO_1, HO_9, BK352, HB⟩ := hrel
      cases gk with
      | zero => exact absurd HA.out (by simp [flow_Run.l1])
      | succ k2 =>
       have H := HA.out
       clear HA
       simp only [flow_Run.l1] at H
       by_cases c15 : x34_2 < (l0_0.length : Int)
       ·rw [if_pos c15] at H
        have c15b0 : decide (x34_2 < (l0_0.length : Int)) = true := decide_eq_true c15
        clear c15
        by_cases c16 : 0 ≤ x34_2
        ·rw [if_pos c16] at H
         have c16b0 : decide (0 ≤ x34_2) = true := decide_eq_true c16
         clear c16
         by_cases c17 : x34_2 < (l0_0.length : Int)
         ·rw [if_pos c17] at H
          have c17b0 : decide (x34_2 < (l0_0.length : Int)) = true := decide_eq_true c17
          clear c17
          by_cases c18 : (rd l0_0 x34_2) ≥ (l1.length : Int)
          ·rw [if_pos c18] at H
           have c18b0 : decide ((l1.length : Int) ≤ (rd l0_0 x34_2)) = true := decide_eq_true c18
           clear c18
           simp only [Option.some.injEq, Prod.mk.injEq] at H
           obtain ⟨rfl, rfl⟩ := H
           have p355 : 0 ≤ (x34_2 : Int) := dt
           have q355 : x34_2 < (l0_0.length : Int) := dt
           obtain ⟨ad355, e355, hx355_0⟩ := Kd.at_int HR0_0.out x34_2 p355 q355
           cases e355
           replace hx355_0 := cx HB hx355_0
           replace p355 := eq_true p355
           replace q355 := eq_true q355
           go_wp2
           go_ret2
           exact ⟨_, by first | rfl | (simp [errW_none, errW_some] <;> rfl) | (simp [*, errW_none, errW_some] <;> rfl), by first | exact Kd.S_nil _ _ _ _ _ | exact Kd.N_nil _ _ _ _ _ | exact Kd.V_nil _ _ _ _ _ | exact Kd.Q_nil _ _ _ _ _ | exact Kd.R_nil _ _ _ _ _, bl⟩
          ·rw [if_neg c18] at H
           have c18b0 : decide ((l1.length : Int) ≤ (rd l0_0 x34_2)) = false := decide_eq_false c18
           clear c18
           by_cases c19 : 0 ≤ (rd l0_0 x34_2)
           ·rw [if_pos c19] at H
            have c19b0 : decide (0 ≤ (rd l0_0 x34_2)) = true := decide_eq_true c19
            clear c19
            by_cases c20 : (rd l0_0 x34_2) < (l1.length : Int)
            ·rw [if_pos c20] at H
             have c20b0 : decide ((rd l0_0 x34_2) < (l1.length : Int)) = true := decide_eq_true c20
             clear c20
             by_cases c21 : x9_2.length < 5864062014805
             ·rw [if_pos c21] at H
              have LMc21 := Aside0.mk c21
              clear c21
              obtain ⟨y357, hy357⟩ : ∃ y_ : List (List Int), y_ = (x9_2 ++ [rd_L9 l1 (rd l0_0 x34_2)]) := ⟨_, rfl⟩
              replace H : (flow_Run.l1 k2 l1 x6_1 y357 l0_0 (l0_0.length : Int) (wrap64 (x34_2 + 1)) l0_0 l0_1 l0_2) = some (r1, r2) := by first | (rw [hy357]; with_reducible exact H) | (have H2_ := (Option.bind_some _ _).symm.trans H; rw [hy357]; with_reducible exact H2_) | (have H2_ := (Option.bind_some _ _).symm.trans H; with_reducible exact H2_) | with_reducible exact H | (rw [hy357]; exact H) | exact H
              have Ny357 := Aside0.mk hy357
              clear hy357
              have H' := Aside0.mk H
              clear H
              have p355 : 0 ≤ (x34_2 : Int) := dt
              have q355 : x34_2 < (l0_0.length : Int) := dt
              obtain ⟨ad355, e355, hx355_0⟩ := Kd.at_int HR0_0.out x34_2 p355 q355
              cases e355
              replace hx355_0 := cx HB hx355_0
              replace p355 := eq_true p355
              replace q355 := eq_true q355
              have p356 : 0 ≤ ((rd l0_0 x34_2) : Int) := dt
              have q356 : (rd l0_0 x34_2) < (l1.length : Int) := dt
              obtain ⟨ad356, A356_0, c356_0, e356, hx356_0, hl356_0, hi356_0⟩ := at_L9 (Kd.V_reads' HO_1.out).2.2 (rd l0_0 x34_2) p356 q356
              cases e356
              obtain ⟨ce356, hce356, hMe356, hcc356⟩ := Kd.V_get HO_1.out [] (rd l0_0 x34_2) p356 (by first | exact q356 | exact dt | (have e_ := (Kd.V_reads' HO_1.out).1; omega))
              obtain ⟨ua356_0, uc356_0, rfl, ul356_0, ge356_0⟩ := Kd.FK_slice_open hMe356
              have hv356_0 := hcc356 0 _ rfl
              rw [Nat.add_zero, show ((Kd.slice 5 (Kd.int .u8))).sz = 1 from rfl, Nat.mul_one] at hv356_0
              replace hv356_0 := Option.some.inj (hv356_0.symm.trans hx356_0)
              injection hv356_0 with hva_ hvn_ hvc_
              rw [hva_] at ge356_0
              rw [hvc_] at ul356_0
              have HL356_0 := Aside0.mk (show Kd.V (Kd.int .u8) 5 _ w.heap.size _ _ (rd_L9 l1 (rd l0_0 x34_2)) from Kd.V_mk ul356_0 ge356_0)
              clear hva_ hvn_ hvc_ ge356_0 ul356_0
              clear hcc356 hce356
              have HR356_0 := Aside0.mk hi356_0
              have HC356_0 := Aside0.mk hl356_0
              clear hi356_0 hl356_0
              replace p356 := eq_true p356
              replace q356 := eq_true q356
              go_wp2_with (first | ((with_reducible refine gate_builtin (b := .append) (xs := #[.tmp 42, .tmp 47]) rfl ?_); at_builtin; refine Kd.N_append (Kd.slice 5 (Kd.int .u8)) (w0 := w) w.heap.size rfl (.tmp 42) (.tmp 47) 38 45 (.slice none 0 0) 24 rfl Try.underlying38 info45 rfl (by decide) (by omega) u9 x9_2 (rd_L9 l1 (rd l0_0 x34_2)) [.slice A356_0 (rd_L9 l1 (rd l0_0 x34_2)).length c356_0] (fun k_ => (P1_ k_ ∨ w.heap.size ≤ k_) ∧ k_ ≠ gb352) (fun k_ => ((fun k_ => (P1_ k_ ∨ w.heap.size ≤ k_) ∧ k_ ≠ gb352)) k_ ∧ some k_ ≠ (u9 : Value).ownBlock) rfl rfl ?aP (fun _ hk => hk) ?aF ?aO ?aB ?aS ?aL ?_; (case aP => exact (Kd.FK_slice_mk (Kd.V_reads' (Kd.V_mono (ok' := (fun k_ => ((fun k_ => (P1_ k_ ∨ w.heap.size ≤ k_) ∧ k_ ≠ gb352)) k_ ∧ some k_ ≠ (u9 : Value).ownBlock)) (HL356_0.out) (fun k_ hk => ⟨⟨hk.1, hk.2.2⟩, hk.2.1⟩))).2.1 (Kd.V_F (Kd.V_mono (ok' := (fun k_ => ((fun k_ => (P1_ k_ ∨ w.heap.size ≤ k_) ∧ k_ ≠ gb352)) k_ ∧ some k_ ≠ (u9 : Value).ownBlock)) (HL356_0.out) (fun k_ hk => ⟨⟨hk.1, hk.2.2⟩, hk.2.1⟩))))); (case aB => exact bl); (case aF => exact (fun k_ hk => ⟨(.inr (Nat.le_trans (below_size bl) hk)), Kd.freshB (g := gb352) (o := .cells #[.slice (some ad355) l0_0.length c0_0, .slice A0_1 l0_1.length c0_1, .slice A0_2 l0_2.length c0_2] 25 (0, 0)) bk k_ hk⟩)); (case aO => exact (kN HO_9)); (case aS => exact (below_size bl)); (case aL => have := LMc21.out; omega); intro v358 w22 ho hb hg hat; rw [← Ny357.out] at ho; have n0_ := Aside0.mk (Kd.V_afterv (ok := (fun k_ => (P1_ k_ ∨ w.heap.size ≤ k_) ∧ k_ ≠ gb352)) (by (with_reducible repeat (first | apply Kd.V_alloc | apply Kd.V_drewN | apply Kd.V_drew)); exact Kd.V_mono HO_1.out (fun _ hk => ⟨⟨hk.1, hk.2.2⟩, hk.2.1⟩)) hg hat); have n1_ := Aside0.mk (blk_grown (g := gb352) (o := .cells #[.slice (some ad355) l0_0.length c0_0, .slice A0_1 l0_1.length c0_1, .slice A0_2 l0_2.length c0_2] 25 (0, 0)) bk hg (Kd.N_ne HO_9.out BK352.out (by decide))); have n2_ := Aside0.mk (Kd.V_afterv (ok := (fun k_ => (P1_ k_ ∨ w.heap.size ≤ k_) ∧ k_ ≠ gb352)) (by (with_reducible repeat (first | apply Kd.V_alloc | apply Kd.V_drewN | apply Kd.V_drew)); exact Kd.V_mono HL356_0.out (fun _ hk => ⟨⟨hk.1, hk.2.2⟩, hk.2.1⟩)) hg hat); have n3_ := Aside0.mk (hb); have n4_ := Aside0.mk (ho); clear HO_1; clear BK352; clear HL356_0; clear HB; clear HO_9; have HO_1 := n0_; have BK352 := n1_; have HL356_0 := n2_; have HB := n3_; have HO359 := n4_; clear n0_ n1_ n2_ n3_ n4_; clear ho hb hg hat))
              go_roundg k2
              case measure => have := HK1.out; have := HK2.out; omega
              case rel => exact ⟨(y357), (wrap64 (x34_2 + 1)), (by first | rfl | (simp; done) | (simp [*]; done)), H', ⟨by have := HK1.out; have := HK2.out; omega⟩, ⟨by (with_reducible repeat (first | apply Kd.V_alloc | apply Kd.V_drewN | apply Kd.V_drew)); exact Kd.V_mono HO_1.out (fun _ hk => ⟨hk.1.1, ⟨hk.2, hk.1.2⟩⟩)⟩, ⟨kN HO359⟩, ⟨bk⟩, ⟨bl⟩⟩
             ·rw [if_neg c21] at H
              exact absurd H (by simp)
            ·rw [if_neg c20] at H
             exact absurd H (by simp)
           ·rw [if_neg c19] at H
            exact absurd H (by simp)
         ·rw [if_neg c17] at H
          exact absurd H (by simp)
        ·rw [if_neg c16] at H
         exact absurd H (by simp)
       ·rw [if_neg c15] at H
        have c15b0 : decide (x34_2 < (l0_0.length : Int)) = false := decide_eq_false c15
        clear c15
        replace H := Option.bind_eq_some_iff.mp H
        obtain ⟨t360, A230, H⟩ := H
        replace H : (some (t360, 0)) = some (r1, r2) := H
        have A23 := Aside0.mk A230
        clear A230
        simp only [Option.some.injEq, Prod.mk.injEq] at H
        obtain ⟨rfl, rfl⟩ := H
        obtain ⟨⟨hcz24_0, hcz24_1, hcz24_2⟩, hfz24_0, hfz24_1, hfz24_2⟩ := b3 BK352.out
        obtain ⟨Ao25, co25, eo25⟩ := Kd.N_slice HO_9.out
        subst eo25
        go_wp2_with (first | ((with_reducible refine gate_callee (f := 43) rfl ?_); refine goesL_ (some 53) rfl rfl Try.func43 (by kernel_rfl) rfl #[.agg #[.slice A0_0 l0_0.length c0_0, .slice A0_1 l0_1.length c0_1, .slice A0_2 l0_2.length c0_2], .slice Ao25 x9_2.length co25, .int .i64 x6_1] rfl (by (try simp only [List.map_toArray, List.map_cons, List.map_nil]); first | done | rfl | (simp only [List.length_drop, List.length_take]; rfl)) ?_; (with_reducible refine (flow_run_S k2 _ _ l0_0 _ _ l0_1 _ _ l0_2 (fun k_ => ((P1_ k_ ∨ w.heap.size ≤ k_) ∧ k_ ≠ gb352)) _ _ x9_2 x6_1 t360 _ ?side1 ?side2 ?side3 ?side4 ?side5 ?side6 ?side7 A23.out).mono ?_); (case side1 => repeat (first | exact (Kd.C_below HR0_0.out HB.out) | (with_reducible refine Kd.C_alloc ?_ _) | (with_reducible refine Kd.C_drewN ?_ _) | (with_reducible refine Kd.C_drew ?_))); (case side2 => exact HC0_0.out); (case side3 => repeat (first | exact (Kd.C_below HR0_1.out HB.out) | (with_reducible refine Kd.C_alloc ?_ _) | (with_reducible refine Kd.C_drewN ?_ _) | (with_reducible refine Kd.C_drew ?_))); (case side4 => exact HC0_1.out); (case side5 => repeat (first | exact (Kd.C_below HR0_2.out HB.out) | (with_reducible refine Kd.C_alloc ?_ _) | (with_reducible refine Kd.C_drewN ?_ _) | (with_reducible refine Kd.C_drew ?_))); (case side6 => exact HC0_2.out); (case side7 => exact Kd.N_V (HO_9.out)); rintro e w26 ⟨v361, rfl, ho0, hb⟩; refine ⟨_, rfl, ?_⟩; have n0_ := Aside0.mk (Kd.V_elder' (kV HO_1) (by first | exact Kd.N_base ho0 | exact Kd.S_base ho0) hb); have n1_ := Aside0.mk (Kd.N_elder' (kN HO_9) (by first | exact Kd.N_base ho0 | exact Kd.S_base ho0) hb); have n2_ := Aside0.mk (Kd.S_lower ho0 (below_size bl)); have n3_ := Aside0.mk (blk_below (g := gb352) (o := .cells #[.slice A0_0 l0_0.length c0_0, .slice A0_1 l0_1.length c0_1, .slice A0_2 l0_2.length c0_2] 25 (0, 0)) bk hb); have n4_ := Aside0.mk (below_step bl hb); clear HO_1; clear HO_9; clear BK352; clear HB; have HO_1 := n0_; have HO_9 := n1_; have HO362 := n2_; have BK352 := n3_; have HB := n4_; clear n0_ n1_ n2_ n3_ n4_; (try clear hb); (try clear hb2); (try clear hk); (try clear hi); (try clear ho0)))
        go_ret2
        exact ⟨_, by first | rfl | (simp [errW_none, errW_some] <;> rfl) | (simp [*, errW_none, errW_some] <;> rfl), by (with_reducible repeat (first | apply Kd.S_alloc | apply Kd.S_drewN | apply Kd.S_drew)); exact HO362.out, bl⟩
 ·replace c4 := Bool.eq_false_iff.mpr c4
  subst c4
  have H1 : (some (([] : List (List Int)), 2)) = some (r1, r2) := by rw [if_neg (show ¬ (false = true) by decide)] at H; exact H
  clear H
  have H := H1
  clear H1
  simp only [Option.some.injEq, Prod.mk.injEq] at H
  obtain ⟨rfl, rfl⟩ := H
  go_enter Try.func20, Try.ntmps20
  go_wp2_with (first | ((with_reducible refine gate_dst (N := 2) rfl ?_); refine box_event ?hg (N := 2) ?hd (cs := #[.slice A0_0 l0_0.length c0_0, .slice A0_1 l0_1.length c0_1, .slice A0_2 l0_2.length c0_2]) (t := 25) ?hr ?_; (case hd => rfl); (case hg => rfl); (case hr => first | (go_simp; done) | (go_simp; rfl)); intro gb352 hg w27 hbox hb; have n0_ := Aside0.mk (Kd.V_below (Kd.V_elderB (kV HO1) gb352 (Nat.le_of_eq hg.symm)) hb); have n1_ := Aside0.mk (below_step bl hb); have n2_ := Aside0.mk (hbox); have n3_ := Aside0.mk ((sz hg)); have n4_ := Aside0.mk ((sz hg)); clear HO1; clear HB; have HO1 := n0_; have HB := n1_; have BK352 := n2_; have GW352 := n3_; have GE352 := n4_; clear n0_ n1_ n2_ n3_ n4_; clear hb hbox hg; obtain ⟨⟨hcz28_0, hcz28_1, hcz28_2⟩, hfz28_0, hfz28_1, hfz28_2⟩ := b3 BK352.out) | ((with_reducible refine gate_callee (f := 11) rfl ?_); refine goesL_ (some 13) rfl rfl Try.func11 (by kernel_rfl) rfl #[.agg #[.slice A0_0 l0_0.length c0_0, .slice A0_1 l0_1.length c0_1, .slice A0_2 l0_2.length c0_2]] rfl (by (try simp only [List.map_toArray, List.map_cons, List.map_nil]); first | done | rfl | (simp only [List.length_drop, List.length_take]; rfl)) ?_; (with_reducible refine (flow_May.calls k _ _ l0_0 _ _ l0_1 _ _ l0_2 false _ ?side1 ?side2 ?side3 ?side4 ?side5 ?side6 A3.out).mono ?_); (case side1 => repeat (first | exact (Kd.C_below HR0_0.out HB.out) | (with_reducible refine Kd.C_alloc ?_ _) | (with_reducible refine Kd.C_drewN ?_ _) | (with_reducible refine Kd.C_drew ?_))); (case side2 => exact HC0_0.out); (case side3 => repeat (first | exact (Kd.C_below HR0_1.out HB.out) | (with_reducible refine Kd.C_alloc ?_ _) | (with_reducible refine Kd.C_drewN ?_ _) | (with_reducible refine Kd.C_drew ?_))); (case side4 => exact HC0_1.out); (case side5 => repeat (first | exact (Kd.C_below HR0_2.out HB.out) | (with_reducible refine Kd.C_alloc ?_ _) | (with_reducible refine Kd.C_drewN ?_ _) | (with_reducible refine Kd.C_drew ?_))); (case side6 => exact HC0_2.out); rintro e w29 ⟨rfl, hb⟩; refine ⟨_, rfl, ?_⟩; have n0_ := Aside0.mk (Kd.V_below (kV HO1) hb); have n1_ := Aside0.mk (blk_below (g := gb352) (o := .cells #[.slice A0_0 l0_0.length c0_0, .slice A0_1 l0_1.length c0_1, .slice A0_2 l0_2.length c0_2] 25 (0, 0)) bk hb); have n2_ := Aside0.mk (below_step bl hb); clear HO1; clear BK352; clear HB; have HO1 := n0_; have BK352 := n1_; have HB := n2_; clear n0_ n1_ n2_; (try clear hb); (try clear hb2); (try clear hk); (try clear hi)))
  go_ret2
  exact ⟨_, by first | rfl | (simp [errW_none, errW_some] <;> rfl) | (simp [*, errW_none, errW_some] <;> rfl), by first | exact Kd.S_nil _ _ _ _ _ | exact Kd.N_nil _ _ _ _ _ | exact Kd.V_nil _ _ _ _ _ | exact Kd.Q_nil _ _ _ _ _ | exact Kd.R_nil _ _ _ _ _, bl⟩

end Go.Proofs.Ytfnhnniecclleaa.PA
