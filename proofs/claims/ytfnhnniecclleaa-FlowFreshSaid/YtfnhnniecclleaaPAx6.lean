-- Written by wip/tools/mp.py (the kit's print, run over several laws with some functions given by hand).
import Derived.Test.YtfnhnniecclleaaPAx0
import Derived.Test.YtfnhnniecclleaaPAx5
import Derived.Test.YtfnhnniecclleaaShort
namespace Go.Proofs.Ytfnhnniecclleaa.PA
open Go.RowKit Go.Proofs.Ytfnhnniecclleaa.Sh Go.Proofs.YtfnhnniecclleaaW.PrintWords Go.Proofs.YtfnhnniecclleaaW.PrintLast Go.Proofs.YtfnhnniecclleaaW.PrintMore
attribute [local go_sem] max2_int min2_int max_two min_two max_three min_three max_four min_four   -- for this text's walks alone
set_option linter.unusedVariables false
set_option linter.unusedSimpArgs false

/-! ### flow_Of: function 23 -/
mutual
def flow_Of.l0 : Nat → List Int → Int → Int → Int → Int → List Int → List Int → Option (List Int × (List (List (S64))) × List Int × Int)
 | 0, _, _, _, _, _, _, _ => none
 | k + 1, x5, x20, x21, x137000, x137001, x137002, x140000 => if x21 < x20 then (flow_Of.l1 k x5 x21 x20 x21 x137000 0 x137000 x137001 x137002 x140000) else (flow_Of.l2 k x5 x137000 0 x137000 x137001 x137002 x140000 ([] : List (List (S64))) ([] : List Int))
def flow_Of.l1 : Nat → List Int → Int → Int → Int → Int → Int → Int → Int → List Int → List Int → Option (List Int × (List (List (S64))) × List Int × Int)
 | 0, _, _, _, _, _, _, _, _, _, _ => none
 | k + 1, x5, x6, x20, x21, x25, x26, x137000, x137001, x137002, x140000 => if x26 < x25 then (if 0 ≤ (wrap64 ((wrap64 (x26 * x137001)) + x6)) then (if (wrap64 ((wrap64 (x26 * x137001)) + x6)) < (x137002.length : Int) then (if (rd x137002 (wrap64 ((wrap64 (x26 * x137001)) + x6))) = 0 then (flow_Of.l1 k x5 x6 x20 x21 x25 (wrap64 (x26 + 1)) x137000 x137001 x137002 x140000) else (if 0 ≤ x6 then (if x6 < (x5.length : Int) then (if x140000.length < 17592186044416 then (flow_Of.l0 k (x5.set (x6 : Int).toNat (x140000.length : Int)) x20 (wrap64 (x21 + 1)) x137000 x137001 x137002 (x140000 ++ [x6])) else (none)) else (none)) else (none))) else (none)) else (none)) else (flow_Of.l0 k x5 x20 (wrap64 (x21 + 1)) x137000 x137001 x137002 x140000)
def flow_Of.l2 : Nat → List Int → Int → Int → Int → Int → List Int → List Int → List (List (S64)) → List Int → Option (List Int × (List (List (S64))) × List Int × Int)
 | 0, _, _, _, _, _, _, _, _, _ => none
 | k + 1, x5, x55, x56, x137000, x137001, x137002, x140000, x140001, x140002 => if x56 < x55 then (if 0 ≤ (wrap64 (x56 * x137001)) then (if (wrap64 (x56 * x137001)) ≤ (wrap64 ((wrap64 (x56 + 1)) * x137001)) then (if (wrap64 ((wrap64 (x56 + 1)) * x137001)) ≤ (x137002.length : Int) then (flow_Of.l3 k x5 x56 ([] : List (S64)) x55 x56 ((x137002.take ((wrap64 ((wrap64 (x56 + 1)) * x137001)) : Int).toNat).drop ((wrap64 (x56 * x137001)) : Int).toNat) (((x137002.take ((wrap64 ((wrap64 (x56 + 1)) * x137001)) : Int).toNat).drop ((wrap64 (x56 * x137001)) : Int).toNat).length : Int) 0 x137000 x137001 x137002 x140000 x140001 x140002) else (none)) else (none)) else (none)) else (some (x140000, x140001, x140002, 0))
def flow_Of.l3 : Nat → List Int → Int → List (S64) → Int → Int → List Int → Int → Int → Int → Int → List Int → List Int → List (List (S64)) → List Int → Option (List Int × (List (List (S64))) × List Int × Int)
 | 0, _, _, _, _, _, _, _, _, _, _, _, _, _, _ => none
 | k + 1, x5, x8, x9, x55, x56, x70, x71, x72, x137000, x137001, x137002, x140000, x140001, x140002 => if x72 < x71 then (if 0 ≤ x72 then (if x72 < (x70.length : Int) then (if (rd x70 x72) = 0 then (flow_Of.l3 k x5 x8 x9 x55 x56 x70 x71 (wrap64 (x72 + 1)) x137000 x137001 x137002 x140000 x140001 x140002) else (if x72 < (x5.length : Int) then (if x9.length < 8796093022208 then (flow_Of.l3 k x5 x8 (x9 ++ [(⟨rd x5 x72, rd x70 x72⟩ : S64)]) x55 x56 x70 x71 (wrap64 (x72 + 1)) x137000 x137001 x137002 x140000 x140001 x140002) else (none)) else (none))) else (none)) else (none)) else (if x140002.length < 17592186044416 then (if x140001.length < 5864062014805 then (flow_Of.l2 k x5 x55 (wrap64 (x56 + 1)) x137000 x137001 x137002 x140000 (x140001 ++ [x9]) (x140002 ++ [wrap64 ((x140000.length : Int) + x8)])) else (none)) else (none))
end
def flow_Of.f (k : Nat) (a0_0 : Int) (a0_1 : Int) (l0_2 : List Int) : Option (List Int × (List (List (S64))) × List Int × Int) := (matrix_Right.f a0_0 a0_1 l0_2).bind fun t138 => (if t138 = true then (if 0 ≤ a0_1 then (if (a0_1 : Int).toNat ≤ 35184372088832 then (flow_Of.l0 k (List.replicate (a0_1 : Int).toNat 0) a0_1 0 a0_0 a0_1 l0_2 ([] : List Int)) else (none)) else (none)) else (some (([] : List Int), ([] : List (List (S64))), ([] : List Int), 3)))
theorem flow_Of.mono_l : ∀ k, (∀ y0 y1 y2 y3 y4 y5 y6, LeO (flow_Of.l0 k y0 y1 y2 y3 y4 y5 y6) (flow_Of.l0 (k + 1) y0 y1 y2 y3 y4 y5 y6)) ∧ (∀ y0 y1 y2 y3 y4 y5 y6 y7 y8 y9, LeO (flow_Of.l1 k y0 y1 y2 y3 y4 y5 y6 y7 y8 y9) (flow_Of.l1 (k + 1) y0 y1 y2 y3 y4 y5 y6 y7 y8 y9)) ∧ (∀ y0 y1 y2 y3 y4 y5 y6 y7 y8, LeO (flow_Of.l2 k y0 y1 y2 y3 y4 y5 y6 y7 y8) (flow_Of.l2 (k + 1) y0 y1 y2 y3 y4 y5 y6 y7 y8)) ∧ (∀ y0 y1 y2 y3 y4 y5 y6 y7 y8 y9 y10 y11 y12 y13, LeO (flow_Of.l3 k y0 y1 y2 y3 y4 y5 y6 y7 y8 y9 y10 y11 y12 y13) (flow_Of.l3 (k + 1) y0 y1 y2 y3 y4 y5 y6 y7 y8 y9 y10 y11 y12 y13))
 | 0 => ⟨fun _ _ _ _ _ _ _ r h => by simp [flow_Of.l0] at h, fun _ _ _ _ _ _ _ _ _ _ r h => by simp [flow_Of.l1] at h, fun _ _ _ _ _ _ _ _ _ r h => by simp [flow_Of.l2] at h, fun _ _ _ _ _ _ _ _ _ _ _ _ _ _ r h => by simp [flow_Of.l3] at h⟩
 | k + 1 => by
  obtain ⟨ih0, ih1, ih2, ih3⟩ := flow_Of.mono_l k
  refine ⟨?_, ?_, ?_, ?_⟩
  all_goals
   intros
   first | unfold flow_Of.l0 | unfold flow_Of.l1 | unfold flow_Of.l2 | unfold flow_Of.l3
   repeat' first | (with_reducible exact ih0 _ _ _ _ _ _ _) | (with_reducible exact ih1 _ _ _ _ _ _ _ _ _ _) | (with_reducible exact ih2 _ _ _ _ _ _ _ _ _) | (with_reducible exact ih3 _ _ _ _ _ _ _ _ _ _ _ _ _ _) | (with_reducible exact LeO.refl _) | (with_reducible exact LeO.none _) | (with_reducible refine LeO.ite ?_ ?_) | (with_reducible refine LeO.bind ?_ (fun _ => ?_)) | exact ih0 _ _ _ _ _ _ _ | exact ih1 _ _ _ _ _ _ _ _ _ _ | exact ih2 _ _ _ _ _ _ _ _ _ | exact ih3 _ _ _ _ _ _ _ _ _ _ _ _ _ _ | exact LeO.none _ | refine LeO.ite ?_ ?_ | refine LeO.bind ?_ (fun _ => ?_)
theorem flow_Of.mono : ∀ a0 a1 a2 k, LeO (flow_Of.f k a0 a1 a2) (flow_Of.f (k + 1) a0 a1 a2) := by
 intro a0 a1 a2 k
 obtain ⟨ih0, ih1, ih2, ih3⟩ := flow_Of.mono_l k
 unfold flow_Of.f
 repeat' first | (with_reducible exact ih0 _ _ _ _ _ _ _) | (with_reducible exact ih1 _ _ _ _ _ _ _ _ _ _) | (with_reducible exact ih2 _ _ _ _ _ _ _ _ _) | (with_reducible exact ih3 _ _ _ _ _ _ _ _ _ _ _ _ _ _) | (with_reducible exact LeO.refl _) | (with_reducible exact LeO.none _) | (with_reducible refine LeO.ite ?_ ?_) | (with_reducible refine LeO.bind ?_ (fun _ => ?_)) | exact ih0 _ _ _ _ _ _ _ | exact ih1 _ _ _ _ _ _ _ _ _ _ | exact ih2 _ _ _ _ _ _ _ _ _ | exact ih3 _ _ _ _ _ _ _ _ _ _ _ _ _ _ | exact LeO.none _ | refine LeO.ite ?_ ?_ | refine LeO.bind ?_ (fun _ => ?_)
set_option maxHeartbeats 8000000 in
set_option maxRecDepth 100000 in
theorem flow_Of.calls (k : Nat) (a0_0 : Int) (a0_1 : Int) (A0_2 : Option Addr) (c0_2 : Nat) (l0_2 : List Int) (r1 : List Int) (r2 : List (List (S64))) (r3 : List Int) (r4 : Int) (w : World) (hr0_2 : Kd.C (Kd.int .u8) w A0_2 l0_2.length l0_2) (hc0_2 : l0_2.length ≤ c0_2) (h : flow_Of.f k a0_0 a0_1 l0_2 = some (r1, r2, r3, r4)) :
  Calls Try.prog 23 #[.agg #[.int .i64 a0_0, .int .i64 a0_1, .slice A0_2 l0_2.length c0_2]] w fun e w' => ∃ v0_ v1_ v2_ : Value, e = .returned (.tuple #[.agg #[v0_, v1_, v2_], .int .i64 r4]) ∧ Kd.R (Kd.int .i64) 3 w' w.heap.size (fun k_ => some k_ ≠ (v2_ : Value).ownBlock) v0_ r1 ∧ Kd.S (Kd.slice 64 k64) 62 w' w.heap.size (fun _ => True) v1_ r2 ∧ Kd.R (Kd.int .i64) 3 w' w.heap.size (fun k_ => some k_ ≠ (v0_ : Value).ownBlock) v2_ r3 ∧ Below w.heap.size w w' := by
 have hu47 := Try.underlying47
 have hu25 := Try.underlying25
 have hu64 := Try.underlying64
 have HR0_2 := Aside0.mk hr0_2
 have HC0_2 := Aside0.mk hc0_2
 clear hr0_2 hc0_2
 have HB := Aside0.mk (Below.refl w.heap.size w)
 have H : ((matrix_Right.f a0_0 a0_1 l0_2).bind fun t138 => (if t138 = true then (if 0 ≤ a0_1 then (if (a0_1 : Int).toNat ≤ 35184372088832 then (flow_Of.l0 k (List.replicate (a0_1 : Int).toNat 0) a0_1 0 a0_0 a0_1 l0_2 ([] : List Int)) else (none)) else (none)) else (some (([] : List Int), ([] : List (List (S64))), ([] : List Int), 3)))) = some (r1, r2, r3, r4) := h
 clear h
 replace H := Option.bind_eq_some_iff.mp H
 obtain ⟨t138, A20, H⟩ := H
 replace H : (if t138 = true then (if 0 ≤ a0_1 then (if (a0_1 : Int).toNat ≤ 35184372088832 then (flow_Of.l0 k (List.replicate (a0_1 : Int).toNat 0) a0_1 0 a0_0 a0_1 l0_2 ([] : List Int)) else (none)) else (none)) else (some (([] : List Int), ([] : List (List (S64))), ([] : List Int), 3))) = some (r1, r2, r3, r4) := H
 have A2 := Aside0.mk A20
 clear A20
 by_cases c3 : t138 = true
 ·subst c3
  have H1 : (if 0 ≤ a0_1 then (if (a0_1 : Int).toNat ≤ 35184372088832 then (flow_Of.l0 k (List.replicate (a0_1 : Int).toNat 0) a0_1 0 a0_0 a0_1 l0_2 ([] : List Int)) else (none)) else (none)) = some (r1, r2, r3, r4) := by rw [if_pos rfl] at H; exact H
  clear H
  have H := H1
  clear H1
  by_cases c4 : 0 ≤ a0_1
  ·rw [if_pos c4] at H
   have c4b0 := eq_true c4
   have c4b1 : decide (0 ≤ a0_1) = true := decide_eq_true c4
   clear c4
   by_cases c5 : (a0_1 : Int).toNat ≤ 35184372088832
   ·rw [if_pos c5] at H
    have c5b0 := eq_true c5
    have c5b1 : decide ((a0_1 : Int).toNat ≤ 35184372088832) = true := decide_eq_true c5
    clear c5
    obtain ⟨y140, hy140⟩ : ∃ y_ : List Int, y_ = (List.replicate (a0_1 : Int).toNat 0) := ⟨_, rfl⟩
    replace H : (flow_Of.l0 k y140 a0_1 0 a0_0 a0_1 l0_2 ([] : List Int)) = some (r1, r2, r3, r4) := by first | (rw [hy140]; with_reducible exact H) | (have H2_ := (Option.bind_some _ _).symm.trans H; rw [hy140]; with_reducible exact H2_) | (have H2_ := (Option.bind_some _ _).symm.trans H; with_reducible exact H2_) | with_reducible exact H | (rw [hy140]; exact H) | exact H
    have Ny140 := Aside0.mk hy140
    clear hy140
    have H' := Aside0.mk H
    clear H
    go_enter Try.func23, Try.ntmps23
    go_wp2_with (first | ((with_reducible refine gate_dst (N := 1) rfl ?_); refine box_event ?hg (N := 1) ?hd (cs := #[.int .i64 a0_0, .int .i64 a0_1, .slice A0_2 l0_2.length c0_2]) (t := 47) ?hr ?_; (case hd => rfl); (case hg => rfl); (case hr => first | (go_simp; done) | (go_simp; rfl)); intro gb136 hg w6 hbox hb; have n0_ := Aside0.mk (below_step bl hb); have n1_ := Aside0.mk (hbox); have n2_ := Aside0.mk ((sz hg)); have n3_ := Aside0.mk ((sz hg)); clear HB; have HB := n0_; have BK136 := n1_; have GW136 := n2_; have GE136 := n3_; clear n0_ n1_ n2_ n3_; clear hb hbox hg) | ((with_reducible refine gate_dst (N := 2) rfl ?_); refine box_event ?hg (N := 2) ?hd (cs := #[.slice none 0 0, .slice none 0 0, .slice none 0 0]) (t := 25) ?hr ?_; (case hd => rfl); (case hg => rfl); (case hr => first | (go_simp; done) | (go_simp; rfl)); intro gb137 hg w7 hbox hb; have n0_ := Aside0.mk (blk_below (g := gb136) (o := .cells #[.int .i64 a0_0, .int .i64 a0_1, .slice A0_2 l0_2.length c0_2] 47 (0, 0)) bk hb); have n1_ := Aside0.mk (below_step bl hb); have n2_ := Aside0.mk (hbox); have n3_ := Aside0.mk ((sz hg)); have n4_ := Aside0.mk ((sz hg)); have n5_ := Aside0.mk ((nl (g := gb136) (g' := gb137) hg)); have n6_ := Aside0.mk ((nr (g := gb136) (g' := gb137) hg)); clear BK136; clear HB; have BK136 := n0_; have HB := n1_; have BK137 := n2_; have GW137 := n3_; have GE137 := n4_; have NB136_137 := n5_; have NB137_136 := n6_; clear n0_ n1_ n2_ n3_ n4_ n5_ n6_; clear hb hbox hg; have hnb8 := NB136_137.out; have hnc8 := NB137_136.out; obtain ⟨⟨hcz9_0, hcz9_1, hcz9_2⟩, hfz9_0, hfz9_1, hfz9_2⟩ := b3 BK136.out) | ((with_reducible refine gate_callee (f := 46) rfl ?_); refine goesL_ (some 13) rfl rfl Try.func46 (by kernel_rfl) rfl #[.agg #[.int .i64 a0_0, .int .i64 a0_1, .slice A0_2 l0_2.length c0_2]] rfl (by (try simp only [List.map_toArray, List.map_cons, List.map_nil]); first | done | rfl | (simp only [List.length_drop, List.length_take]; rfl)) ?_; (with_reducible refine (matrix_Right.calls a0_0 a0_1 _ _ l0_2 true _ ?side1 ?side2 A2.out).mono ?_); (case side1 => repeat (first | exact (Kd.C_below HR0_2.out HB.out) | (with_reducible refine Kd.C_alloc ?_ _) | (with_reducible refine Kd.C_drewN ?_ _) | (with_reducible refine Kd.C_drew ?_))); (case side2 => exact HC0_2.out); rintro e w10 ⟨rfl, hb⟩; refine ⟨_, rfl, ?_⟩; have n0_ := Aside0.mk (blk_below (g := gb136) (o := .cells #[.int .i64 a0_0, .int .i64 a0_1, .slice A0_2 l0_2.length c0_2] 47 (0, 0)) bk hb); have n1_ := Aside0.mk (blk_below (g := gb137) (o := .cells #[.slice none 0 0, .slice none 0 0, .slice none 0 0] 25 (0, 0)) bk hb); have n2_ := Aside0.mk (below_step bl hb); clear BK136; clear BK137; clear HB; have BK136 := n0_; have BK137 := n1_; have HB := n2_; clear n0_ n1_ n2_; (try clear hb); (try clear hb2); (try clear hk); (try clear hi)) | ((with_reducible refine gate_dst (N := 4) rfl ?_); refine box_event ?hg (N := 4) ?hd (cs := #[.slice none 0 0, .slice none 0 0, .slice none 0 0]) (t := 25) ?hr ?_; (case hd => rfl); (case hg => rfl); (case hr => first | (go_simp; done) | (go_simp; rfl)); intro gb139 hg w11 hbox hb; have n0_ := Aside0.mk (blk_below (g := gb136) (o := .cells #[.int .i64 a0_0, .int .i64 a0_1, .slice A0_2 l0_2.length c0_2] 47 (0, 0)) bk hb); have n1_ := Aside0.mk (blk_below (g := gb137) (o := .cells #[.slice none 0 0, .slice none 0 0, .slice none 0 0] 25 (0, 0)) bk hb); have n2_ := Aside0.mk (below_step bl hb); have n3_ := Aside0.mk (hbox); have n4_ := Aside0.mk ((sz hg)); have n5_ := Aside0.mk ((sz hg)); have n6_ := Aside0.mk ((nl (g := gb136) (g' := gb139) hg)); have n7_ := Aside0.mk ((nr (g := gb136) (g' := gb139) hg)); have n8_ := Aside0.mk ((nl (g := gb137) (g' := gb139) hg)); have n9_ := Aside0.mk ((nr (g := gb137) (g' := gb139) hg)); clear BK136; clear BK137; clear HB; have BK136 := n0_; have BK137 := n1_; have HB := n2_; have BK139 := n3_; have GW139 := n4_; have GE139 := n5_; have NB136_139 := n6_; have NB139_136 := n7_; have NB137_139 := n8_; have NB139_137 := n9_; clear n0_ n1_ n2_ n3_ n4_ n5_ n6_ n7_ n8_ n9_; clear hb hbox hg; have hnb12 := NB136_139.out; have hnc12 := NB139_136.out; obtain ⟨⟨hcz13_0, hcz13_1, hcz13_2⟩, hfz13_0, hfz13_1, hfz13_2⟩ := b3 BK136.out) | ((with_reducible refine gate_dst (N := 18) rfl ?_); refine Kd.R_make (Kd.int .i64) _ 3 rfl (N := 18) rfl 22 _ _ rfl a0_1 rfl rfl Try.underlying22 (.int .i64 0) 8 info3 rfl (by decide) (by omega) 0 (ok := fun _ => True) (okp := fun _ => True) rfl (fun _ hk => hk) trivial (dt) (Nat.le_trans (Nat.mul_le_mul_right _ (dt : a0_1.toNat ≤ 35184372088832)) (by omega)) (Below.refl _ _) (Nat.le_refl _) ?_; intro v141 w14 ho15 hb hg_ hnew_; clear hg_ hnew_; (first | rw [← Ny140.out] at ho15 | (simp only [Int.reduceToNat] at ho15; rw [← Ny140.out] at ho15)); have n0_ := Aside0.mk (Kd.R_lower ho15 (below_size bl)); have n1_ := Aside0.mk (blk_below (g := gb136) (o := .cells #[.int .i64 a0_0, .int .i64 a0_1, .slice A0_2 l0_2.length c0_2] 47 (0, 0)) bk hb); have n2_ := Aside0.mk (blk_below (g := gb137) (o := .cells #[.slice none 0 0, .slice none 0 0, .slice none 0 0] 25 (0, 0)) bk hb); have n3_ := Aside0.mk (blk_below (g := gb139) (o := .cells #[.slice none 0 0, .slice none 0 0, .slice none 0 0] 25 (0, 0)) bk hb); have n4_ := Aside0.mk (below_step bl hb); clear BK136; clear BK137; clear BK139; clear HB; have HO142 := n0_; have BK136 := n1_; have BK137 := n2_; have BK139 := n3_; have HB := n4_; clear n0_ n1_ n2_ n3_ n4_; clear hb ho15; obtain ⟨⟨hcz16_0, hcz16_1, hcz16_2⟩, hfz16_0, hfz16_1, hfz16_2⟩ := b3 BK136.out))
    go_loopg [21] k (fun kq v21 w' => ∃ (x5_1 : List Int) (x21_1 : Int) (x140000_1 : List Int) (u140000 : Value), v21 = .int .i64 x21_1 ∧ Aside0 (flow_Of.l0 kq x5_1 a0_1 x21_1 a0_0 a0_1 l0_2 x140000_1 = some (r1, r2, r3, r4)) ∧ Aside0 (kq ≤ k) ∧ Aside0 (Kd.R (Kd.int .i64) 3 w' w.heap.size (fun k_ => some k_ ≠ (u140000 : Value).ownBlock) v141 x5_1) ∧ Aside0 (Kd.R (Kd.int .i64) 3 w' w.heap.size (fun k_ => some k_ ≠ (v141 : Value).ownBlock) u140000 x140000_1) ∧ Aside0 (w'.heap[gb136]? = some (.cells #[.int .i64 a0_0, .int .i64 a0_1, (.slice A0_2 l0_2.length c0_2)] 47 (0, 0))) ∧ Aside0 (w'.heap[gb137]? = some (.cells #[(.slice none 0 0), (.slice none 0 0), (.slice none 0 0)] 25 (0, 0))) ∧ Aside0 (w'.heap[gb139]? = some (.cells #[u140000, (.slice none 0 0), (.slice none 0 0)] 25 (0, 0))) ∧ Aside0 (Below w.heap.size w w'))
    case atStart => exact ⟨(y140), (0), (([] : List Int)), (.slice none 0 0), (by first | rfl | (simp; done) | (simp [*]; done)), H', ⟨Nat.le_refl _⟩, ⟨by (with_reducible repeat (first | apply Kd.R_alloc | apply Kd.R_drewN | apply Kd.R_drew)); exact Kd.R_mono HO142.out (fun _ hk => (by simp [Value.ownBlock]))⟩, ⟨by first | exact Kd.R_nil _ _ _ _ _ | exact Kd.N_nil _ _ _ _ _ | exact Kd.V_nil _ _ _ _ _ | exact Kd.Q_nil _ _ _ _ _ | exact Kd.S_nil _ _ _ _ _⟩, ⟨bk⟩, ⟨bk⟩, ⟨bk⟩, ⟨bl⟩⟩
    case round =>
     clear H'
     (try clear c1); (try clear c2); (try clear p2); (try clear c3); (try clear c4); (try clear c4b0); (try clear c4b1); (try clear c5); (try clear c5b0); (try clear c5b1); (try clear c8); (try clear c12); (try clear hcz13_0 hcz13_1 hcz13_2 hfz13_0 hfz13_1 hfz13_2); (try clear hcz16_0 hcz16_1 hcz16_2 hfz16_0 hfz16_1 hfz16_2); (try clear hcz9_0 hcz9_1 hcz9_2 hfz9_0 hfz9_1 hfz9_2)
     obtain ⟨x5_1, x21_1, x140000_1, u140000, rfl, HA, HK1, HO_5, HO_140000, BK136, BK137, BK139, HB⟩ := hrel
     cases gk with
     | zero => exact absurd HA.out (by simp [flow_Of.l0])
     | succ k1 =>
      have H := HA.out
      clear HA
      simp only [flow_Of.l0] at H
      by_cases c17 : x21_1 < a0_1
      ·rw [if_pos c17] at H
       have c17b0 : decide (x21_1 < a0_1) = true := decide_eq_true c17
       clear c17
       have H' := Aside0.mk H
       clear H
       have hnb18 := NB136_137.out
       have hnc18 := NB137_136.out
       have hnb19 := NB136_139.out
       have hnc19 := NB139_136.out
       obtain ⟨⟨hcz20_0, hcz20_1, hcz20_2⟩, hfz20_0, hfz20_1, hfz20_2⟩ := b3 BK136.out
       go_wp2
       go_loopg [26] k1 (fun kq v26 w' => ∃ (x5_2 : List Int) (x26_2 : Int) (x140000_2 : List Int) (u140000 : Value), v26 = .int .i64 x26_2 ∧ Aside0 (flow_Of.l1 kq x5_2 x21_1 a0_1 x21_1 a0_0 x26_2 a0_0 a0_1 l0_2 x140000_2 = some (r1, r2, r3, r4)) ∧ Aside0 (kq ≤ k1) ∧ Aside0 (Kd.R (Kd.int .i64) 3 w' w.heap.size (fun k_ => some k_ ≠ (u140000 : Value).ownBlock) v141 x5_2) ∧ Aside0 (Kd.R (Kd.int .i64) 3 w' w.heap.size (fun k_ => some k_ ≠ (v141 : Value).ownBlock) u140000 x140000_2) ∧ Aside0 (w'.heap[gb136]? = some (.cells #[.int .i64 a0_0, .int .i64 a0_1, (.slice A0_2 l0_2.length c0_2)] 47 (0, 0))) ∧ Aside0 (w'.heap[gb137]? = some (.cells #[(.slice none 0 0), (.slice none 0 0), (.slice none 0 0)] 25 (0, 0))) ∧ Aside0 (w'.heap[gb139]? = some (.cells #[u140000, (.slice none 0 0), (.slice none 0 0)] 25 (0, 0))) ∧ Aside0 (Below w.heap.size w w'))
       case atStart => exact ⟨(x5_1), (0), (x140000_1), (u140000), (by first | rfl | (simp; done) | (simp [*]; done)), H', ⟨Nat.le_refl _⟩, ⟨kR HO_5⟩, ⟨kR HO_140000⟩, ⟨bk⟩, ⟨bk⟩, ⟨bk⟩, ⟨bl⟩⟩
       case round =>
        clear H'
        (try clear c1); (try clear c2); (try clear p2); (try clear c3); (try clear c4); (try clear c4b0); (try clear c4b1); (try clear c5); (try clear c5b0); (try clear c5b1); (try clear c8); (try clear c12); (try clear c17); (try clear c17b0); (try clear c18); (try clear c19); (try clear hcz13_0 hcz13_1 hcz13_2 hfz13_0 hfz13_1 hfz13_2); (try clear hcz16_0 hcz16_1 hcz16_2 hfz16_0 hfz16_1 hfz16_2); (try clear hcz20_0 hcz20_1 hcz20_2 hfz20_0 hfz20_1 hfz20_2); (try clear hcz9_0 hcz9_1 hcz9_2 hfz9_0 hfz9_1 hfz9_2)
        obtain ⟨x5_2, x26_2, x140000_2, u140000, rfl, HA, HK2, HO_5, HO_140000, BK136, BK137, BK139, HB⟩ := hrel
        cases gk with
        | zero => exact absurd HA.out (by simp [flow_Of.l1])
        | succ k2 =>
         have H := HA.out
         clear HA
         simp only [flow_Of.l1] at H
         by_cases c21 : x26_2 < a0_0
         ·rw [if_pos c21] at H
          have c21b0 : decide (x26_2 < a0_0) = true := decide_eq_true c21
          clear c21
          obtain ⟨ji22, hji22⟩ : ∃ j_ : Int, (wrap64 ((wrap64 (x26_2 * a0_1)) + x21_1)) = j_ := ⟨_, rfl⟩
          replace H : (if 0 ≤ (ji22) then (if (ji22) < (l0_2.length : Int) then (if (rd l0_2 (ji22)) = 0 then (flow_Of.l1 k2 x5_2 x21_1 a0_1 x21_1 a0_0 (wrap64 (x26_2 + 1)) a0_0 a0_1 l0_2 x140000_2) else (if 0 ≤ x21_1 then (if x21_1 < (x5_2.length : Int) then (if x140000_2.length < 17592186044416 then (flow_Of.l0 k2 (x5_2.set (x21_1 : Int).toNat (x140000_2.length : Int)) a0_1 (wrap64 (x21_1 + 1)) a0_0 a0_1 l0_2 (x140000_2 ++ [x21_1])) else (none)) else (none)) else (none))) else (none)) else (none)) = some (r1, r2, r3, r4) := by first | (rw [hji22] at H; exact H) | (simp only [hji22] at H ⊢; exact H)
          have hji22w : (IntKind.i64.wrap ((wrap64 (x26_2 * a0_1)) + x21_1)) = ji22 := (i64_w _).trans hji22
          by_cases c23 : 0 ≤ (ji22)
          ·rw [if_pos c23] at H
           have c23b0 : decide (0 ≤ (ji22)) = true := decide_eq_true c23
           clear c23
           by_cases c24 : (ji22) < (l0_2.length : Int)
           ·rw [if_pos c24] at H
            have c24b0 : decide ((ji22) < (l0_2.length : Int)) = true := decide_eq_true c24
            clear c24
            by_cases c25 : (rd l0_2 (ji22)) = 0
            ·rw [if_pos c25] at H
             have c25b0 : ((rd l0_2 (ji22)) == 0) = true := beq_iff_eq.mpr c25
             have c25b1 : ((rd l0_2 (ji22)) != 0) = false := bne_eq_false_iff_eq.mpr c25
             clear c25
             have H' := Aside0.mk H
             clear H
             have hnb26 := NB136_137.out
             have hnc26 := NB137_136.out
             have hnb27 := NB136_139.out
             have hnc27 := NB139_136.out
             obtain ⟨⟨hcz28_0, hcz28_1, hcz28_2⟩, hfz28_0, hfz28_1, hfz28_2⟩ := b3 BK136.out
             have p143 : 0 ≤ ((ji22) : Int) := dt
             have q143 : (ji22) < (l0_2.length : Int) := dt
             obtain ⟨ad143, e143, hx143_0⟩ := Kd.at_int HR0_2.out (ji22) p143 q143
             cases e143
             replace hx143_0 := cx HB hx143_0
             replace p143 := eq_true p143
             replace q143 := eq_true q143
             go_wp2
             go_roundg k2
             case measure => have := HK1.out; have := HK2.out; omega
             case rel => exact ⟨(x5_2), (wrap64 (x26_2 + 1)), (x140000_2), (u140000), (by first | rfl | (simp; done) | (simp [*]; done)), H', ⟨by have := HK1.out; have := HK2.out; omega⟩, ⟨kR HO_5⟩, ⟨kR HO_140000⟩, ⟨bk⟩, ⟨bk⟩, ⟨bk⟩, ⟨bl⟩⟩
            ·rw [if_neg c25] at H
             have c25b0 : ((rd l0_2 (ji22)) == 0) = false := beq_eq_false_iff_ne.mpr c25
             have c25b1 : ((rd l0_2 (ji22)) != 0) = true := bne_iff_ne.mpr c25
             by_cases c29 : 0 ≤ x21_1
             ·rw [if_pos c29] at H
              have c29b0 : decide (0 ≤ x21_1) = true := decide_eq_true c29
              clear c29
              by_cases c30 : x21_1 < (x5_2.length : Int)
              ·rw [if_pos c30] at H
               have c30b0 : decide (x21_1 < (x5_2.length : Int)) = true := decide_eq_true c30
               clear c30
               obtain ⟨y144, hy144⟩ : ∃ y_ : List Int, y_ = (x5_2.set (x21_1 : Int).toNat (x140000_2.length : Int)) := ⟨_, rfl⟩
               replace H : (if x140000_2.length < 17592186044416 then (flow_Of.l0 k2 y144 a0_1 (wrap64 (x21_1 + 1)) a0_0 a0_1 l0_2 (x140000_2 ++ [x21_1])) else (none)) = some (r1, r2, r3, r4) := by first | (rw [hy144]; with_reducible exact H) | (have H2_ := (Option.bind_some _ _).symm.trans H; rw [hy144]; with_reducible exact H2_) | (have H2_ := (Option.bind_some _ _).symm.trans H; with_reducible exact H2_) | with_reducible exact H | (rw [hy144]; exact H) | exact H
               have Ny144 := Aside0.mk hy144
               clear hy144
               by_cases c32 : x140000_2.length < 17592186044416
               ·rw [if_pos c32] at H
                have LMc32 := Aside0.mk c32
                clear c32
                obtain ⟨y145, hy145⟩ : ∃ y_ : List Int, y_ = (x140000_2 ++ [x21_1]) := ⟨_, rfl⟩
                replace H : (flow_Of.l0 k2 y144 a0_1 (wrap64 (x21_1 + 1)) a0_0 a0_1 l0_2 y145) = some (r1, r2, r3, r4) := by first | (rw [hy145]; with_reducible exact H) | (have H2_ := (Option.bind_some _ _).symm.trans H; rw [hy145]; with_reducible exact H2_) | (have H2_ := (Option.bind_some _ _).symm.trans H; with_reducible exact H2_) | with_reducible exact H | (rw [hy145]; exact H) | exact H
                have Ny145 := Aside0.mk hy145
                clear hy145
                have H' := Aside0.mk H
                clear H
                have hnb33 := NB136_137.out
                have hnc33 := NB137_136.out
                have hnb34 := NB136_139.out
                have hnc34 := NB139_136.out
                obtain ⟨⟨hcz35_0, hcz35_1, hcz35_2⟩, hfz35_0, hfz35_1, hfz35_2⟩ := b3 BK136.out
                have p143 : 0 ≤ ((ji22) : Int) := dt
                have q143 : (ji22) < (l0_2.length : Int) := dt
                obtain ⟨ad143, e143, hx143_0⟩ := Kd.at_int HR0_2.out (ji22) p143 q143
                cases e143
                replace hx143_0 := cx HB hx143_0
                replace p143 := eq_true p143
                replace q143 := eq_true q143
                have hnb36 := NB139_137.out
                have hnc36 := NB137_139.out
                obtain ⟨⟨hcz37_0, hcz37_1, hcz37_2⟩, hfz37_0, hfz37_1, hfz37_2⟩ := b3 BK139.out
                obtain ⟨Ao38, co38, eo38⟩ := Kd.R_slice HO_140000.out
                subst eo38
                have p31 : 0 ≤ (x21_1 : Int) := dt
                have q31 : (x21_1 : Int) < ((x5_2.length : Int) : Int) := dt
                obtain ⟨go31, co31, eo31, gb31, gl31, cl31, HG31⟩ := Kd.R_form HO_5.out (by omega)
                (first | cases eo31 | (injection eo31 with ea_ en_ ec_; (first | subst ea_ | (injection ea_ with ea_; subst ea_)); subst ec_; clear en_))
                have GB31 := Aside0.mk gb31
                have GG31 := Aside0.mk HG31
                clear gb31 gl31 HG31
                obtain ⟨hx31_0, hf31_0⟩ := Kd.R_celln 0 HO_5.out (x21_1 : Int) p31 q31
                replace p31 := eq_true p31
                replace q31 := eq_true q31
                have HP39 := Kd.R_putg HO_5.out (x21_1 : Int) (x140000_2.length : Int)
                go_wp2_with (first | ((with_reducible refine gate_store (t := 3) (p := 45) rfl ?_); refine store_event (t := 3) (p := 45) (v := ?vo_w40) (w1 := (wr.setCell ⟨go31, (x21_1 : Int).toNat, none⟩ (.int .i64 (x140000_2.length : Int)))) ?hg ?ho ?hn ?hr ?_; (case ho => rfl); (case hg => rfl); (case hn => rfl); (case hr => first | (go_simp; done) | (go_simp; rfl)); intro w40 hw; have hg : wr.grownBy w40 (some go31) := (by rw [hw]; exact HP39.2); have hp_ : Kd.R (Kd.int .i64) 3 w40 w.heap.size (fun k_ => some k_ ≠ (.slice Ao38 x140000_2.length co38 : Value).ownBlock) (.slice (some ⟨go31, 0, none⟩) x5_2.length co31) y144 := (by rw [hw, Ny144.out]; exact HP39.1); clear HP39; have n0_ := Aside0.mk (hp_); have n1_ := Aside0.mk (Kd.R_after (v := (.slice (some ⟨go31, 0, none⟩) x5_2.length co31)) (v1 := (.slice (some ⟨go31, 0, none⟩) x5_2.length co31)) (ok := (fun _ => True)) (by (with_reducible repeat (first | apply Kd.R_alloc | apply Kd.R_drewN | apply Kd.R_drew)); exact Kd.R_mono HO_140000.out (fun _ hk => ⟨trivial, hk⟩)) hg (.inl rfl)); have n2_ := Aside0.mk (blk_grown (g := gb136) (o := .cells #[.int .i64 a0_0, .int .i64 a0_1, .slice (some ad143) l0_2.length c0_2] 47 (0, 0)) bk hg (Kd.R_ne HO_5.out BK136.out (by decide))); have n3_ := Aside0.mk (blk_grown (g := gb137) (o := .cells #[.slice none 0 0, .slice none 0 0, .slice none 0 0] 25 (0, 0)) bk hg (Kd.R_ne HO_5.out BK137.out (by decide))); have n4_ := Aside0.mk (blk_grown (g := gb139) (o := .cells #[.slice Ao38 x140000_2.length co38, .slice none 0 0, .slice none 0 0] 25 (0, 0)) bk hg (Kd.R_ne HO_5.out BK139.out (by decide))); have n5_ := Aside0.mk ((by rw [hw]; exact below_set (HB.out) GB31.out : Below w.heap.size w w40)); clear HO_5; clear HO_140000; clear BK136; clear BK137; clear BK139; clear HB; have HO_5 := n0_; have HO_140000 := n1_; have BK136 := n2_; have BK137 := n3_; have BK139 := n4_; have HB := n5_; clear n0_ n1_ n2_ n3_ n4_ n5_; clear hg hw hp_; obtain ⟨⟨hcz41_0, hcz41_1, hcz41_2⟩, hfz41_0, hfz41_1, hfz41_2⟩ := b3 BK139.out) | ((with_reducible refine gate_builtin (b := .append) (xs := #[.tmp 47, .tmp 49]) rfl ?_); at_builtin; refine Kd.R_append (Kd.int .i64) (w0 := w) w.heap.size rfl (.tmp 47) (.tmp 49) 22 3 (.int .i64 0) 8 rfl Try.underlying22 info3 rfl (by decide) (by omega) (.slice Ao38 x140000_2.length co38) x140000_2 x21_1 [.int .i64 x21_1] (fun k_ => some k_ ≠ (.slice (some ⟨go31, 0, none⟩) x5_2.length co31 : Value).ownBlock) (fun _ => False) rfl rfl ?aP (fun _ hk => hk.elim) ?aF ?aO ?aB ?aS ?aL ?_; (case aP => exact rfl); (case aB => exact bl); (case aF => exact (fun k_ hk => Kd.fresh' (Kd.R_lt (kR HO_5)) k_ hk)); (case aO => exact (by (with_reducible repeat (first | apply Kd.R_alloc | apply Kd.R_drewN | apply Kd.R_drew)); exact Kd.R_mono HO_140000.out (fun _ hk => hk.2))); (case aS => exact (below_size bl)); (case aL => have := LMc32.out; omega); intro v146 w42 ho hb hg hat; rw [← Ny145.out] at ho; have n0_ := Aside0.mk (Kd.R_after (ok := (fun _ => True)) (by (with_reducible repeat (first | apply Kd.R_alloc | apply Kd.R_drewN | apply Kd.R_drew)); exact Kd.R_mono HO_5.out (fun _ hk => ⟨trivial, hk⟩)) hg hat); have n1_ := Aside0.mk (blk_grown (g := gb136) (o := .cells #[.int .i64 a0_0, .int .i64 a0_1, .slice (some ad143) l0_2.length c0_2] 47 (0, 0)) bk hg (Kd.R_ne HO_140000.out BK136.out (by decide))); have n2_ := Aside0.mk (blk_grown (g := gb137) (o := .cells #[.slice none 0 0, .slice none 0 0, .slice none 0 0] 25 (0, 0)) bk hg (Kd.R_ne HO_140000.out BK137.out (by decide))); have n3_ := Aside0.mk (blk_grown (g := gb139) (o := .cells #[.slice Ao38 x140000_2.length co38, .slice none 0 0, .slice none 0 0] 25 (0, 0)) bk hg (Kd.R_ne HO_140000.out BK139.out (by decide))); have n4_ := Aside0.mk (hb); have n5_ := Aside0.mk (ho); clear HO_5; clear BK136; clear BK137; clear BK139; clear HB; clear HO_140000; have HO_5 := n0_; have BK136 := n1_; have BK137 := n2_; have BK139 := n3_; have HB := n4_; have HO147 := n5_; clear n0_ n1_ n2_ n3_ n4_ n5_; clear ho hb hg hat; obtain ⟨Ao43, co43, eo43⟩ := Kd.R_slice HO147.out; subst eo43; obtain ⟨⟨hcz44_0, hcz44_1, hcz44_2⟩, hfz44_0, hfz44_1, hfz44_2⟩ := b3 BK139.out))
                go_roundg k2
                case measure => have := HK1.out; have := HK2.out; omega
                case rel => exact ⟨(y144), (wrap64 (x21_1 + 1)), (y145), (.slice Ao43 y145.length co43), (by first | rfl | (simp; done) | (simp [*]; done)), H', ⟨by have := HK1.out; have := HK2.out; omega⟩, ⟨by (with_reducible repeat (first | apply Kd.R_alloc | apply Kd.R_drewN | apply Kd.R_drew)); exact Kd.R_mono (Kd.R_far (p := ⟨gb139, 0, none⟩) (Kd.R_types HO_5.out BK139.out (by decide)) (fun _ hk => hk.2) (.slice Ao43 y145.length co43)) (fun _ hk => hk.1.2)⟩, ⟨by (with_reducible repeat (first | apply Kd.R_alloc | apply Kd.R_drewN | apply Kd.R_drew)); exact Kd.R_mono (Kd.R_far (p := ⟨gb139, 0, none⟩) (Kd.R_types HO147.out BK139.out (by decide)) (fun _ hk => hk.2) (.slice Ao43 y145.length co43)) (fun _ hk => hk.1)⟩, ⟨by (with_reducible repeat (first | refine blk_drewN ?_ _ | refine blk_drew ?_ | refine blk_alloc ?_ _)); refine blk_far ?_ NB136_139.out _; (with_reducible repeat (first | refine blk_drewN ?_ _ | refine blk_drew ?_ | refine blk_alloc ?_ _)); exact BK136.out⟩, ⟨by (with_reducible repeat (first | refine blk_drewN ?_ _ | refine blk_drew ?_ | refine blk_alloc ?_ _)); refine blk_far ?_ NB137_139.out _; (with_reducible repeat (first | refine blk_drewN ?_ _ | refine blk_drew ?_ | refine blk_alloc ?_ _)); exact BK137.out⟩, ⟨by (with_reducible repeat (first | refine blk_drewN ?_ _ | refine blk_drew ?_ | refine blk_alloc ?_ _)); refine blk_put (cs := #[.slice Ao38 x140000_2.length co38, .slice none 0 0, .slice none 0 0]) ?_ 0 _ rfl; (with_reducible repeat (first | refine blk_drewN ?_ _ | refine blk_drew ?_ | refine blk_alloc ?_ _)); exact BK139.out⟩, ⟨bl⟩⟩
               ·rw [if_neg c32] at H
                exact absurd H (by simp)
              ·rw [if_neg c30] at H
               exact absurd H (by simp)
             ·rw [if_neg c29] at H
              exact absurd H (by simp)
           ·rw [if_neg c24] at H
            exact absurd H (by simp)
          ·rw [if_neg c23] at H
           exact absurd H (by simp)
         ·rw [if_neg c21] at H
          have c21b0 : decide (x26_2 < a0_0) = false := decide_eq_false c21
          clear c21
          have H' := Aside0.mk H
          clear H
          go_wp2
          go_roundg k2
          case measure => have := HK1.out; have := HK2.out; omega
          case rel => exact ⟨(x5_2), (wrap64 (x21_1 + 1)), (x140000_2), (u140000), (by first | rfl | (simp; done) | (simp [*]; done)), H', ⟨by have := HK1.out; have := HK2.out; omega⟩, ⟨kR HO_5⟩, ⟨kR HO_140000⟩, ⟨bk⟩, ⟨bk⟩, ⟨bk⟩, ⟨bl⟩⟩
      ·rw [if_neg c17] at H
       have c17b0 : decide (x21_1 < a0_1) = false := decide_eq_false c17
       clear c17
       have H' := Aside0.mk H
       clear H
       have hnb45 := NB136_137.out
       have hnc45 := NB137_136.out
       have hnb46 := NB136_139.out
       have hnc46 := NB139_136.out
       obtain ⟨⟨hcz47_0, hcz47_1, hcz47_2⟩, hfz47_0, hfz47_1, hfz47_2⟩ := b3 BK136.out
       go_wp2
       go_loopg [56] k1 (fun kq v56 w' => ∃ (x56_2 : Int) (x140001_2 : List (List (S64))) (x140002_2 : List Int) (u140001 : Value) (u140002 : Value), v56 = .int .i64 x56_2 ∧ Aside0 (flow_Of.l2 kq x5_1 a0_0 x56_2 a0_0 a0_1 l0_2 x140000_1 x140001_2 x140002_2 = some (r1, r2, r3, r4)) ∧ Aside0 (kq ≤ k1) ∧ Aside0 (Kd.R (Kd.int .i64) 3 w' w.heap.size (fun k_ => some k_ ≠ (u140000 : Value).ownBlock ∧ some k_ ≠ (u140002 : Value).ownBlock) v141 x5_1) ∧ Aside0 (Kd.R (Kd.int .i64) 3 w' w.heap.size (fun k_ => some k_ ≠ (v141 : Value).ownBlock ∧ some k_ ≠ (u140002 : Value).ownBlock) u140000 x140000_1) ∧ Aside0 (Kd.S (Kd.slice 64 k64) 62 w' w.heap.size (fun _ => True) u140001 x140001_2) ∧ Aside0 (Kd.R (Kd.int .i64) 3 w' w.heap.size (fun k_ => some k_ ≠ (v141 : Value).ownBlock ∧ some k_ ≠ (u140000 : Value).ownBlock) u140002 x140002_2) ∧ Aside0 (w'.heap[gb136]? = some (.cells #[.int .i64 a0_0, .int .i64 a0_1, (.slice A0_2 l0_2.length c0_2)] 47 (0, 0))) ∧ Aside0 (w'.heap[gb137]? = some (.cells #[(.slice none 0 0), (.slice none 0 0), (.slice none 0 0)] 25 (0, 0))) ∧ Aside0 (w'.heap[gb139]? = some (.cells #[u140000, u140001, u140002] 25 (0, 0))) ∧ Aside0 (Below w.heap.size w w'))
       case atStart => exact ⟨(0), (([] : List (List (S64)))), (([] : List Int)), (.slice none 0 0), (.slice none 0 0), (by first | rfl | (simp; done) | (simp [*]; done)), H', ⟨Nat.le_refl _⟩, ⟨by (with_reducible repeat (first | apply Kd.R_alloc | apply Kd.R_drewN | apply Kd.R_drew)); exact Kd.R_mono HO_5.out (fun _ hk => ⟨hk, (by simp [Value.ownBlock])⟩)⟩, ⟨by (with_reducible repeat (first | apply Kd.R_alloc | apply Kd.R_drewN | apply Kd.R_drew)); exact Kd.R_mono HO_140000.out (fun _ hk => ⟨hk, (by simp [Value.ownBlock])⟩)⟩, ⟨by first | exact Kd.S_nil _ _ _ _ _ | exact Kd.N_nil _ _ _ _ _ | exact Kd.V_nil _ _ _ _ _ | exact Kd.Q_nil _ _ _ _ _ | exact Kd.R_nil _ _ _ _ _⟩, ⟨by first | exact Kd.R_nil _ _ _ _ _ | exact Kd.N_nil _ _ _ _ _ | exact Kd.V_nil _ _ _ _ _ | exact Kd.Q_nil _ _ _ _ _ | exact Kd.S_nil _ _ _ _ _⟩, ⟨bk⟩, ⟨bk⟩, ⟨bk⟩, ⟨bl⟩⟩
       case round =>
        clear H'
        (try clear c1); (try clear p1); (try clear q1); (try clear hx1); (try clear c2); (try clear p2); (try clear c3); (try clear p3); (try clear q3); (try clear hx3); (try clear hf3); (try clear c4); (try clear c4b0); (try clear c4b1); (try clear c5); (try clear c5b0); (try clear c5b1); (try clear p6); (try clear c8); (try clear c12); (try clear p14); (try clear q14); (try clear hx14); (try clear c17); (try clear c17b0); (try clear c18); (try clear c19); (try clear c21); (try clear c21b0); (try clear c23); (try clear c23b0); (try clear c24); (try clear c24b0); (try clear c25); (try clear c25b0); (try clear c25b1); (try clear c26); (try clear c27); (try clear c29); (try clear c29b0); (try clear c30); (try clear c30b0); (try clear p31); (try clear q31); (try clear hx31); (try clear hf31); (try clear c32); (try clear c33); (try clear c34); (try clear c36); (try clear c45); (try clear c46); (try clear hcz13_0 hcz13_1 hcz13_2 hfz13_0 hfz13_1 hfz13_2); (try clear hcz16_0 hcz16_1 hcz16_2 hfz16_0 hfz16_1 hfz16_2); (try clear hcz20_0 hcz20_1 hcz20_2 hfz20_0 hfz20_1 hfz20_2); (try clear hcz28_0 hcz28_1 hcz28_2 hfz28_0 hfz28_1 hfz28_2); (try clear hcz35_0 hcz35_1 hcz35_2 hfz35_0 hfz35_1 hfz35_2); (try clear hcz37_0 hcz37_1 hcz37_2 hfz37_0 hfz37_1 hfz37_2); (try clear hcz41_0 hcz41_1 hcz41_2 hfz41_0 hfz41_1 hfz41_2); (try clear hcz44_0 hcz44_1 hcz44_2 hfz44_0 hfz44_1 hfz44_2); (try clear hcz47_0 hcz47_1 hcz47_2 hfz47_0 hfz47_1 hfz47_2); (try clear hcz9_0 hcz9_1 hcz9_2 hfz9_0 hfz9_1 hfz9_2); (try clear hx143_0); (try clear hx31_0); (try clear p143); (try clear q143)
        obtain ⟨x56_2, x140001_2, x140002_2, u140001, u140002, rfl, HA, HK2, HO_5, HO_140000, HO_140001, HO_140002, BK136, BK137, BK139, HB⟩ := hrel
        cases gk with
        | zero => exact absurd HA.out (by simp [flow_Of.l2])
        | succ k2 =>
         have H := HA.out
         clear HA
         simp only [flow_Of.l2] at H
         by_cases c48 : x56_2 < a0_0
         ·rw [if_pos c48] at H
          have c48b0 : decide (x56_2 < a0_0) = true := decide_eq_true c48
          clear c48
          obtain ⟨ji49, hji49⟩ : ∃ j_ : Int, (wrap64 (x56_2 * a0_1)) = j_ := ⟨_, rfl⟩
          replace H : (if 0 ≤ (ji49) then (if (ji49) ≤ (wrap64 ((wrap64 (x56_2 + 1)) * a0_1)) then (if (wrap64 ((wrap64 (x56_2 + 1)) * a0_1)) ≤ (l0_2.length : Int) then (flow_Of.l3 k2 x5_1 x56_2 ([] : List (S64)) a0_0 x56_2 ((l0_2.take ((wrap64 ((wrap64 (x56_2 + 1)) * a0_1)) : Int).toNat).drop ((ji49) : Int).toNat) (((l0_2.take ((wrap64 ((wrap64 (x56_2 + 1)) * a0_1)) : Int).toNat).drop ((ji49) : Int).toNat).length : Int) 0 a0_0 a0_1 l0_2 x140000_1 x140001_2 x140002_2) else (none)) else (none)) else (none)) = some (r1, r2, r3, r4) := by first | (rw [hji49] at H; exact H) | (simp only [hji49] at H ⊢; exact H)
          have hji49w : (IntKind.i64.wrap (x56_2 * a0_1)) = ji49 := (i64_w _).trans hji49
          by_cases c50 : 0 ≤ (ji49)
          ·rw [if_pos c50] at H
           have c50b0 := eq_true c50
           have c50b1 : decide (0 ≤ (ji49)) = true := decide_eq_true c50
           clear c50
           by_cases c51 : (ji49) ≤ (wrap64 ((wrap64 (x56_2 + 1)) * a0_1))
           ·rw [if_pos c51] at H
            have c51b0 := eq_true c51
            have c51b1 : decide ((ji49) ≤ (wrap64 ((wrap64 (x56_2 + 1)) * a0_1))) = true := decide_eq_true c51
            by_cases c52 : (wrap64 ((wrap64 (x56_2 + 1)) * a0_1)) ≤ (l0_2.length : Int)
            ·rw [if_pos c52] at H
             have c52b0 := eq_true c52
             have c52b1 : decide ((wrap64 ((wrap64 (x56_2 + 1)) * a0_1)) ≤ (l0_2.length : Int)) = true := decide_eq_true c52
             have H' := Aside0.mk H
             clear H
             have hnb53 := NB136_137.out
             have hnc53 := NB137_136.out
             have hnb54 := NB136_139.out
             have hnc54 := NB139_136.out
             obtain ⟨⟨hcz55_0, hcz55_1, hcz55_2⟩, hfz55_0, hfz55_1, hfz55_2⟩ := b3 BK136.out
             obtain ⟨i056, hi056, _, hsz56, _⟩ := info_parts info5
             obtain ⟨A56, hcut56, hA56, hC56⟩ := print_mid_of (P := Try.prog) (Value.int .u8) 0 45 5 .i64 .i64 Try.underlying45 hi056 hsz56 A0_2 c0_2 l0_2 (ji49) (wrap64 ((wrap64 (x56_2 + 1)) * a0_1)) (dt) (by first | omega | exact dt) (dt) HC0_2.out
             have HR148 := Aside0.mk (Kd.C_of_reads (h1 := fun _ => rfl) (hA56 _ (Kd.reads_of_C HR0_2.out)))
             have HC148 := Aside0.mk hC56
             clear hA56 hC56 hi056 hsz56
             go_wp2
             have hLn_ : ((l0_2.take ((wrap64 ((wrap64 (x56_2 + 1)) * a0_1)) : Int).toNat).drop ((ji49) : Int).toNat).length = (wrap64 ((wrap64 (x56_2 + 1)) * a0_1) : Int).toNat - (ji49 : Int).toNat := by
              have h_ : (wrap64 ((wrap64 (x56_2 + 1)) * a0_1)) ≤ (l0_2.length : Int) := of_decide_eq_true (by assumption)
              rw [List.length_drop, List.length_take, Nat.min_eq_left (by omega)]
             rw [← hLn_]
             clear hLn_
             generalize hsub_ : ((l0_2.take ((wrap64 ((wrap64 (x56_2 + 1)) * a0_1)) : Int).toNat).drop ((ji49) : Int).toNat) = sub1_ at HR148 HC148 H' ⊢
             clear hsub_
             go_loopg [9, 72] k2 (fun kq v9 v72 w' => ∃ (x9_3 : List (S64)) (x72_3 : Int), v72 = .int .i64 x72_3 ∧ Aside0 (flow_Of.l3 kq x5_1 x56_2 x9_3 a0_0 x56_2 sub1_ (sub1_.length : Int) x72_3 a0_0 a0_1 l0_2 x140000_1 x140001_2 x140002_2 = some (r1, r2, r3, r4)) ∧ Aside0 (kq ≤ k2) ∧ Aside0 (Kd.R (Kd.int .i64) 3 w' w.heap.size (fun k_ => some k_ ≠ (u140000 : Value).ownBlock ∧ some k_ ≠ (u140002 : Value).ownBlock) v141 x5_1) ∧ Aside0 (Kd.R k64 64 w' w.heap.size (fun _ => True) v9 x9_3) ∧ Aside0 (Kd.R (Kd.int .i64) 3 w' w.heap.size (fun k_ => some k_ ≠ (v141 : Value).ownBlock ∧ some k_ ≠ (u140002 : Value).ownBlock) u140000 x140000_1) ∧ Aside0 (Kd.S (Kd.slice 64 k64) 62 w' w.heap.size (fun k_ => some k_ ≠ (v9 : Value).ownBlock) u140001 x140001_2) ∧ Aside0 (Kd.R (Kd.int .i64) 3 w' w.heap.size (fun k_ => some k_ ≠ (v141 : Value).ownBlock ∧ some k_ ≠ (u140000 : Value).ownBlock) u140002 x140002_2) ∧ Aside0 (w'.heap[gb136]? = some (.cells #[.int .i64 a0_0, .int .i64 a0_1, (.slice A0_2 l0_2.length c0_2)] 47 (0, 0))) ∧ Aside0 (w'.heap[gb137]? = some (.cells #[(.slice none 0 0), (.slice none 0 0), (.slice none 0 0)] 25 (0, 0))) ∧ Aside0 (w'.heap[gb139]? = some (.cells #[u140000, u140001, u140002] 25 (0, 0))) ∧ Aside0 (Below w.heap.size w w'))
             case atStart => exact ⟨(([] : List (S64))), (0), (by first | rfl | (simp; done) | (simp [*]; done)), H', ⟨Nat.le_refl _⟩, ⟨kR HO_5⟩, ⟨by first | exact Kd.R_nil _ _ _ _ _ | exact Kd.N_nil _ _ _ _ _ | exact Kd.V_nil _ _ _ _ _ | exact Kd.Q_nil _ _ _ _ _ | exact Kd.S_nil _ _ _ _ _⟩, ⟨kR HO_140000⟩, ⟨by (with_reducible repeat (first | apply Kd.S_alloc | apply Kd.S_drewN | apply Kd.S_drew)); exact Kd.S_mono HO_140001.out (fun _ hk => (by simp [Value.ownBlock]))⟩, ⟨kR HO_140002⟩, ⟨bk⟩, ⟨bk⟩, ⟨bk⟩, ⟨bl⟩⟩
             case round =>
              clear H'
              (try clear c1); (try clear p1); (try clear q1); (try clear hx1); (try clear c2); (try clear p2); (try clear c3); (try clear p3); (try clear q3); (try clear hx3); (try clear hf3); (try clear c4); (try clear c4b0); (try clear c4b1); (try clear c5); (try clear c5b0); (try clear c5b1); (try clear p6); (try clear c8); (try clear c12); (try clear p14); (try clear q14); (try clear hx14); (try clear c17); (try clear c17b0); (try clear c18); (try clear c19); (try clear c21); (try clear c21b0); (try clear c23); (try clear c23b0); (try clear c24); (try clear c24b0); (try clear c25); (try clear c25b0); (try clear c25b1); (try clear c26); (try clear c27); (try clear c29); (try clear c29b0); (try clear c30); (try clear c30b0); (try clear p31); (try clear q31); (try clear hx31); (try clear hf31); (try clear c32); (try clear c33); (try clear c34); (try clear c36); (try clear c45); (try clear c46); (try clear c48); (try clear c48b0); (try clear c50); (try clear c50b0); (try clear c50b1); (try clear c51); (try clear c51b0); (try clear c51b1); (try clear c52); (try clear c52b0); (try clear c52b1); (try clear c53); (try clear c54); (try clear hcz13_0 hcz13_1 hcz13_2 hfz13_0 hfz13_1 hfz13_2); (try clear hcz16_0 hcz16_1 hcz16_2 hfz16_0 hfz16_1 hfz16_2); (try clear hcz20_0 hcz20_1 hcz20_2 hfz20_0 hfz20_1 hfz20_2); (try clear hcz28_0 hcz28_1 hcz28_2 hfz28_0 hfz28_1 hfz28_2); (try clear hcz35_0 hcz35_1 hcz35_2 hfz35_0 hfz35_1 hfz35_2); (try clear hcz37_0 hcz37_1 hcz37_2 hfz37_0 hfz37_1 hfz37_2); (try clear hcz41_0 hcz41_1 hcz41_2 hfz41_0 hfz41_1 hfz41_2); (try clear hcz44_0 hcz44_1 hcz44_2 hfz44_0 hfz44_1 hfz44_2); (try clear hcz47_0 hcz47_1 hcz47_2 hfz47_0 hfz47_1 hfz47_2); (try clear hcz55_0 hcz55_1 hcz55_2 hfz55_0 hfz55_1 hfz55_2); (try clear hcz9_0 hcz9_1 hcz9_2 hfz9_0 hfz9_1 hfz9_2); (try clear hx143_0); (try clear hx31_0); (try clear p143); (try clear q143)
              obtain ⟨x9_3, x72_3, rfl, HA, HK3, HO_5, HO_9, HO_140000, HO_140001, HO_140002, BK136, BK137, BK139, HB⟩ := hrel
              cases gk with
              | zero => exact absurd HA.out (by simp [flow_Of.l3])
              | succ k3 =>
               have H := HA.out
               clear HA
               simp only [flow_Of.l3] at H
               by_cases c57 : x72_3 < (sub1_.length : Int)
               ·rw [if_pos c57] at H
                have c57b0 : decide (x72_3 < (sub1_.length : Int)) = true := decide_eq_true c57
                clear c57
                by_cases c58 : 0 ≤ x72_3
                ·rw [if_pos c58] at H
                 have c58b0 : decide (0 ≤ x72_3) = true := decide_eq_true c58
                 clear c58
                 by_cases c59 : x72_3 < (sub1_.length : Int)
                 ·rw [if_pos c59] at H
                  have c59b0 : decide (x72_3 < (sub1_.length : Int)) = true := decide_eq_true c59
                  clear c59
                  by_cases c60 : (rd sub1_ x72_3) = 0
                  ·rw [if_pos c60] at H
                   have c60b0 : ((rd sub1_ x72_3) == 0) = true := beq_iff_eq.mpr c60
                   have c60b1 : ((rd sub1_ x72_3) != 0) = false := bne_eq_false_iff_eq.mpr c60
                   clear c60
                   have H' := Aside0.mk H
                   clear H
                   have p149 : 0 ≤ (x72_3 : Int) := dt
                   have q149 : x72_3 < (sub1_.length : Int) := dt
                   obtain ⟨ad149, e149, hx149_0⟩ := Kd.at_int HR148.out x72_3 p149 q149
                   cases e149
                   replace hx149_0 := cx HB hx149_0
                   replace p149 := eq_true p149
                   replace q149 := eq_true q149
                   go_wp2
                   go_roundg k3
                   case measure => have := HK1.out; have := HK2.out; have := HK3.out; omega
                   case rel => exact ⟨(x9_3), (wrap64 (x72_3 + 1)), (by first | rfl | (simp; done) | (simp [*]; done)), H', ⟨by have := HK1.out; have := HK2.out; have := HK3.out; omega⟩, ⟨kR HO_5⟩, ⟨kR HO_9⟩, ⟨kR HO_140000⟩, ⟨kS HO_140001⟩, ⟨kR HO_140002⟩, ⟨bk⟩, ⟨bk⟩, ⟨bk⟩, ⟨bl⟩⟩
                  ·rw [if_neg c60] at H
                   have c60b0 : ((rd sub1_ x72_3) == 0) = false := beq_eq_false_iff_ne.mpr c60
                   have c60b1 : ((rd sub1_ x72_3) != 0) = true := bne_iff_ne.mpr c60
                   by_cases c61 : x72_3 < (x5_1.length : Int)
                   ·rw [if_pos c61] at H
                    have c61b0 : decide (x72_3 < (x5_1.length : Int)) = true := decide_eq_true c61
                    clear c61
                    by_cases c62 : x9_3.length < 8796093022208
                    ·rw [if_pos c62] at H
                     have LMc62 := Aside0.mk c62
                     clear c62
                     obtain ⟨y151, hy151⟩ : ∃ y_ : List (S64), y_ = (x9_3 ++ [(⟨rd x5_1 x72_3, rd sub1_ x72_3⟩ : S64)]) := ⟨_, rfl⟩
                     replace H : (flow_Of.l3 k3 x5_1 x56_2 y151 a0_0 x56_2 sub1_ (sub1_.length : Int) (wrap64 (x72_3 + 1)) a0_0 a0_1 l0_2 x140000_1 x140001_2 x140002_2) = some (r1, r2, r3, r4) := by first | (rw [hy151]; with_reducible exact H) | (have H2_ := (Option.bind_some _ _).symm.trans H; rw [hy151]; with_reducible exact H2_) | (have H2_ := (Option.bind_some _ _).symm.trans H; with_reducible exact H2_) | with_reducible exact H | (rw [hy151]; exact H) | exact H
                     have Ny151 := Aside0.mk hy151
                     clear hy151
                     have H' := Aside0.mk H
                     clear H
                     have p149 : 0 ≤ (x72_3 : Int) := dt
                     have q149 : x72_3 < (sub1_.length : Int) := dt
                     obtain ⟨ad149, e149, hx149_0⟩ := Kd.at_int HR148.out x72_3 p149 q149
                     cases e149
                     replace hx149_0 := cx HB hx149_0
                     replace p149 := eq_true p149
                     replace q149 := eq_true q149
                     obtain ⟨Ao63, co63, eo63⟩ := Kd.R_slice HO_5.out
                     subst eo63
                     have p150 : 0 ≤ (x72_3 : Int) := dt
                     have q150 : x72_3 < (x5_1.length : Int) := dt
                     obtain ⟨ad150, e150, hx150_0⟩ := Kd.at_int (Kd.R_reads' HO_5.out).2.2 x72_3 p150 q150
                     cases e150
                     replace p150 := eq_true p150
                     replace q150 := eq_true q150
                     go_wp2_with (first | ((with_reducible refine gate_builtin (b := .append) (xs := #[.tmp 79, .tmp 86]) rfl ?_); at_builtin; refine Kd.R_append k64 (w0 := w) w.heap.size rfl (.tmp 79) (.tmp 86) 62 64 (.agg #[(.int .i64 0), (.int .u8 0)]) 16 rfl Try.underlying62 info64 rfl (by decide) (by omega) u9 x9_3 (⟨rd x5_1 x72_3, rd sub1_ x72_3⟩ : S64) [.int .i64 (rd x5_1 x72_3), .int .u8 (rd sub1_ x72_3)] (fun _ => True) (fun _ => False) rfl rfl ?aP (fun _ hk => hk.elim) ?aF ?aO ?aB ?aS ?aL ?_; (case aP => exact k64_mkM _ _ _ (⟨rd x5_1 x72_3, rd sub1_ x72_3⟩ : S64)); (case aB => exact bl); (case aF => exact (fun _ _ => trivial)); (case aO => exact (kR HO_9)); (case aS => exact (below_size bl)); (case aL => have := LMc62.out; omega); intro v152 w64 ho hb hg hat; rw [← Ny151.out] at ho; have n0_ := Aside0.mk (Kd.R_over' (kR HO_5) (Kd.R_typed (kR HO_9)) (by decide) hg); have n1_ := Aside0.mk (Kd.R_over' (kR HO_140000) (Kd.R_typed (kR HO_9)) (by decide) hg); have n2_ := Aside0.mk (Kd.S_after (ok := (fun _ => True)) (by (with_reducible repeat (first | apply Kd.S_alloc | apply Kd.S_drewN | apply Kd.S_drew)); exact Kd.S_mono HO_140001.out (fun _ hk => ⟨trivial, hk⟩)) hg hat); have n3_ := Aside0.mk (Kd.R_over' (kR HO_140002) (Kd.R_typed (kR HO_9)) (by decide) hg); have n4_ := Aside0.mk (blk_grown (g := gb136) (o := .cells #[.int .i64 a0_0, .int .i64 a0_1, .slice A0_2 l0_2.length c0_2] 47 (0, 0)) bk hg (Kd.R_ne HO_9.out BK136.out (by decide))); have n5_ := Aside0.mk (blk_grown (g := gb137) (o := .cells #[.slice none 0 0, .slice none 0 0, .slice none 0 0] 25 (0, 0)) bk hg (Kd.R_ne HO_9.out BK137.out (by decide))); have n6_ := Aside0.mk (blk_grown (g := gb139) (o := .cells #[u140000, u140001, u140002] 25 (0, 0)) bk hg (Kd.R_ne HO_9.out BK139.out (by decide))); have n7_ := Aside0.mk (hb); have n8_ := Aside0.mk (ho); clear HO_5; clear HO_140000; clear HO_140001; clear HO_140002; clear BK136; clear BK137; clear BK139; clear HB; clear HO_9; have HO_5 := n0_; have HO_140000 := n1_; have HO_140001 := n2_; have HO_140002 := n3_; have BK136 := n4_; have BK137 := n5_; have BK139 := n6_; have HB := n7_; have HO153 := n8_; clear n0_ n1_ n2_ n3_ n4_ n5_ n6_ n7_ n8_; clear ho hb hg hat))
                     go_roundg k3
                     case measure => have := HK1.out; have := HK2.out; have := HK3.out; omega
                     case rel => exact ⟨(y151), (wrap64 (x72_3 + 1)), (by first | rfl | (simp; done) | (simp [*]; done)), H', ⟨by have := HK1.out; have := HK2.out; have := HK3.out; omega⟩, ⟨kR HO_5⟩, ⟨kR HO153⟩, ⟨kR HO_140000⟩, ⟨by (with_reducible repeat (first | apply Kd.S_alloc | apply Kd.S_drewN | apply Kd.S_drew)); exact Kd.S_mono HO_140001.out (fun _ hk => hk.2)⟩, ⟨kR HO_140002⟩, ⟨bk⟩, ⟨bk⟩, ⟨bk⟩, ⟨bl⟩⟩
                    ·rw [if_neg c62] at H
                     exact absurd H (by simp)
                   ·rw [if_neg c61] at H
                    exact absurd H (by simp)
                 ·rw [if_neg c59] at H
                  exact absurd H (by simp)
                ·rw [if_neg c58] at H
                 exact absurd H (by simp)
               ·rw [if_neg c57] at H
                have c57b0 : decide (x72_3 < (sub1_.length : Int)) = false := decide_eq_false c57
                clear c57
                by_cases c65 : x140002_2.length < 17592186044416
                ·rw [if_pos c65] at H
                 have LMc65 := Aside0.mk c65
                 clear c65
                 obtain ⟨y154, hy154⟩ : ∃ y_ : List Int, y_ = (x140002_2 ++ [wrap64 ((x140000_1.length : Int) + x56_2)]) := ⟨_, rfl⟩
                 replace H : (if x140001_2.length < 5864062014805 then (flow_Of.l2 k3 x5_1 a0_0 (wrap64 (x56_2 + 1)) a0_0 a0_1 l0_2 x140000_1 (x140001_2 ++ [x9_3]) y154) else (none)) = some (r1, r2, r3, r4) := by first | (rw [hy154]; with_reducible exact H) | (have H2_ := (Option.bind_some _ _).symm.trans H; rw [hy154]; with_reducible exact H2_) | (have H2_ := (Option.bind_some _ _).symm.trans H; with_reducible exact H2_) | with_reducible exact H | (rw [hy154]; exact H) | exact H
                 have Ny154 := Aside0.mk hy154
                 clear hy154
                 by_cases c66 : x140001_2.length < 5864062014805
                 ·rw [if_pos c66] at H
                  have LMc66 := Aside0.mk c66
                  clear c66
                  obtain ⟨y157, hy157⟩ : ∃ y_ : List (List (S64)), y_ = (x140001_2 ++ [x9_3]) := ⟨_, rfl⟩
                  replace H : (flow_Of.l2 k3 x5_1 a0_0 (wrap64 (x56_2 + 1)) a0_0 a0_1 l0_2 x140000_1 y157 y154) = some (r1, r2, r3, r4) := by first | (rw [hy157]; with_reducible exact H) | (have H2_ := (Option.bind_some _ _).symm.trans H; rw [hy157]; with_reducible exact H2_) | (have H2_ := (Option.bind_some _ _).symm.trans H; with_reducible exact H2_) | with_reducible exact H | (rw [hy157]; exact H) | exact H
                  have Ny157 := Aside0.mk hy157
                  clear hy157
                  have H' := Aside0.mk H
                  clear H
                  have hnb67 := NB139_136.out
                  have hnc67 := NB136_139.out
                  have hnb68 := NB139_137.out
                  have hnc68 := NB137_139.out
                  obtain ⟨⟨hcz69_0, hcz69_1, hcz69_2⟩, hfz69_0, hfz69_1, hfz69_2⟩ := b3 BK139.out
                  obtain ⟨Ao70, co70, eo70⟩ := Kd.R_slice HO_140000.out
                  subst eo70
                  go_wp2_with (first | ((with_reducible refine gate_builtin (b := .append) (xs := #[.tmp 90, .tmp 96]) rfl ?_); at_builtin; refine Kd.R_append (Kd.int .i64) (w0 := w) w.heap.size rfl (.tmp 90) (.tmp 96) 22 3 (.int .i64 0) 8 rfl Try.underlying22 info3 rfl (by decide) (by omega) u140002 x140002_2 (wrap64 ((x140000_1.length : Int) + x56_2)) [.int .i64 (wrap64 ((x140000_1.length : Int) + x56_2))] (fun k_ => some k_ ≠ (v141 : Value).ownBlock ∧ some k_ ≠ (.slice Ao70 x140000_1.length co70 : Value).ownBlock) (fun _ => False) rfl rfl ?aP (fun _ hk => hk.elim) ?aF ?aO ?aB ?aS ?aL ?_; (case aP => exact rfl); (case aB => exact bl); (case aF => exact (fun k_ hk => ⟨Kd.fresh' (Kd.R_lt (kR HO_5)) k_ hk, Kd.fresh' (Kd.R_lt (kR HO_140000)) k_ hk⟩)); (case aO => exact (kR HO_140002)); (case aS => exact (below_size bl)); (case aL => have := LMc65.out; omega); intro v155 w71 ho hb hg hat; rw [← Ny154.out] at ho; have n0_ := Aside0.mk (Kd.R_after (ok := (fun k_ => some k_ ≠ (.slice Ao70 x140000_1.length co70 : Value).ownBlock)) (kR HO_5) hg hat); have n1_ := Aside0.mk (Kd.R_over' (kR HO_9) (Kd.R_typed (kR HO_140002)) (by decide) hg); have n2_ := Aside0.mk (Kd.R_after (ok := (fun k_ => some k_ ≠ (v141 : Value).ownBlock)) (kR HO_140000) hg hat); have n3_ := Aside0.mk (Kd.S_over' (kS HO_140001) (Kd.R_typed (kR HO_140002)) (by decide) hg); have n4_ := Aside0.mk (blk_grown (g := gb136) (o := .cells #[.int .i64 a0_0, .int .i64 a0_1, .slice A0_2 l0_2.length c0_2] 47 (0, 0)) bk hg (Kd.R_ne HO_140002.out BK136.out (by decide))); have n5_ := Aside0.mk (blk_grown (g := gb137) (o := .cells #[.slice none 0 0, .slice none 0 0, .slice none 0 0] 25 (0, 0)) bk hg (Kd.R_ne HO_140002.out BK137.out (by decide))); have n6_ := Aside0.mk (blk_grown (g := gb139) (o := .cells #[.slice Ao70 x140000_1.length co70, u140001, u140002] 25 (0, 0)) bk hg (Kd.R_ne HO_140002.out BK139.out (by decide))); have n7_ := Aside0.mk (hb); have n8_ := Aside0.mk (ho); clear HO_5; clear HO_9; clear HO_140000; clear HO_140001; clear BK136; clear BK137; clear BK139; clear HB; clear HO_140002; have HO_5 := n0_; have HO_9 := n1_; have HO_140000 := n2_; have HO_140001 := n3_; have BK136 := n4_; have BK137 := n5_; have BK139 := n6_; have HB := n7_; have HO156 := n8_; clear n0_ n1_ n2_ n3_ n4_ n5_ n6_ n7_ n8_; clear ho hb hg hat; obtain ⟨Ao72, co72, eo72⟩ := Kd.R_slice HO156.out; subst eo72; obtain ⟨⟨hcz73_0, hcz73_1, hcz73_2⟩, hfz73_0, hfz73_1, hfz73_2⟩ := b3 BK139.out) | ((with_reducible refine gate_store (t := 22) (p := 98) rfl ?_); refine store_event (t := 22) (p := 98) (v := ?vo_w74) (w1 := (w71.setCell ⟨gb139, 2, none⟩ (.slice Ao72 y154.length co72))) ?hg ?ho ?hn ?hr ?_; (case ho => rfl); (case hg => rfl); (case hn => rfl); (case hr => first | (go_simp; done) | (go_simp; rfl)); intro w74 hw; have n0_ : Aside0 (Kd.R (Kd.int .i64) 3 w74 w.heap.size (fun k_ => some k_ ≠ (.slice Ao70 x140000_1.length co70 : Value).ownBlock ∧ some k_ ≠ (.slice Ao72 y154.length co72 : Value).ownBlock) v141 x5_1) := ⟨(by rw [hw]; exact (by (with_reducible repeat (first | apply Kd.R_alloc | apply Kd.R_drewN | apply Kd.R_drew)); exact Kd.R_mono (Kd.R_far (p := ⟨gb139, 2, none⟩) (Kd.R_types HO_5.out BK139.out (by decide)) (fun _ hk => hk.2) (.slice Ao72 y154.length co72)) (fun _ hk => ⟨hk.1.1, hk.1.2⟩)))⟩; have n1_ : Aside0 (Kd.R k64 64 w74 w.heap.size (fun _ => True) u9 x9_3) := ⟨(by rw [hw]; exact (by (with_reducible repeat (first | apply Kd.R_alloc | apply Kd.R_drewN | apply Kd.R_drew)); exact Kd.R_mono (Kd.R_far (p := ⟨gb139, 2, none⟩) (Kd.R_types HO_9.out BK139.out (by decide)) (fun _ hk => hk.2) (.slice Ao72 y154.length co72)) (fun _ hk => trivial)))⟩; have n2_ : Aside0 (Kd.R (Kd.int .i64) 3 w74 w.heap.size (fun k_ => some k_ ≠ (v141 : Value).ownBlock ∧ some k_ ≠ (.slice Ao72 y154.length co72 : Value).ownBlock) (.slice Ao70 x140000_1.length co70) x140000_1) := ⟨(by rw [hw]; exact (by (with_reducible repeat (first | apply Kd.R_alloc | apply Kd.R_drewN | apply Kd.R_drew)); exact Kd.R_mono (Kd.R_far (p := ⟨gb139, 2, none⟩) (Kd.R_types HO_140000.out BK139.out (by decide)) (fun _ hk => hk.2) (.slice Ao72 y154.length co72)) (fun _ hk => ⟨hk.1.1, hk.1.2⟩)))⟩; have n3_ : Aside0 (Kd.S (Kd.slice 64 k64) 62 w74 w.heap.size (fun k_ => some k_ ≠ (u9 : Value).ownBlock) u140001 x140001_2) := ⟨(by rw [hw]; exact (by (with_reducible repeat (first | apply Kd.S_alloc | apply Kd.S_drewN | apply Kd.S_drew)); exact Kd.S_mono (Kd.S_far (p := ⟨gb139, 2, none⟩) (Kd.S_types HO_140001.out BK139.out (by decide)) (fun _ hk => hk.2) (.slice Ao72 y154.length co72)) (fun _ hk => hk.1)))⟩; have n4_ : Aside0 (Kd.R (Kd.int .i64) 3 w74 w.heap.size (fun k_ => some k_ ≠ (v141 : Value).ownBlock ∧ some k_ ≠ (.slice Ao70 x140000_1.length co70 : Value).ownBlock) (.slice Ao72 y154.length co72) y154) := ⟨(by rw [hw]; exact (by (with_reducible repeat (first | apply Kd.R_alloc | apply Kd.R_drewN | apply Kd.R_drew)); exact Kd.R_mono (Kd.R_far (p := ⟨gb139, 2, none⟩) (Kd.R_types HO156.out BK139.out (by decide)) (fun _ hk => hk.2) (.slice Ao72 y154.length co72)) (fun _ hk => ⟨hk.1.1, hk.1.2⟩)))⟩; have n5_ : Aside0 (w74.heap[gb136]? = some (.cells #[.int .i64 a0_0, .int .i64 a0_1, .slice A0_2 l0_2.length c0_2] 47 (0, 0))) := ⟨(by rw [hw]; exact (by (with_reducible repeat (first | refine blk_drewN ?_ _ | refine blk_drew ?_ | refine blk_alloc ?_ _)); refine blk_far ?_ NB136_139.out _; (with_reducible repeat (first | refine blk_drewN ?_ _ | refine blk_drew ?_ | refine blk_alloc ?_ _)); exact BK136.out))⟩; have n6_ : Aside0 (w74.heap[gb137]? = some (.cells #[.slice none 0 0, .slice none 0 0, .slice none 0 0] 25 (0, 0))) := ⟨(by rw [hw]; exact (by (with_reducible repeat (first | refine blk_drewN ?_ _ | refine blk_drew ?_ | refine blk_alloc ?_ _)); refine blk_far ?_ NB137_139.out _; (with_reducible repeat (first | refine blk_drewN ?_ _ | refine blk_drew ?_ | refine blk_alloc ?_ _)); exact BK137.out))⟩; have n7_ : Aside0 (w74.heap[gb139]? = some (.cells #[.slice Ao70 x140000_1.length co70, u140001, .slice Ao72 y154.length co72] 25 (0, 0))) := ⟨(by rw [hw]; exact (by (with_reducible repeat (first | refine blk_drewN ?_ _ | refine blk_drew ?_ | refine blk_alloc ?_ _)); refine blk_put (cs := #[.slice Ao70 x140000_1.length co70, u140001, u140002]) ?_ 2 _ rfl; (with_reducible repeat (first | refine blk_drewN ?_ _ | refine blk_drew ?_ | refine blk_alloc ?_ _)); exact BK139.out))⟩; have n8_ : Aside0 (Below w.heap.size w w74) := ⟨(by rw [hw]; exact bl)⟩; clear hw; clear HO_5; clear HO_9; clear HO_140000; clear HO_140001; clear HO156; clear BK136; clear BK137; clear BK139; clear HB; have HO_5 := n0_; have HO_9 := n1_; have HO_140000 := n2_; have HO_140001 := n3_; have HO156 := n4_; have BK136 := n5_; have BK137 := n6_; have BK139 := n7_; have HB := n8_; clear n0_ n1_ n2_ n3_ n4_ n5_ n6_ n7_ n8_; obtain ⟨⟨hcz75_0, hcz75_1, hcz75_2⟩, hfz75_0, hfz75_1, hfz75_2⟩ := b3 BK139.out; obtain ⟨Ao77, co77, eo77⟩ := Kd.R_slice HO_9.out; subst eo77) | ((with_reducible refine gate_builtin (b := .append) (xs := #[.tmp 100, .tmp 102]) rfl ?_); at_builtin; refine Kd.S_append (Kd.slice 64 k64) (w0 := w) w.heap.size rfl (.tmp 100) (.tmp 102) 23 62 (.slice none 0 0) 24 rfl Try.underlying23 info62 rfl (by decide) (by omega) u140001 x140001_2 x9_3 [.slice Ao77 x9_3.length co77] (fun _ => True) (fun k_ => some k_ = (.slice Ao77 x9_3.length co77 : Value).ownBlock) rfl rfl ?aP (fun k_ hk_ => ((Kd.R_mono (ok' := fun k_ => ((fun _ => True)) k_ ∧ some k_ ≠ (u140001 : Value).ownBlock) (Kd.R_apart' (HO_9.out) (Kd.S_typed HO_140001.out) (by decide)) (fun k_ hk => ⟨trivial, hk.2⟩))).1 k_ hk_.symm) ?aF ?aO ?aB ?aS ?aL ?_; (case aP => exact Kd.M_row (Kd.R_mono (Kd.R_tight rfl (Kd.R_mono (ok' := fun k_ => ((fun _ => True)) k_ ∧ some k_ ≠ (u140001 : Value).ownBlock) (Kd.R_apart' (HO_9.out) (Kd.S_typed HO_140001.out) (by decide)) (fun k_ hk => ⟨trivial, hk.2⟩))) (fun _ h_ => h_))); (case aB => exact bl); (case aF => exact (fun _ _ => trivial)); (case aO => exact (by (with_reducible repeat (first | apply Kd.S_alloc | apply Kd.S_drewN | apply Kd.S_drew)); exact Kd.S_mono HO_140001.out (fun k_ hk => ⟨trivial, fun e_ => hk e_⟩))); (case aS => exact (below_size bl)); (case aL => have := LMc66.out; omega); intro v158 w76 ho hb hg hat; rw [← Ny157.out] at ho; have n0_ := Aside0.mk (Kd.R_over' (kR HO_5) (Kd.S_typed (kS HO_140001)) (by decide) hg); have n1_ := Aside0.mk (Kd.R_over' (kR HO_140000) (Kd.S_typed (kS HO_140001)) (by decide) hg); have n2_ := Aside0.mk (blk_grown (g := gb136) (o := .cells #[.int .i64 a0_0, .int .i64 a0_1, .slice A0_2 l0_2.length c0_2] 47 (0, 0)) bk hg (Kd.S_ne HO_140001.out BK136.out (by decide))); have n3_ := Aside0.mk (blk_grown (g := gb137) (o := .cells #[.slice none 0 0, .slice none 0 0, .slice none 0 0] 25 (0, 0)) bk hg (Kd.S_ne HO_140001.out BK137.out (by decide))); have n4_ := Aside0.mk (blk_grown (g := gb139) (o := .cells #[.slice Ao70 x140000_1.length co70, u140001, .slice Ao72 y154.length co72] 25 (0, 0)) bk hg (Kd.S_ne HO_140001.out BK139.out (by decide))); have n5_ := Aside0.mk (Kd.R_over' (kR HO156) (Kd.S_typed (kS HO_140001)) (by decide) hg); have n6_ := Aside0.mk (hb); have n7_ := Aside0.mk (ho); clear HO_5; clear HO_140000; clear BK136; clear BK137; clear BK139; clear HO156; clear HB; clear HO_140001; clear HO_9; have HO_5 := n0_; have HO_140000 := n1_; have BK136 := n2_; have BK137 := n3_; have BK139 := n4_; have HO156 := n5_; have HB := n6_; have HO159 := n7_; clear n0_ n1_ n2_ n3_ n4_ n5_ n6_ n7_; clear ho hb hg hat; obtain ⟨Ao78, co78, eo78⟩ := Kd.S_slice HO159.out; subst eo78; obtain ⟨⟨hcz79_0, hcz79_1, hcz79_2⟩, hfz79_0, hfz79_1, hfz79_2⟩ := b3 BK139.out))
                  go_roundg k3
                  case measure => have := HK1.out; have := HK2.out; have := HK3.out; omega
                  case rel => exact ⟨(wrap64 (x56_2 + 1)), (y157), (y154), (.slice Ao78 y157.length co78), (.slice Ao72 y154.length co72), (by first | rfl | (simp; done) | (simp [*]; done)), H', ⟨by have := HK1.out; have := HK2.out; have := HK3.out; omega⟩, ⟨by (with_reducible repeat (first | apply Kd.R_alloc | apply Kd.R_drewN | apply Kd.R_drew)); exact Kd.R_mono (Kd.R_far (p := ⟨gb139, 1, none⟩) (Kd.R_types HO_5.out BK139.out (by decide)) (fun _ hk => hk.2) (.slice Ao78 y157.length co78)) (fun _ hk => ⟨hk.1.1, hk.1.2⟩)⟩, ⟨by (with_reducible repeat (first | apply Kd.R_alloc | apply Kd.R_drewN | apply Kd.R_drew)); exact Kd.R_mono (Kd.R_far (p := ⟨gb139, 1, none⟩) (Kd.R_types HO_140000.out BK139.out (by decide)) (fun _ hk => hk.2) (.slice Ao78 y157.length co78)) (fun _ hk => ⟨hk.1.1, hk.1.2⟩)⟩, ⟨by (with_reducible repeat (first | apply Kd.S_alloc | apply Kd.S_drewN | apply Kd.S_drew)); exact Kd.S_mono (Kd.S_far (p := ⟨gb139, 1, none⟩) (Kd.S_types HO159.out BK139.out (by decide)) (fun _ hk => hk.2) (.slice Ao78 y157.length co78)) (fun _ hk => trivial)⟩, ⟨by (with_reducible repeat (first | apply Kd.R_alloc | apply Kd.R_drewN | apply Kd.R_drew)); exact Kd.R_mono (Kd.R_far (p := ⟨gb139, 1, none⟩) (Kd.R_types HO156.out BK139.out (by decide)) (fun _ hk => hk.2) (.slice Ao78 y157.length co78)) (fun _ hk => ⟨hk.1.1, hk.1.2⟩)⟩, ⟨by (with_reducible repeat (first | refine blk_drewN ?_ _ | refine blk_drew ?_ | refine blk_alloc ?_ _)); refine blk_far ?_ NB136_139.out _; (with_reducible repeat (first | refine blk_drewN ?_ _ | refine blk_drew ?_ | refine blk_alloc ?_ _)); exact BK136.out⟩, ⟨by (with_reducible repeat (first | refine blk_drewN ?_ _ | refine blk_drew ?_ | refine blk_alloc ?_ _)); refine blk_far ?_ NB137_139.out _; (with_reducible repeat (first | refine blk_drewN ?_ _ | refine blk_drew ?_ | refine blk_alloc ?_ _)); exact BK137.out⟩, ⟨by (with_reducible repeat (first | refine blk_drewN ?_ _ | refine blk_drew ?_ | refine blk_alloc ?_ _)); refine blk_put (cs := #[.slice Ao70 x140000_1.length co70, u140001, .slice Ao72 y154.length co72]) ?_ 1 _ rfl; (with_reducible repeat (first | refine blk_drewN ?_ _ | refine blk_drew ?_ | refine blk_alloc ?_ _)); exact BK139.out⟩, ⟨bl⟩⟩
                 ·rw [if_neg c66] at H
                  exact absurd H (by simp)
                ·rw [if_neg c65] at H
                 exact absurd H (by simp)
            ·rw [if_neg c52] at H
             exact absurd H (by simp)
           ·rw [if_neg c51] at H
            exact absurd H (by simp)
          ·rw [if_neg c50] at H
           exact absurd H (by simp)
         ·rw [if_neg c48] at H
          have c48b0 : decide (x56_2 < a0_0) = false := decide_eq_false c48
          clear c48
          simp only [Option.some.injEq, Prod.mk.injEq] at H
          obtain ⟨rfl, rfl, rfl, rfl⟩ := H
          have hnb80 := NB139_136.out
          have hnc80 := NB136_139.out
          have hnb81 := NB139_137.out
          have hnc81 := NB137_139.out
          obtain ⟨⟨hcz82_0, hcz82_1, hcz82_2⟩, hfz82_0, hfz82_1, hfz82_2⟩ := b3 BK139.out
          obtain ⟨Ao83, co83, eo83⟩ := Kd.R_slice HO_140000.out
          subst eo83
          have hnb84 := NB137_136.out
          have hnc84 := NB136_137.out
          obtain ⟨⟨hcz85_0, hcz85_1, hcz85_2⟩, hfz85_0, hfz85_1, hfz85_2⟩ := b3 BK137.out
          obtain ⟨Ao86, co86, eo86⟩ := Kd.S_slice HO_140001.out
          subst eo86
          obtain ⟨Ao87, co87, eo87⟩ := Kd.R_slice HO_140002.out
          subst eo87
          go_wp2
          refine bodyPost_ret (results_ct rfl _ _ gb137 25 #[.slice Ao83 x140000_1.length co83, .slice Ao86 x140001_2.length co86, .slice Ao87 x140002_2.length co87] (0, 0) _ rfl (by (with_reducible repeat (first | refine blk_drewN ?_ _ | refine blk_drew ?_ | refine blk_alloc ?_ _)); refine blk_put (cs := #[.slice Ao83 x140000_1.length co83, .slice Ao86 x140001_2.length co86, .slice none 0 0]) ?_ 2 _ rfl; (with_reducible repeat (first | refine blk_drewN ?_ _ | refine blk_drew ?_ | refine blk_alloc ?_ _)); refine blk_put (cs := #[.slice Ao83 x140000_1.length co83, .slice none 0 0, .slice none 0 0]) ?_ 1 _ rfl; (with_reducible repeat (first | refine blk_drewN ?_ _ | refine blk_drew ?_ | refine blk_alloc ?_ _)); refine blk_put (cs := #[.slice none 0 0, .slice none 0 0, .slice none 0 0]) ?_ 0 _ rfl; (with_reducible repeat (first | refine blk_drewN ?_ _ | refine blk_drew ?_ | refine blk_alloc ?_ _)); exact BK137.out) Try.underlying25 rfl (by kernel_rfl)) rfl ?_
          exact ⟨_, _, _, by first | rfl | (simp [errW_none, errW_some] <;> rfl) | (simp [*, errW_none, errW_some] <;> rfl), by (with_reducible repeat (first | apply Kd.R_alloc | apply Kd.R_drewN | apply Kd.R_drew)); exact Kd.R_mono (Kd.R_far (p := ⟨gb137, 2, none⟩) (Kd.R_far (p := ⟨gb137, 1, none⟩) (Kd.R_far (p := ⟨gb137, 0, none⟩) (Kd.R_types HO_140000.out BK137.out (by decide)) (fun _ hk => hk.2) (.slice Ao83 x140000_1.length co83)) (fun _ hk => hk.2) (.slice Ao86 x140001_2.length co86)) (fun _ hk => hk.2) (.slice Ao87 x140002_2.length co87)) (fun _ hk => hk.1.2), by (with_reducible repeat (first | apply Kd.S_alloc | apply Kd.S_drewN | apply Kd.S_drew)); exact Kd.S_mono (Kd.S_far (p := ⟨gb137, 2, none⟩) (Kd.S_far (p := ⟨gb137, 1, none⟩) (Kd.S_far (p := ⟨gb137, 0, none⟩) (Kd.S_types HO_140001.out BK137.out (by decide)) (fun _ hk => hk.2) (.slice Ao83 x140000_1.length co83)) (fun _ hk => hk.2) (.slice Ao86 x140001_2.length co86)) (fun _ hk => hk.2) (.slice Ao87 x140002_2.length co87)) (fun _ hk => trivial), by (with_reducible repeat (first | apply Kd.R_alloc | apply Kd.R_drewN | apply Kd.R_drew)); exact Kd.R_mono (Kd.R_far (p := ⟨gb137, 2, none⟩) (Kd.R_far (p := ⟨gb137, 1, none⟩) (Kd.R_far (p := ⟨gb137, 0, none⟩) (Kd.R_types HO_140002.out BK137.out (by decide)) (fun _ hk => hk.2) (.slice Ao83 x140000_1.length co83)) (fun _ hk => hk.2) (.slice Ao86 x140001_2.length co86)) (fun _ hk => hk.2) (.slice Ao87 x140002_2.length co87)) (fun _ hk => hk.1.2), bl⟩
   ·rw [if_neg c5] at H
    exact absurd H (by simp)
  ·rw [if_neg c4] at H
   exact absurd H (by simp)
 ·replace c3 := Bool.eq_false_iff.mpr c3
  subst c3
  have H1 : (some (([] : List Int), ([] : List (List (S64))), ([] : List Int), 3)) = some (r1, r2, r3, r4) := by rw [if_neg (show ¬ (false = true) by decide)] at H; exact H
  clear H
  have H := H1
  clear H1
  simp only [Option.some.injEq, Prod.mk.injEq] at H
  obtain ⟨rfl, rfl, rfl, rfl⟩ := H
  go_enter Try.func23, Try.ntmps23
  go_wp2_with (first | ((with_reducible refine gate_dst (N := 1) rfl ?_); refine box_event ?hg (N := 1) ?hd (cs := #[.int .i64 a0_0, .int .i64 a0_1, .slice A0_2 l0_2.length c0_2]) (t := 47) ?hr ?_; (case hd => rfl); (case hg => rfl); (case hr => first | (go_simp; done) | (go_simp; rfl)); intro gb136 hg w88 hbox hb; have n0_ := Aside0.mk (below_step bl hb); have n1_ := Aside0.mk (hbox); have n2_ := Aside0.mk ((sz hg)); have n3_ := Aside0.mk ((sz hg)); clear HB; have HB := n0_; have BK136 := n1_; have GW136 := n2_; have GE136 := n3_; clear n0_ n1_ n2_ n3_; clear hb hbox hg) | ((with_reducible refine gate_dst (N := 2) rfl ?_); refine box_event ?hg (N := 2) ?hd (cs := #[.slice none 0 0, .slice none 0 0, .slice none 0 0]) (t := 25) ?hr ?_; (case hd => rfl); (case hg => rfl); (case hr => first | (go_simp; done) | (go_simp; rfl)); intro gb137 hg w89 hbox hb; have n0_ := Aside0.mk (blk_below (g := gb136) (o := .cells #[.int .i64 a0_0, .int .i64 a0_1, .slice A0_2 l0_2.length c0_2] 47 (0, 0)) bk hb); have n1_ := Aside0.mk (below_step bl hb); have n2_ := Aside0.mk (hbox); have n3_ := Aside0.mk ((sz hg)); have n4_ := Aside0.mk ((sz hg)); have n5_ := Aside0.mk ((nl (g := gb136) (g' := gb137) hg)); have n6_ := Aside0.mk ((nr (g := gb136) (g' := gb137) hg)); clear BK136; clear HB; have BK136 := n0_; have HB := n1_; have BK137 := n2_; have GW137 := n3_; have GE137 := n4_; have NB136_137 := n5_; have NB137_136 := n6_; clear n0_ n1_ n2_ n3_ n4_ n5_ n6_; clear hb hbox hg; have hnb90 := NB136_137.out; have hnc90 := NB137_136.out; obtain ⟨⟨hcz91_0, hcz91_1, hcz91_2⟩, hfz91_0, hfz91_1, hfz91_2⟩ := b3 BK136.out) | ((with_reducible refine gate_callee (f := 46) rfl ?_); refine goesL_ (some 13) rfl rfl Try.func46 (by kernel_rfl) rfl #[.agg #[.int .i64 a0_0, .int .i64 a0_1, .slice A0_2 l0_2.length c0_2]] rfl (by (try simp only [List.map_toArray, List.map_cons, List.map_nil]); first | done | rfl | (simp only [List.length_drop, List.length_take]; rfl)) ?_; (with_reducible refine (matrix_Right.calls a0_0 a0_1 _ _ l0_2 false _ ?side1 ?side2 A2.out).mono ?_); (case side1 => repeat (first | exact (Kd.C_below HR0_2.out HB.out) | (with_reducible refine Kd.C_alloc ?_ _) | (with_reducible refine Kd.C_drewN ?_ _) | (with_reducible refine Kd.C_drew ?_))); (case side2 => exact HC0_2.out); rintro e w92 ⟨rfl, hb⟩; refine ⟨_, rfl, ?_⟩; have n0_ := Aside0.mk (blk_below (g := gb136) (o := .cells #[.int .i64 a0_0, .int .i64 a0_1, .slice A0_2 l0_2.length c0_2] 47 (0, 0)) bk hb); have n1_ := Aside0.mk (blk_below (g := gb137) (o := .cells #[.slice none 0 0, .slice none 0 0, .slice none 0 0] 25 (0, 0)) bk hb); have n2_ := Aside0.mk (below_step bl hb); clear BK136; clear BK137; clear HB; have BK136 := n0_; have BK137 := n1_; have HB := n2_; clear n0_ n1_ n2_; (try clear hb); (try clear hb2); (try clear hk); (try clear hi); obtain ⟨⟨hcz93_0, hcz93_1, hcz93_2⟩, hfz93_0, hfz93_1, hfz93_2⟩ := b3 BK137.out))
  refine bodyPost_ret (results_ct rfl _ _ gb137 25 #[.slice none 0 0, .slice none 0 0, .slice none 0 0] (0, 0) _ rfl (by (with_reducible repeat (first | refine blk_drewN ?_ _ | refine blk_drew ?_ | refine blk_alloc ?_ _)); refine blk_put (cs := #[.slice none 0 0, .slice none 0 0, .slice none 0 0]) ?_ 2 _ rfl; (with_reducible repeat (first | refine blk_drewN ?_ _ | refine blk_drew ?_ | refine blk_alloc ?_ _)); refine blk_put (cs := #[.slice none 0 0, .slice none 0 0, .slice none 0 0]) ?_ 1 _ rfl; (with_reducible repeat (first | refine blk_drewN ?_ _ | refine blk_drew ?_ | refine blk_alloc ?_ _)); refine blk_put (cs := #[.slice none 0 0, .slice none 0 0, .slice none 0 0]) ?_ 0 _ rfl; (with_reducible repeat (first | refine blk_drewN ?_ _ | refine blk_drew ?_ | refine blk_alloc ?_ _)); exact BK137.out) Try.underlying25 rfl (by kernel_rfl)) rfl ?_
  exact ⟨_, _, _, by first | rfl | (simp [errW_none, errW_some] <;> rfl) | (simp [*, errW_none, errW_some] <;> rfl), by first | exact Kd.R_nil _ _ _ _ _ | exact Kd.N_nil _ _ _ _ _ | exact Kd.V_nil _ _ _ _ _ | exact Kd.Q_nil _ _ _ _ _ | exact Kd.S_nil _ _ _ _ _, by first | exact Kd.S_nil _ _ _ _ _ | exact Kd.N_nil _ _ _ _ _ | exact Kd.V_nil _ _ _ _ _ | exact Kd.Q_nil _ _ _ _ _ | exact Kd.R_nil _ _ _ _ _, by first | exact Kd.R_nil _ _ _ _ _ | exact Kd.N_nil _ _ _ _ _ | exact Kd.V_nil _ _ _ _ _ | exact Kd.Q_nil _ _ _ _ _ | exact Kd.S_nil _ _ _ _ _, bl⟩

end Go.Proofs.Ytfnhnniecclleaa.PA
