-- Written by wip/tools/mp.py (the kit's print, run over several laws with some functions given by hand).
import Derived.Test.YtfnhnniecclleaaPAx0
import Derived.Test.YtfnhnniecclleaaPAx17
namespace Go.Proofs.Ytfnhnniecclleaa.PA
open Go.RowKit Go.Proofs.YtfnhnniecclleaaW.PrintWords Go.Proofs.YtfnhnniecclleaaW.PrintLast Go.Proofs.YtfnhnniecclleaaW.PrintMore
attribute [local go_sem] max2_int min2_int max_two min_two max_three min_three max_four min_four   -- for this text's walks alone
set_option linter.unusedVariables false
set_option linter.unusedSimpArgs false

/-! ### recoupref21_Of: function 24 -/
mutual
def recoupref21_Of.l0 : Nat → List Int → Int → Int → Int → List Int → List Int → Option (List Int × (List (List (S64))) × List Int × Int)
 | 0, _, _, _, _, _, _ => none
 | k + 1, x5, x6, x429000, x429001, x429002, x432000 => if x6 < x429001 then (recoupref21_Of.l1 k x5 x6 false 0 x429000 x429001 x429002 x432000) else (recoupref21_Of.l2 k x5 0 x429000 x429001 x429002 x432000 ([] : List (List (S64))) ([] : List Int))
def recoupref21_Of.l1 : Nat → List Int → Int → Bool → Int → Int → Int → List Int → List Int → Option (List Int × (List (List (S64))) × List Int × Int)
 | 0, _, _, _, _, _, _, _, _ => none
 | k + 1, x5, x6, x7, x8, x429000, x429001, x429002, x432000 => if x8 < x429000 then (if x7 = true then (recoupref21_Of.l1 k x5 x6 true (wrap64 (x8 + 1)) x429000 x429001 x429002 x432000) else ((recoupref03_At.f x429000 x429001 x429002 x8 x6).bind fun t435 => (recoupref21_Of.l1 k x5 x6 (t435 != 0) (wrap64 (x8 + 1)) x429000 x429001 x429002 x432000))) else (if x7 = true then (if 0 ≤ x6 then (if x6 < (x5.length : Int) then (if x432000.length < 17592186044416 then (recoupref21_Of.l0 k (x5.set (x6 : Int).toNat (x432000.length : Int)) (wrap64 (x6 + 1)) x429000 x429001 x429002 (x432000 ++ [x6])) else (none)) else (none)) else (none)) else (recoupref21_Of.l0 k x5 (wrap64 (x6 + 1)) x429000 x429001 x429002 x432000))
def recoupref21_Of.l2 : Nat → List Int → Int → Int → Int → List Int → List Int → List (List (S64)) → List Int → Option (List Int × (List (List (S64))) × List Int × Int)
 | 0, _, _, _, _, _, _, _, _ => none
 | k + 1, x5, x9, x429000, x429001, x429002, x432000, x432001, x432002 => if x9 < x429000 then (recoupref21_Of.l3 k x5 x9 ([] : List (S64)) 0 x429000 x429001 x429002 x432000 x432001 x432002) else (some (x432000, x432001, x432002, 0))
def recoupref21_Of.l3 : Nat → List Int → Int → List (S64) → Int → Int → Int → List Int → List Int → List (List (S64)) → List Int → Option (List Int × (List (List (S64))) × List Int × Int)
 | 0, _, _, _, _, _, _, _, _, _, _ => none
 | k + 1, x5, x9, x10, x11, x429000, x429001, x429002, x432000, x432001, x432002 => if x11 < x429001 then ((recoupref03_At.f x429000 x429001 x429002 x9 x11).bind fun t440 => (if t440 = 0 then (recoupref21_Of.l3 k x5 x9 x10 (wrap64 (x11 + 1)) x429000 x429001 x429002 x432000 x432001 x432002) else (if 0 ≤ x11 then (if x11 < (x5.length : Int) then (if x10.length < 8796093022208 then (recoupref21_Of.l3 k x5 x9 (x10 ++ [(⟨rd x5 x11, t440⟩ : S64)]) (wrap64 (x11 + 1)) x429000 x429001 x429002 x432000 x432001 x432002) else (none)) else (none)) else (none)))) else (if x432002.length < 17592186044416 then (if x432001.length < 5864062014805 then (recoupref21_Of.l2 k x5 (wrap64 (x9 + 1)) x429000 x429001 x429002 x432000 (x432001 ++ [x10]) (x432002 ++ [wrap64 ((x432000.length : Int) + x9)])) else (none)) else (none))
end
def recoupref21_Of.f (k : Nat) (a0_0 : Int) (a0_1 : Int) (l0_2 : List Int) : Option (List Int × (List (List (S64))) × List Int × Int) := (recoupref03_Right.f a0_0 a0_1 l0_2).bind fun t430 => (if t430 = true then (if 0 ≤ a0_1 then (if (a0_1 : Int).toNat ≤ 35184372088832 then (recoupref21_Of.l0 k (List.replicate (a0_1 : Int).toNat 0) 0 a0_0 a0_1 l0_2 ([] : List Int)) else (none)) else (none)) else (some (([] : List Int), ([] : List (List (S64))), ([] : List Int), 3)))
set_option maxHeartbeats 8000000 in
set_option maxRecDepth 100000 in
theorem recoupref21_Of.calls (k : Nat) (a0_0 : Int) (a0_1 : Int) (A0_2 : Option Addr) (c0_2 : Nat) (l0_2 : List Int) (r1 : List Int) (r2 : List (List (S64))) (r3 : List Int) (r4 : Int) (w : World) (hr0_2 : Kd.C (Kd.int .u8) w A0_2 l0_2.length l0_2) (hc0_2 : l0_2.length ≤ c0_2) (h : recoupref21_Of.f k a0_0 a0_1 l0_2 = some (r1, r2, r3, r4)) :
  Calls Try.prog 24 #[.agg #[.int .i64 a0_0, .int .i64 a0_1, .slice A0_2 l0_2.length c0_2]] w fun e w' => ∃ v0_ v1_ v2_ : Value, e = .returned (.tuple #[.agg #[v0_, v1_, v2_], .int .i64 r4]) ∧ Kd.R (Kd.int .i64) 3 w' w.heap.size (fun k_ => some k_ ≠ (v2_ : Value).ownBlock) v0_ r1 ∧ Kd.S (Kd.slice 64 k64) 62 w' w.heap.size (fun _ => True) v1_ r2 ∧ Kd.R (Kd.int .i64) 3 w' w.heap.size (fun k_ => some k_ ≠ (v0_ : Value).ownBlock) v2_ r3 ∧ Below w.heap.size w w' := by
 have hu47 := Try.underlying47
 have hu25 := Try.underlying25
 have hu64 := Try.underlying64
 have HR0_2 := Aside0.mk hr0_2
 have HC0_2 := Aside0.mk hc0_2
 clear hr0_2 hc0_2
 have HB := Aside0.mk (Below.refl w.heap.size w)
 have H : ((recoupref03_Right.f a0_0 a0_1 l0_2).bind fun t430 => (if t430 = true then (if 0 ≤ a0_1 then (if (a0_1 : Int).toNat ≤ 35184372088832 then (recoupref21_Of.l0 k (List.replicate (a0_1 : Int).toNat 0) 0 a0_0 a0_1 l0_2 ([] : List Int)) else (none)) else (none)) else (some (([] : List Int), ([] : List (List (S64))), ([] : List Int), 3)))) = some (r1, r2, r3, r4) := h
 clear h
 replace H := Option.bind_eq_some_iff.mp H
 obtain ⟨t430, A20, H⟩ := H
 replace H : (if t430 = true then (if 0 ≤ a0_1 then (if (a0_1 : Int).toNat ≤ 35184372088832 then (recoupref21_Of.l0 k (List.replicate (a0_1 : Int).toNat 0) 0 a0_0 a0_1 l0_2 ([] : List Int)) else (none)) else (none)) else (some (([] : List Int), ([] : List (List (S64))), ([] : List Int), 3))) = some (r1, r2, r3, r4) := H
 have A2 := Aside0.mk A20
 clear A20
 by_cases c3 : t430 = true
 ·subst c3
  have H1 : (if 0 ≤ a0_1 then (if (a0_1 : Int).toNat ≤ 35184372088832 then (recoupref21_Of.l0 k (List.replicate (a0_1 : Int).toNat 0) 0 a0_0 a0_1 l0_2 ([] : List Int)) else (none)) else (none)) = some (r1, r2, r3, r4) := by rw [if_pos rfl] at H; exact H
  clear H
  have H := H1
  clear H1
  by_cases c4 : 0 ≤ a0_1
  ·rw [if_pos c4] at H
   have c4b0 := eq_true c4
   have c4b1 : decide (0 ≤ a0_1) = true := decide_eq_true c4
   clear c4
   by_cases c5 : (a0_1 : Int).toNat ≤ 35184372088832
   ·rw [if_pos c5] at H
    have c5b0 := eq_true c5
    have c5b1 : decide ((a0_1 : Int).toNat ≤ 35184372088832) = true := decide_eq_true c5
    clear c5
    obtain ⟨y432, hy432⟩ : ∃ y_ : List Int, y_ = (List.replicate (a0_1 : Int).toNat 0) := ⟨_, rfl⟩
    replace H : (recoupref21_Of.l0 k y432 0 a0_0 a0_1 l0_2 ([] : List Int)) = some (r1, r2, r3, r4) := by first | (rw [hy432]; with_reducible exact H) | (have H2_ := (Option.bind_some _ _).symm.trans H; rw [hy432]; with_reducible exact H2_) | (have H2_ := (Option.bind_some _ _).symm.trans H; with_reducible exact H2_) | with_reducible exact H | (rw [hy432]; exact H) | exact H
    have Ny432 := Aside0.mk hy432
    clear hy432
    have H' := Aside0.mk H
    clear H
    go_enter Try.func24, Try.ntmps24
    go_wp2_with (first | ((with_reducible refine gate_dst (N := 1) rfl ?_); refine box_event ?hg (N := 1) ?hd (cs := #[.int .i64 a0_0, .int .i64 a0_1, .slice A0_2 l0_2.length c0_2]) (t := 47) ?hr ?_; (case hd => rfl); (case hg => rfl); (case hr => first | (go_simp; done) | (go_simp; rfl)); intro gb428 hg w6 hbox hb; have n0_ := Aside0.mk (below_step (by repeat (first | (with_reducible first | exact HB.out | apply below_alloc | apply pw_below_drewN | apply below_drew1) | exact HB.out)) hb); have n1_ := Aside0.mk (hbox); have n2_ := Aside0.mk ((by rw [hg]; exact (below_size (by repeat (first | (with_reducible first | exact HB.out | apply below_alloc | apply pw_below_drewN | apply below_drew1) | exact HB.out))) : w.heap.size ≤ gb428)); have n3_ := Aside0.mk ((by rw [hg]; exact (below_size (by repeat (first | (with_reducible first | exact HB.out | apply below_alloc | apply pw_below_drewN | apply below_drew1) | exact HB.out))) : w.heap.size ≤ gb428)); clear HB; have HB := n0_; have BK428 := n1_; have GW428 := n2_; have GE428 := n3_; clear n0_ n1_ n2_ n3_; clear hb hbox hg) | ((with_reducible refine gate_dst (N := 2) rfl ?_); refine box_event ?hg (N := 2) ?hd (cs := #[.slice none 0 0, .slice none 0 0, .slice none 0 0]) (t := 25) ?hr ?_; (case hd => rfl); (case hg => rfl); (case hr => first | (go_simp; done) | (go_simp; rfl)); intro gb429 hg w7 hbox hb; have n0_ := Aside0.mk (blk_below (g := gb428) (o := .cells #[.int .i64 a0_0, .int .i64 a0_1, .slice A0_2 l0_2.length c0_2] 47 (0, 0)) (by (with_reducible repeat (first | refine blk_drewN ?_ _ | refine blk_drew ?_ | refine blk_alloc ?_ _)); exact BK428.out) hb); have n1_ := Aside0.mk (below_step (by repeat (first | (with_reducible first | exact HB.out | apply below_alloc | apply pw_below_drewN | apply below_drew1 | refine below_set ?_ GE428.out) | exact HB.out)) hb); have n2_ := Aside0.mk (hbox); have n3_ := Aside0.mk ((by rw [hg]; exact (below_size (by repeat (first | (with_reducible first | exact HB.out | apply below_alloc | apply pw_below_drewN | apply below_drew1 | refine below_set ?_ GE428.out) | exact HB.out))) : w.heap.size ≤ gb429)); have n4_ := Aside0.mk ((by rw [hg]; exact (below_size (by repeat (first | (with_reducible first | exact HB.out | apply below_alloc | apply pw_below_drewN | apply below_drew1 | refine below_set ?_ GE428.out) | exact HB.out))) : w.heap.size ≤ gb429)); have n5_ := Aside0.mk ((by rw [hg]; exact Nat.ne_of_lt (blk_lt (g := gb428) (o := .cells #[.int .i64 a0_0, .int .i64 a0_1, .slice A0_2 l0_2.length c0_2] 47 (0, 0)) (by (with_reducible repeat (first | refine blk_drewN ?_ _ | refine blk_drew ?_ | refine blk_alloc ?_ _)); exact BK428.out)) : gb428 ≠ gb429)); have n6_ := Aside0.mk ((by rw [hg]; exact Nat.ne_of_gt (blk_lt (g := gb428) (o := .cells #[.int .i64 a0_0, .int .i64 a0_1, .slice A0_2 l0_2.length c0_2] 47 (0, 0)) (by (with_reducible repeat (first | refine blk_drewN ?_ _ | refine blk_drew ?_ | refine blk_alloc ?_ _)); exact BK428.out)) : gb429 ≠ gb428)); clear BK428; clear HB; have BK428 := n0_; have HB := n1_; have BK429 := n2_; have GW429 := n3_; have GE429 := n4_; have NB428_429 := n5_; have NB429_428 := n6_; clear n0_ n1_ n2_ n3_ n4_ n5_ n6_; clear hb hbox hg; have hnb8 := NB428_429.out; have hnc8 := NB429_428.out; have hcz9_0 : w7.cell? ⟨gb428, 0, none⟩ = some (.int .i64 a0_0) := (blk_cell BK428.out 0).trans rfl; have hcz9_1 : w7.cell? ⟨gb428, 1, none⟩ = some (.int .i64 a0_1) := (blk_cell BK428.out 1).trans rfl; have hcz9_2 : w7.cell? ⟨gb428, 2, none⟩ = some (.slice A0_2 l0_2.length c0_2) := (blk_cell BK428.out 2).trans rfl; have hfz9_0 := blk_frozen BK428.out 0; have hfz9_1 := blk_frozen BK428.out 1; have hfz9_2 := blk_frozen BK428.out 2) | ((with_reducible refine gate_callee (f := 28) rfl ?_); refine goesL_ (some 14) rfl rfl Try.func28 (by kernel_rfl) rfl #[.agg #[.int .i64 a0_0, .int .i64 a0_1, .slice A0_2 l0_2.length c0_2]] rfl (by (try simp only [List.map_toArray, List.map_cons, List.map_nil]); first | done | rfl | (simp only [List.length_drop, List.length_take]; rfl)) ?_; (with_reducible refine (recoupref03_Right.calls a0_0 a0_1 _ _ l0_2 true _ ?side1 ?side2 A2.out).mono ?_); (case side1 => repeat (first | exact (Kd.C_below HR0_2.out HB.out) | (with_reducible refine Kd.C_alloc ?_ _) | (with_reducible refine Kd.C_drewN ?_ _) | (with_reducible refine Kd.C_drew ?_))); (case side2 => exact HC0_2.out); rintro e w10 ⟨rfl, hb⟩; refine ⟨_, rfl, ?_⟩; have n0_ := Aside0.mk (blk_below (g := gb428) (o := .cells #[.int .i64 a0_0, .int .i64 a0_1, .slice A0_2 l0_2.length c0_2] 47 (0, 0)) (by (with_reducible repeat (first | refine blk_drewN ?_ _ | refine blk_drew ?_ | refine blk_alloc ?_ _)); exact BK428.out) hb); have n1_ := Aside0.mk (blk_below (g := gb429) (o := .cells #[.slice none 0 0, .slice none 0 0, .slice none 0 0] 25 (0, 0)) (by (with_reducible repeat (first | refine blk_drewN ?_ _ | refine blk_drew ?_ | refine blk_alloc ?_ _)); exact BK429.out) hb); have n2_ := Aside0.mk (below_step (by repeat (first | (with_reducible first | exact HB.out | apply below_alloc | apply pw_below_drewN | apply below_drew1 | refine below_set ?_ GE428.out | refine below_set ?_ GE429.out) | exact HB.out)) hb); clear BK428; clear BK429; clear HB; have BK428 := n0_; have BK429 := n1_; have HB := n2_; clear n0_ n1_ n2_; (try clear hb); (try clear hb2); (try clear hk); (try clear hi)) | ((with_reducible refine gate_dst (N := 4) rfl ?_); refine box_event ?hg (N := 4) ?hd (cs := #[.slice none 0 0, .slice none 0 0, .slice none 0 0]) (t := 25) ?hr ?_; (case hd => rfl); (case hg => rfl); (case hr => first | (go_simp; done) | (go_simp; rfl)); intro gb431 hg w11 hbox hb; have n0_ := Aside0.mk (blk_below (g := gb428) (o := .cells #[.int .i64 a0_0, .int .i64 a0_1, .slice A0_2 l0_2.length c0_2] 47 (0, 0)) (by (with_reducible repeat (first | refine blk_drewN ?_ _ | refine blk_drew ?_ | refine blk_alloc ?_ _)); exact BK428.out) hb); have n1_ := Aside0.mk (blk_below (g := gb429) (o := .cells #[.slice none 0 0, .slice none 0 0, .slice none 0 0] 25 (0, 0)) (by (with_reducible repeat (first | refine blk_drewN ?_ _ | refine blk_drew ?_ | refine blk_alloc ?_ _)); exact BK429.out) hb); have n2_ := Aside0.mk (below_step (by repeat (first | (with_reducible first | exact HB.out | apply below_alloc | apply pw_below_drewN | apply below_drew1 | refine below_set ?_ GE428.out | refine below_set ?_ GE429.out) | exact HB.out)) hb); have n3_ := Aside0.mk (hbox); have n4_ := Aside0.mk ((by rw [hg]; exact (below_size (by repeat (first | (with_reducible first | exact HB.out | apply below_alloc | apply pw_below_drewN | apply below_drew1 | refine below_set ?_ GE428.out | refine below_set ?_ GE429.out) | exact HB.out))) : w.heap.size ≤ gb431)); have n5_ := Aside0.mk ((by rw [hg]; exact (below_size (by repeat (first | (with_reducible first | exact HB.out | apply below_alloc | apply pw_below_drewN | apply below_drew1 | refine below_set ?_ GE428.out | refine below_set ?_ GE429.out) | exact HB.out))) : w.heap.size ≤ gb431)); have n6_ := Aside0.mk ((by rw [hg]; exact Nat.ne_of_lt (blk_lt (g := gb428) (o := .cells #[.int .i64 a0_0, .int .i64 a0_1, .slice A0_2 l0_2.length c0_2] 47 (0, 0)) (by (with_reducible repeat (first | refine blk_drewN ?_ _ | refine blk_drew ?_ | refine blk_alloc ?_ _)); exact BK428.out)) : gb428 ≠ gb431)); have n7_ := Aside0.mk ((by rw [hg]; exact Nat.ne_of_gt (blk_lt (g := gb428) (o := .cells #[.int .i64 a0_0, .int .i64 a0_1, .slice A0_2 l0_2.length c0_2] 47 (0, 0)) (by (with_reducible repeat (first | refine blk_drewN ?_ _ | refine blk_drew ?_ | refine blk_alloc ?_ _)); exact BK428.out)) : gb431 ≠ gb428)); have n8_ := Aside0.mk ((by rw [hg]; exact Nat.ne_of_lt (blk_lt (g := gb429) (o := .cells #[.slice none 0 0, .slice none 0 0, .slice none 0 0] 25 (0, 0)) (by (with_reducible repeat (first | refine blk_drewN ?_ _ | refine blk_drew ?_ | refine blk_alloc ?_ _)); exact BK429.out)) : gb429 ≠ gb431)); have n9_ := Aside0.mk ((by rw [hg]; exact Nat.ne_of_gt (blk_lt (g := gb429) (o := .cells #[.slice none 0 0, .slice none 0 0, .slice none 0 0] 25 (0, 0)) (by (with_reducible repeat (first | refine blk_drewN ?_ _ | refine blk_drew ?_ | refine blk_alloc ?_ _)); exact BK429.out)) : gb431 ≠ gb429)); clear BK428; clear BK429; clear HB; have BK428 := n0_; have BK429 := n1_; have HB := n2_; have BK431 := n3_; have GW431 := n4_; have GE431 := n5_; have NB428_431 := n6_; have NB431_428 := n7_; have NB429_431 := n8_; have NB431_429 := n9_; clear n0_ n1_ n2_ n3_ n4_ n5_ n6_ n7_ n8_ n9_; clear hb hbox hg; have hnb12 := NB428_431.out; have hnc12 := NB431_428.out; have hcz13_0 : w11.cell? ⟨gb428, 0, none⟩ = some (.int .i64 a0_0) := (blk_cell BK428.out 0).trans rfl; have hcz13_1 : w11.cell? ⟨gb428, 1, none⟩ = some (.int .i64 a0_1) := (blk_cell BK428.out 1).trans rfl; have hcz13_2 : w11.cell? ⟨gb428, 2, none⟩ = some (.slice A0_2 l0_2.length c0_2) := (blk_cell BK428.out 2).trans rfl; have hfz13_0 := blk_frozen BK428.out 0; have hfz13_1 := blk_frozen BK428.out 1; have hfz13_2 := blk_frozen BK428.out 2) | ((with_reducible refine gate_dst (N := 19) rfl ?_); refine Kd.R_make (Kd.int .i64) _ 3 rfl (N := 19) rfl 22 _ _ rfl a0_1 rfl rfl Try.underlying22 (.int .i64 0) 8 info3 rfl (by decide) (by omega) 0 (ok := fun _ => True) (okp := fun _ => True) rfl (fun _ hk => hk) trivial (of_decide_eq_true (by first | (with_reducible assumption) | assumption)) (Nat.le_trans (Nat.mul_le_mul_right _ (of_decide_eq_true (by first | (with_reducible assumption) | assumption) : a0_1.toNat ≤ 35184372088832)) (by omega)) (Below.refl _ _) (Nat.le_refl _) ?_; intro v433 w14 ho15 hb hg_ hnew_; clear hg_ hnew_; (first | rw [← Ny432.out] at ho15 | (simp only [Int.reduceToNat] at ho15; rw [← Ny432.out] at ho15)); have n0_ := Aside0.mk (Kd.R_lower ho15 (below_size (by repeat (first | (with_reducible first | exact HB.out | apply below_alloc | apply pw_below_drewN | apply below_drew1 | refine below_set ?_ GE428.out | refine below_set ?_ GE429.out | refine below_set ?_ GE431.out) | exact HB.out)))); have n1_ := Aside0.mk (blk_below (g := gb428) (o := .cells #[.int .i64 a0_0, .int .i64 a0_1, .slice A0_2 l0_2.length c0_2] 47 (0, 0)) (by (with_reducible repeat (first | refine blk_drewN ?_ _ | refine blk_drew ?_ | refine blk_alloc ?_ _)); exact BK428.out) hb); have n2_ := Aside0.mk (blk_below (g := gb429) (o := .cells #[.slice none 0 0, .slice none 0 0, .slice none 0 0] 25 (0, 0)) (by (with_reducible repeat (first | refine blk_drewN ?_ _ | refine blk_drew ?_ | refine blk_alloc ?_ _)); exact BK429.out) hb); have n3_ := Aside0.mk (blk_below (g := gb431) (o := .cells #[.slice none 0 0, .slice none 0 0, .slice none 0 0] 25 (0, 0)) (by (with_reducible repeat (first | refine blk_drewN ?_ _ | refine blk_drew ?_ | refine blk_alloc ?_ _)); exact BK431.out) hb); have n4_ := Aside0.mk (below_step (by repeat (first | (with_reducible first | exact HB.out | apply below_alloc | apply pw_below_drewN | apply below_drew1 | refine below_set ?_ GE428.out | refine below_set ?_ GE429.out | refine below_set ?_ GE431.out) | exact HB.out)) hb); clear BK428; clear BK429; clear BK431; clear HB; have HO434 := n0_; have BK428 := n1_; have BK429 := n2_; have BK431 := n3_; have HB := n4_; clear n0_ n1_ n2_ n3_ n4_; clear hb ho15))
    go_loopg [6] k (fun kq v6 w' => ∃ (x5_1 : List Int) (x6_1 : Int) (x432000_1 : List Int) (u432000 : Value), v6 = .int .i64 x6_1 ∧ Aside0 (recoupref21_Of.l0 kq x5_1 x6_1 a0_0 a0_1 l0_2 x432000_1 = some (r1, r2, r3, r4)) ∧ Aside0 (kq ≤ k) ∧ Aside0 (Kd.R (Kd.int .i64) 3 w' w.heap.size (fun k_ => some k_ ≠ (u432000 : Value).ownBlock) v433 x5_1) ∧ Aside0 (Kd.R (Kd.int .i64) 3 w' w.heap.size (fun k_ => some k_ ≠ (v433 : Value).ownBlock) u432000 x432000_1) ∧ Aside0 (w'.heap[gb428]? = some (.cells #[.int .i64 a0_0, .int .i64 a0_1, (.slice A0_2 l0_2.length c0_2)] 47 (0, 0))) ∧ Aside0 (w'.heap[gb429]? = some (.cells #[(.slice none 0 0), (.slice none 0 0), (.slice none 0 0)] 25 (0, 0))) ∧ Aside0 (w'.heap[gb431]? = some (.cells #[u432000, (.slice none 0 0), (.slice none 0 0)] 25 (0, 0))) ∧ Aside0 (Below w.heap.size w w'))
    case atStart => exact ⟨(y432), (0), (([] : List Int)), (.slice none 0 0), (by first | rfl | (simp; done) | (simp [*]; done)), H', ⟨Nat.le_refl _⟩, ⟨by (with_reducible repeat (first | apply Kd.R_alloc | apply Kd.R_drewN | apply Kd.R_drew)); exact Kd.R_mono HO434.out (fun _ hk => (by simp [Value.ownBlock]))⟩, ⟨by first | exact Kd.R_nil _ _ _ _ _ | exact Kd.N_nil _ _ _ _ _ | exact Kd.V_nil _ _ _ _ _ | exact Kd.Q_nil _ _ _ _ _ | exact Kd.S_nil _ _ _ _ _⟩, ⟨by (with_reducible repeat (first | refine blk_drewN ?_ _ | refine blk_drew ?_ | refine blk_alloc ?_ _)); exact BK428.out⟩, ⟨by (with_reducible repeat (first | refine blk_drewN ?_ _ | refine blk_drew ?_ | refine blk_alloc ?_ _)); exact BK429.out⟩, ⟨by (with_reducible repeat (first | refine blk_drewN ?_ _ | refine blk_drew ?_ | refine blk_alloc ?_ _)); exact BK431.out⟩, ⟨by repeat (first | (with_reducible first | exact HB.out | apply below_alloc | apply pw_below_drewN | apply below_drew1 | refine below_set ?_ GE428.out | refine below_set ?_ GE429.out | refine below_set ?_ GE431.out) | exact HB.out)⟩⟩
    case round =>
     clear H'
     try clear c1
     try clear c2
     try clear p2
     try clear c3
     try clear c4
     try clear c4b0
     try clear c4b1
     try clear c5
     try clear c5b0
     try clear c5b1
     try clear c8
     try clear c12
     try clear hcz13_0
     try clear hcz13_1
     try clear hcz13_2
     try clear hcz9_0
     try clear hcz9_1
     try clear hcz9_2
     try clear hfz13_0
     try clear hfz13_1
     try clear hfz13_2
     try clear hfz9_0
     try clear hfz9_1
     try clear hfz9_2
     obtain ⟨x5_1, x6_1, x432000_1, u432000, rfl, HA, HK1, HO_5, HO_432000, BK428, BK429, BK431, HB⟩ := hrel
     cases gk with
     | zero => exact absurd HA.out (by simp [recoupref21_Of.l0])
     | succ k1 =>
      have H := HA.out
      clear HA
      simp only [recoupref21_Of.l0] at H
      by_cases c16 : x6_1 < a0_1
      ·rw [if_pos c16] at H
       have c16b0 : decide (x6_1 < a0_1) = true := decide_eq_true c16
       clear c16
       have H' := Aside0.mk H
       clear H
       have hnb17 := NB428_429.out
       have hnc17 := NB429_428.out
       have hnb18 := NB428_431.out
       have hnc18 := NB431_428.out
       have hcz19_0 : wr.cell? ⟨gb428, 0, none⟩ = some (.int .i64 a0_0) := (blk_cell BK428.out 0).trans rfl
       have hcz19_1 : wr.cell? ⟨gb428, 1, none⟩ = some (.int .i64 a0_1) := (blk_cell BK428.out 1).trans rfl
       have hcz19_2 : wr.cell? ⟨gb428, 2, none⟩ = some (.slice A0_2 l0_2.length c0_2) := (blk_cell BK428.out 2).trans rfl
       have hfz19_0 := blk_frozen BK428.out 0
       have hfz19_1 := blk_frozen BK428.out 1
       have hfz19_2 := blk_frozen BK428.out 2
       go_wp2
       go_loopg [7, 8] k1 (fun kq v7 v8 w' => ∃ (x7_2 : Bool) (x8_2 : Int), v7 = .bool x7_2 ∧ v8 = .int .i64 x8_2 ∧ Aside0 (recoupref21_Of.l1 kq x5_1 x6_1 x7_2 x8_2 a0_0 a0_1 l0_2 x432000_1 = some (r1, r2, r3, r4)) ∧ Aside0 (kq ≤ k1) ∧ Aside0 (Kd.R (Kd.int .i64) 3 w' w.heap.size (fun k_ => some k_ ≠ (u432000 : Value).ownBlock) v433 x5_1) ∧ Aside0 (Kd.R (Kd.int .i64) 3 w' w.heap.size (fun k_ => some k_ ≠ (v433 : Value).ownBlock) u432000 x432000_1) ∧ Aside0 (w'.heap[gb428]? = some (.cells #[.int .i64 a0_0, .int .i64 a0_1, (.slice A0_2 l0_2.length c0_2)] 47 (0, 0))) ∧ Aside0 (w'.heap[gb429]? = some (.cells #[(.slice none 0 0), (.slice none 0 0), (.slice none 0 0)] 25 (0, 0))) ∧ Aside0 (w'.heap[gb431]? = some (.cells #[u432000, (.slice none 0 0), (.slice none 0 0)] 25 (0, 0))) ∧ Aside0 (Below w.heap.size w w'))
       case atStart => exact ⟨(false), (0), (by first | rfl | (simp; done) | (simp [*]; done)), (by first | rfl | (simp; done) | (simp [*]; done)), H', ⟨Nat.le_refl _⟩, ⟨by (with_reducible repeat (first | apply Kd.R_alloc | apply Kd.R_drewN | apply Kd.R_drew)); exact HO_5.out⟩, ⟨by (with_reducible repeat (first | apply Kd.R_alloc | apply Kd.R_drewN | apply Kd.R_drew)); exact HO_432000.out⟩, ⟨by (with_reducible repeat (first | refine blk_drewN ?_ _ | refine blk_drew ?_ | refine blk_alloc ?_ _)); exact BK428.out⟩, ⟨by (with_reducible repeat (first | refine blk_drewN ?_ _ | refine blk_drew ?_ | refine blk_alloc ?_ _)); exact BK429.out⟩, ⟨by (with_reducible repeat (first | refine blk_drewN ?_ _ | refine blk_drew ?_ | refine blk_alloc ?_ _)); exact BK431.out⟩, ⟨by repeat (first | (with_reducible first | exact HB.out | apply below_alloc | apply pw_below_drewN | apply below_drew1 | refine below_set ?_ GE428.out | refine below_set ?_ GE429.out | refine below_set ?_ GE431.out) | exact HB.out)⟩⟩
       case round =>
        clear H'
        try clear c1
        try clear c2
        try clear p2
        try clear c3
        try clear c4
        try clear c4b0
        try clear c4b1
        try clear c5
        try clear c5b0
        try clear c5b1
        try clear c8
        try clear c12
        try clear c16
        try clear c16b0
        try clear c17
        try clear c18
        try clear hcz13_0
        try clear hcz13_1
        try clear hcz13_2
        try clear hcz19_0
        try clear hcz19_1
        try clear hcz19_2
        try clear hcz9_0
        try clear hcz9_1
        try clear hcz9_2
        try clear hfz13_0
        try clear hfz13_1
        try clear hfz13_2
        try clear hfz19_0
        try clear hfz19_1
        try clear hfz19_2
        try clear hfz9_0
        try clear hfz9_1
        try clear hfz9_2
        try clear p2
        obtain ⟨x7_2, x8_2, rfl, rfl, HA, HK2, HO_5, HO_432000, BK428, BK429, BK431, HB⟩ := hrel
        cases gk with
        | zero => exact absurd HA.out (by simp [recoupref21_Of.l1])
        | succ k2 =>
         have H := HA.out
         clear HA
         simp only [recoupref21_Of.l1] at H
         by_cases c20 : x8_2 < a0_0
         ·rw [if_pos c20] at H
          have c20b0 : decide (x8_2 < a0_0) = true := decide_eq_true c20
          clear c20
          by_cases c21 : x7_2 = true
          ·subst c21
           have H1 : (recoupref21_Of.l1 k2 x5_1 x6_1 true (wrap64 (x8_2 + 1)) a0_0 a0_1 l0_2 x432000_1) = some (r1, r2, r3, r4) := by rw [if_pos rfl] at H; exact H
           clear H
           have H := H1
           clear H1
           have H' := Aside0.mk H
           clear H
           have hnb22 := NB428_429.out
           have hnc22 := NB429_428.out
           have hnb23 := NB428_431.out
           have hnc23 := NB431_428.out
           have hcz24_0 : wr.cell? ⟨gb428, 0, none⟩ = some (.int .i64 a0_0) := (blk_cell BK428.out 0).trans rfl
           have hcz24_1 : wr.cell? ⟨gb428, 1, none⟩ = some (.int .i64 a0_1) := (blk_cell BK428.out 1).trans rfl
           have hcz24_2 : wr.cell? ⟨gb428, 2, none⟩ = some (.slice A0_2 l0_2.length c0_2) := (blk_cell BK428.out 2).trans rfl
           have hfz24_0 := blk_frozen BK428.out 0
           have hfz24_1 := blk_frozen BK428.out 1
           have hfz24_2 := blk_frozen BK428.out 2
           go_wp2
           go_roundg k2
           case measure => have := HK1.out; have := HK2.out; omega
           case rel => exact ⟨(true), (wrap64 (x8_2 + 1)), (by first | rfl | (simp; done) | (simp [*]; done)), (by first | rfl | (simp; done) | (simp [*]; done)), H', ⟨by have := HK1.out; have := HK2.out; omega⟩, ⟨by (with_reducible repeat (first | apply Kd.R_alloc | apply Kd.R_drewN | apply Kd.R_drew)); exact HO_5.out⟩, ⟨by (with_reducible repeat (first | apply Kd.R_alloc | apply Kd.R_drewN | apply Kd.R_drew)); exact HO_432000.out⟩, ⟨by (with_reducible repeat (first | refine blk_drewN ?_ _ | refine blk_drew ?_ | refine blk_alloc ?_ _)); exact BK428.out⟩, ⟨by (with_reducible repeat (first | refine blk_drewN ?_ _ | refine blk_drew ?_ | refine blk_alloc ?_ _)); exact BK429.out⟩, ⟨by (with_reducible repeat (first | refine blk_drewN ?_ _ | refine blk_drew ?_ | refine blk_alloc ?_ _)); exact BK431.out⟩, ⟨by repeat (first | (with_reducible first | exact HB.out | apply below_alloc | apply pw_below_drewN | apply below_drew1 | refine below_set ?_ GE428.out | refine below_set ?_ GE429.out | refine below_set ?_ GE431.out) | exact HB.out)⟩⟩
          ·replace c21 := Bool.eq_false_iff.mpr c21
           subst c21
           have H1 : ((recoupref03_At.f a0_0 a0_1 l0_2 x8_2 x6_1).bind fun t435 => (recoupref21_Of.l1 k2 x5_1 x6_1 (t435 != 0) (wrap64 (x8_2 + 1)) a0_0 a0_1 l0_2 x432000_1)) = some (r1, r2, r3, r4) := by rw [if_neg (show ¬ (false = true) by decide)] at H; exact H
           clear H
           have H := H1
           clear H1
           replace H := Option.bind_eq_some_iff.mp H
           obtain ⟨t435, A250, H⟩ := H
           replace H : (recoupref21_Of.l1 k2 x5_1 x6_1 (t435 != 0) (wrap64 (x8_2 + 1)) a0_0 a0_1 l0_2 x432000_1) = some (r1, r2, r3, r4) := H
           have A25 := Aside0.mk A250
           clear A250
           have H' := Aside0.mk H
           clear H
           have hnb26 := NB428_429.out
           have hnc26 := NB429_428.out
           have hnb27 := NB428_431.out
           have hnc27 := NB431_428.out
           have hcz28_0 : wr.cell? ⟨gb428, 0, none⟩ = some (.int .i64 a0_0) := (blk_cell BK428.out 0).trans rfl
           have hcz28_1 : wr.cell? ⟨gb428, 1, none⟩ = some (.int .i64 a0_1) := (blk_cell BK428.out 1).trans rfl
           have hcz28_2 : wr.cell? ⟨gb428, 2, none⟩ = some (.slice A0_2 l0_2.length c0_2) := (blk_cell BK428.out 2).trans rfl
           have hfz28_0 := blk_frozen BK428.out 0
           have hfz28_1 := blk_frozen BK428.out 1
           have hfz28_2 := blk_frozen BK428.out 2
           go_wp2_with (first | (go_at_call 47; (with_reducible refine (recoupref03_At.calls a0_0 a0_1 _ _ l0_2 x8_2 x6_1 t435 _ ?side1 ?side2 A25.out).mono ?_); (case side1 => repeat (first | exact (Kd.C_below HR0_2.out HB.out) | (with_reducible refine Kd.C_alloc ?_ _) | (with_reducible refine Kd.C_drewN ?_ _) | (with_reducible refine Kd.C_drew ?_))); (case side2 => exact HC0_2.out); rintro e w29 ⟨rfl, hb⟩; have n0_ := Aside0.mk (Kd.R_below (by (with_reducible repeat (first | apply Kd.R_alloc | apply Kd.R_drewN | apply Kd.R_drew)); exact HO_5.out) hb); have n1_ := Aside0.mk (Kd.R_below (by (with_reducible repeat (first | apply Kd.R_alloc | apply Kd.R_drewN | apply Kd.R_drew)); exact HO_432000.out) hb); have n2_ := Aside0.mk (blk_below (g := gb428) (o := .cells #[.int .i64 a0_0, .int .i64 a0_1, .slice A0_2 l0_2.length c0_2] 47 (0, 0)) (by (with_reducible repeat (first | refine blk_drewN ?_ _ | refine blk_drew ?_ | refine blk_alloc ?_ _)); exact BK428.out) hb); have n3_ := Aside0.mk (blk_below (g := gb429) (o := .cells #[.slice none 0 0, .slice none 0 0, .slice none 0 0] 25 (0, 0)) (by (with_reducible repeat (first | refine blk_drewN ?_ _ | refine blk_drew ?_ | refine blk_alloc ?_ _)); exact BK429.out) hb); have n4_ := Aside0.mk (blk_below (g := gb431) (o := .cells #[u432000, .slice none 0 0, .slice none 0 0] 25 (0, 0)) (by (with_reducible repeat (first | refine blk_drewN ?_ _ | refine blk_drew ?_ | refine blk_alloc ?_ _)); exact BK431.out) hb); have n5_ := Aside0.mk (below_step (by repeat (first | (with_reducible first | exact HB.out | apply below_alloc | apply pw_below_drewN | apply below_drew1 | refine below_set ?_ GE428.out | refine below_set ?_ GE429.out | refine below_set ?_ GE431.out) | exact HB.out)) hb); clear HO_5; clear HO_432000; clear BK428; clear BK429; clear BK431; clear HB; have HO_5 := n0_; have HO_432000 := n1_; have BK428 := n2_; have BK429 := n3_; have BK431 := n4_; have HB := n5_; clear n0_ n1_ n2_ n3_ n4_ n5_; (try clear hb); (try clear hb2); (try clear hk); (try clear hi)))
           go_roundg k2
           case measure => have := HK1.out; have := HK2.out; omega
           case rel => exact ⟨((t435 != 0)), (wrap64 (x8_2 + 1)), (by first | rfl | (simp; done) | (simp [*]; done)), (by first | rfl | (simp; done) | (simp [*]; done)), H', ⟨by have := HK1.out; have := HK2.out; omega⟩, ⟨by (with_reducible repeat (first | apply Kd.R_alloc | apply Kd.R_drewN | apply Kd.R_drew)); exact HO_5.out⟩, ⟨by (with_reducible repeat (first | apply Kd.R_alloc | apply Kd.R_drewN | apply Kd.R_drew)); exact HO_432000.out⟩, ⟨by (with_reducible repeat (first | refine blk_drewN ?_ _ | refine blk_drew ?_ | refine blk_alloc ?_ _)); exact BK428.out⟩, ⟨by (with_reducible repeat (first | refine blk_drewN ?_ _ | refine blk_drew ?_ | refine blk_alloc ?_ _)); exact BK429.out⟩, ⟨by (with_reducible repeat (first | refine blk_drewN ?_ _ | refine blk_drew ?_ | refine blk_alloc ?_ _)); exact BK431.out⟩, ⟨by repeat (first | (with_reducible first | exact HB.out | apply below_alloc | apply pw_below_drewN | apply below_drew1 | refine below_set ?_ GE428.out | refine below_set ?_ GE429.out | refine below_set ?_ GE431.out) | exact HB.out)⟩⟩
         ·rw [if_neg c20] at H
          have c20b0 : decide (x8_2 < a0_0) = false := decide_eq_false c20
          clear c20
          by_cases c30 : x7_2 = true
          ·subst c30
           have H1 : (if 0 ≤ x6_1 then (if x6_1 < (x5_1.length : Int) then (if x432000_1.length < 17592186044416 then (recoupref21_Of.l0 k2 (x5_1.set (x6_1 : Int).toNat (x432000_1.length : Int)) (wrap64 (x6_1 + 1)) a0_0 a0_1 l0_2 (x432000_1 ++ [x6_1])) else (none)) else (none)) else (none)) = some (r1, r2, r3, r4) := by rw [if_pos rfl] at H; exact H
           clear H
           have H := H1
           clear H1
           by_cases c31 : 0 ≤ x6_1
           ·rw [if_pos c31] at H
            have c31b0 : decide (0 ≤ x6_1) = true := decide_eq_true c31
            clear c31
            by_cases c32 : x6_1 < (x5_1.length : Int)
            ·rw [if_pos c32] at H
             have c32b0 : decide (x6_1 < (x5_1.length : Int)) = true := decide_eq_true c32
             clear c32
             obtain ⟨y436, hy436⟩ : ∃ y_ : List Int, y_ = (x5_1.set (x6_1 : Int).toNat (x432000_1.length : Int)) := ⟨_, rfl⟩
             replace H : (if x432000_1.length < 17592186044416 then (recoupref21_Of.l0 k2 y436 (wrap64 (x6_1 + 1)) a0_0 a0_1 l0_2 (x432000_1 ++ [x6_1])) else (none)) = some (r1, r2, r3, r4) := by first | (rw [hy436]; with_reducible exact H) | (have H2_ := (Option.bind_some _ _).symm.trans H; rw [hy436]; with_reducible exact H2_) | (have H2_ := (Option.bind_some _ _).symm.trans H; with_reducible exact H2_) | with_reducible exact H | (rw [hy436]; exact H) | exact H
             have Ny436 := Aside0.mk hy436
             clear hy436
             by_cases c34 : x432000_1.length < 17592186044416
             ·rw [if_pos c34] at H
              have LMc34 := Aside0.mk c34
              clear c34
              obtain ⟨y437, hy437⟩ : ∃ y_ : List Int, y_ = (x432000_1 ++ [x6_1]) := ⟨_, rfl⟩
              replace H : (recoupref21_Of.l0 k2 y436 (wrap64 (x6_1 + 1)) a0_0 a0_1 l0_2 y437) = some (r1, r2, r3, r4) := by first | (rw [hy437]; with_reducible exact H) | (have H2_ := (Option.bind_some _ _).symm.trans H; rw [hy437]; with_reducible exact H2_) | (have H2_ := (Option.bind_some _ _).symm.trans H; with_reducible exact H2_) | with_reducible exact H | (rw [hy437]; exact H) | exact H
              have Ny437 := Aside0.mk hy437
              clear hy437
              have H' := Aside0.mk H
              clear H
              have hnb35 := NB428_429.out
              have hnc35 := NB429_428.out
              have hnb36 := NB428_431.out
              have hnc36 := NB431_428.out
              have hcz37_0 : wr.cell? ⟨gb428, 0, none⟩ = some (.int .i64 a0_0) := (blk_cell BK428.out 0).trans rfl
              have hcz37_1 : wr.cell? ⟨gb428, 1, none⟩ = some (.int .i64 a0_1) := (blk_cell BK428.out 1).trans rfl
              have hcz37_2 : wr.cell? ⟨gb428, 2, none⟩ = some (.slice A0_2 l0_2.length c0_2) := (blk_cell BK428.out 2).trans rfl
              have hfz37_0 := blk_frozen BK428.out 0
              have hfz37_1 := blk_frozen BK428.out 1
              have hfz37_2 := blk_frozen BK428.out 2
              have hnb38 := NB431_429.out
              have hnc38 := NB429_431.out
              have hcz39_0 : wr.cell? ⟨gb431, 0, none⟩ = some (u432000) := (blk_cell BK431.out 0).trans rfl
              have hcz39_1 : wr.cell? ⟨gb431, 1, none⟩ = some (.slice none 0 0) := (blk_cell BK431.out 1).trans rfl
              have hcz39_2 : wr.cell? ⟨gb431, 2, none⟩ = some (.slice none 0 0) := (blk_cell BK431.out 2).trans rfl
              have hfz39_0 := blk_frozen BK431.out 0
              have hfz39_1 := blk_frozen BK431.out 1
              have hfz39_2 := blk_frozen BK431.out 2
              obtain ⟨Ao40, co40, eo40⟩ := Kd.R_slice HO_432000.out
              subst eo40
              have p33 : 0 ≤ (x6_1 : Int) := of_decide_eq_true (by first | (with_reducible assumption) | assumption)
              have q33 : (x6_1 : Int) < ((x5_1.length : Int) : Int) := of_decide_eq_true (by first | (with_reducible assumption) | assumption)
              obtain ⟨go33, co33, eo33, gb33, gl33, cl33, HG33⟩ := Kd.R_form HO_5.out (by omega)
              (first | cases eo33 | (injection eo33 with ea_ en_ ec_; (first | subst ea_ | (injection ea_ with ea_; subst ea_)); subst ec_; clear en_))
              have GB33 := Aside0.mk gb33
              have GG33 := Aside0.mk HG33
              clear gb33 gl33 HG33
              obtain ⟨hx33_0, hf33_0⟩ := Kd.R_celln 0 HO_5.out (x6_1 : Int) p33 q33
              replace p33 := eq_true p33
              replace q33 := eq_true q33
              have HP41 := Kd.R_putg HO_5.out (x6_1 : Int) (x432000_1.length : Int)
              go_wp2_with (first | ((with_reducible refine gate_store (t := 3) (p := 46) rfl ?_); refine store_event (t := 3) (p := 46) (v := ?vo_w42) (w1 := (wr.setCell ⟨go33, (x6_1 : Int).toNat, none⟩ (.int .i64 (x432000_1.length : Int)))) ?hg ?ho ?hn ?hr ?_; (case ho => rfl); (case hg => rfl); (case hn => rfl); (case hr => first | (go_simp; done) | (go_simp; rfl)); intro w42 hw; have hg : wr.grownBy w42 (some go33) := (by rw [hw]; exact HP41.2); have hp_ : Kd.R (Kd.int .i64) 3 w42 w.heap.size (fun k_ => some k_ ≠ (.slice Ao40 x432000_1.length co40 : Value).ownBlock) (.slice (some ⟨go33, 0, none⟩) x5_1.length co33) y436 := (by rw [hw, Ny436.out]; exact HP41.1); clear HP41; have n0_ := Aside0.mk (hp_); have n1_ := Aside0.mk (Kd.R_after (v := (.slice (some ⟨go33, 0, none⟩) x5_1.length co33)) (v1 := (.slice (some ⟨go33, 0, none⟩) x5_1.length co33)) (ok := (fun _ => True)) (by (with_reducible repeat (first | apply Kd.R_alloc | apply Kd.R_drewN | apply Kd.R_drew)); exact Kd.R_mono HO_432000.out (fun _ hk => ⟨trivial, hk⟩)) hg (.inl rfl)); have n2_ := Aside0.mk (blk_grown (g := gb428) (o := .cells #[.int .i64 a0_0, .int .i64 a0_1, .slice A0_2 l0_2.length c0_2] 47 (0, 0)) (by (with_reducible repeat (first | refine blk_drewN ?_ _ | refine blk_drew ?_ | refine blk_alloc ?_ _)); exact BK428.out) hg (Kd.R_ne HO_5.out BK428.out (by decide))); have n3_ := Aside0.mk (blk_grown (g := gb429) (o := .cells #[.slice none 0 0, .slice none 0 0, .slice none 0 0] 25 (0, 0)) (by (with_reducible repeat (first | refine blk_drewN ?_ _ | refine blk_drew ?_ | refine blk_alloc ?_ _)); exact BK429.out) hg (Kd.R_ne HO_5.out BK429.out (by decide))); have n4_ := Aside0.mk (blk_grown (g := gb431) (o := .cells #[.slice Ao40 x432000_1.length co40, .slice none 0 0, .slice none 0 0] 25 (0, 0)) (by (with_reducible repeat (first | refine blk_drewN ?_ _ | refine blk_drew ?_ | refine blk_alloc ?_ _)); exact BK431.out) hg (Kd.R_ne HO_5.out BK431.out (by decide))); have n5_ := Aside0.mk ((by rw [hw]; exact below_set (HB.out) GB33.out : Below w.heap.size w w42)); clear HO_5; clear HO_432000; clear BK428; clear BK429; clear BK431; clear HB; have HO_5 := n0_; have HO_432000 := n1_; have BK428 := n2_; have BK429 := n3_; have BK431 := n4_; have HB := n5_; clear n0_ n1_ n2_ n3_ n4_ n5_; clear hg hw hp_; have hcz43_0 : w42.cell? ⟨gb431, 0, none⟩ = some (.slice Ao40 x432000_1.length co40) := (blk_cell BK431.out 0).trans rfl; have hcz43_1 : w42.cell? ⟨gb431, 1, none⟩ = some (.slice none 0 0) := (blk_cell BK431.out 1).trans rfl; have hcz43_2 : w42.cell? ⟨gb431, 2, none⟩ = some (.slice none 0 0) := (blk_cell BK431.out 2).trans rfl; have hfz43_0 := blk_frozen BK431.out 0; have hfz43_1 := blk_frozen BK431.out 1; have hfz43_2 := blk_frozen BK431.out 2) | ((with_reducible refine gate_builtin (b := .append) (xs := #[.tmp 48, .tmp 50]) rfl ?_); at_builtin; refine Kd.R_append (Kd.int .i64) (w0 := w) w.heap.size rfl (.tmp 48) (.tmp 50) 22 3 (.int .i64 0) 8 rfl Try.underlying22 info3 rfl (by decide) (by omega) (.slice Ao40 x432000_1.length co40) x432000_1 x6_1 [.int .i64 x6_1] (fun k_ => some k_ ≠ (.slice (some ⟨go33, 0, none⟩) x5_1.length co33 : Value).ownBlock) (fun _ => False) rfl rfl ?aP (fun _ hk => hk.elim) ?aF ?aO ?aB ?aS ?aL ?_; (case aP => exact rfl); (case aB => exact (by repeat (first | (with_reducible first | exact HB.out | apply below_alloc | apply pw_below_drewN | apply below_drew1 | refine below_set ?_ GE428.out | refine below_set ?_ GE429.out | refine below_set ?_ GE431.out) | exact HB.out))); (case aF => exact (fun k_ hk => Kd.fresh' (Kd.R_lt (by (with_reducible repeat (first | apply Kd.R_alloc | apply Kd.R_drewN | apply Kd.R_drew)); exact HO_5.out)) k_ hk)); (case aO => exact (by (with_reducible repeat (first | apply Kd.R_alloc | apply Kd.R_drewN | apply Kd.R_drew)); exact Kd.R_mono HO_432000.out (fun _ hk => hk.2))); (case aS => exact (below_size (by repeat (first | (with_reducible first | exact HB.out | apply below_alloc | apply pw_below_drewN | apply below_drew1 | refine below_set ?_ GE428.out | refine below_set ?_ GE429.out | refine below_set ?_ GE431.out) | exact HB.out)))); (case aL => have := LMc34.out; omega); intro v438 w44 ho hb hg hat; rw [← Ny437.out] at ho; have n0_ := Aside0.mk (Kd.R_after (ok := (fun _ => True)) (by (with_reducible repeat (first | apply Kd.R_alloc | apply Kd.R_drewN | apply Kd.R_drew)); exact Kd.R_mono HO_5.out (fun _ hk => ⟨trivial, hk⟩)) hg hat); have n1_ := Aside0.mk (blk_grown (g := gb428) (o := .cells #[.int .i64 a0_0, .int .i64 a0_1, .slice A0_2 l0_2.length c0_2] 47 (0, 0)) (by (with_reducible repeat (first | refine blk_drewN ?_ _ | refine blk_drew ?_ | refine blk_alloc ?_ _)); exact BK428.out) hg (Kd.R_ne HO_432000.out BK428.out (by decide))); have n2_ := Aside0.mk (blk_grown (g := gb429) (o := .cells #[.slice none 0 0, .slice none 0 0, .slice none 0 0] 25 (0, 0)) (by (with_reducible repeat (first | refine blk_drewN ?_ _ | refine blk_drew ?_ | refine blk_alloc ?_ _)); exact BK429.out) hg (Kd.R_ne HO_432000.out BK429.out (by decide))); have n3_ := Aside0.mk (blk_grown (g := gb431) (o := .cells #[.slice Ao40 x432000_1.length co40, .slice none 0 0, .slice none 0 0] 25 (0, 0)) (by (with_reducible repeat (first | refine blk_drewN ?_ _ | refine blk_drew ?_ | refine blk_alloc ?_ _)); exact BK431.out) hg (Kd.R_ne HO_432000.out BK431.out (by decide))); have n4_ := Aside0.mk (hb); have n5_ := Aside0.mk (ho); clear HO_5; clear BK428; clear BK429; clear BK431; clear HB; clear HO_432000; have HO_5 := n0_; have BK428 := n1_; have BK429 := n2_; have BK431 := n3_; have HB := n4_; have HO439 := n5_; clear n0_ n1_ n2_ n3_ n4_ n5_; clear ho hb hg hat; obtain ⟨Ao45, co45, eo45⟩ := Kd.R_slice HO439.out; subst eo45; have hcz46_0 : w44.cell? ⟨gb431, 0, none⟩ = some (.slice Ao40 x432000_1.length co40) := (blk_cell BK431.out 0).trans rfl; have hcz46_1 : w44.cell? ⟨gb431, 1, none⟩ = some (.slice none 0 0) := (blk_cell BK431.out 1).trans rfl; have hcz46_2 : w44.cell? ⟨gb431, 2, none⟩ = some (.slice none 0 0) := (blk_cell BK431.out 2).trans rfl; have hfz46_0 := blk_frozen BK431.out 0; have hfz46_1 := blk_frozen BK431.out 1; have hfz46_2 := blk_frozen BK431.out 2))
              go_roundg k2
              case measure => have := HK1.out; have := HK2.out; omega
              case rel => exact ⟨(y436), (wrap64 (x6_1 + 1)), (y437), (.slice Ao45 y437.length co45), (by first | rfl | (simp; done) | (simp [*]; done)), H', ⟨by have := HK1.out; have := HK2.out; omega⟩, ⟨by (with_reducible repeat (first | apply Kd.R_alloc | apply Kd.R_drewN | apply Kd.R_drew)); exact Kd.R_mono (Kd.R_far (p := ⟨gb431, 0, none⟩) (Kd.R_types HO_5.out BK431.out (by decide)) (fun _ hk => hk.2) (.slice Ao45 y437.length co45)) (fun _ hk => hk.1.2)⟩, ⟨by (with_reducible repeat (first | apply Kd.R_alloc | apply Kd.R_drewN | apply Kd.R_drew)); exact Kd.R_mono (Kd.R_far (p := ⟨gb431, 0, none⟩) (Kd.R_types HO439.out BK431.out (by decide)) (fun _ hk => hk.2) (.slice Ao45 y437.length co45)) (fun _ hk => hk.1)⟩, ⟨by (with_reducible repeat (first | refine blk_drewN ?_ _ | refine blk_drew ?_ | refine blk_alloc ?_ _)); refine blk_far ?_ NB428_431.out _; (with_reducible repeat (first | refine blk_drewN ?_ _ | refine blk_drew ?_ | refine blk_alloc ?_ _)); exact BK428.out⟩, ⟨by (with_reducible repeat (first | refine blk_drewN ?_ _ | refine blk_drew ?_ | refine blk_alloc ?_ _)); refine blk_far ?_ NB429_431.out _; (with_reducible repeat (first | refine blk_drewN ?_ _ | refine blk_drew ?_ | refine blk_alloc ?_ _)); exact BK429.out⟩, ⟨by (with_reducible repeat (first | refine blk_drewN ?_ _ | refine blk_drew ?_ | refine blk_alloc ?_ _)); refine blk_put (cs := #[.slice Ao40 x432000_1.length co40, .slice none 0 0, .slice none 0 0]) ?_ 0 _ rfl; (with_reducible repeat (first | refine blk_drewN ?_ _ | refine blk_drew ?_ | refine blk_alloc ?_ _)); exact BK431.out⟩, ⟨by repeat (first | (with_reducible first | exact HB.out | apply below_alloc | apply pw_below_drewN | apply below_drew1 | refine below_set ?_ GE428.out | refine below_set ?_ GE429.out | refine below_set ?_ GE431.out) | exact HB.out)⟩⟩
             ·rw [if_neg c34] at H
              exact absurd H (by simp)
            ·rw [if_neg c32] at H
             exact absurd H (by simp)
           ·rw [if_neg c31] at H
            exact absurd H (by simp)
          ·replace c30 := Bool.eq_false_iff.mpr c30
           subst c30
           have H1 : (recoupref21_Of.l0 k2 x5_1 (wrap64 (x6_1 + 1)) a0_0 a0_1 l0_2 x432000_1) = some (r1, r2, r3, r4) := by rw [if_neg (show ¬ (false = true) by decide)] at H; exact H
           clear H
           have H := H1
           clear H1
           have H' := Aside0.mk H
           clear H
           have hnb47 := NB428_429.out
           have hnc47 := NB429_428.out
           have hnb48 := NB428_431.out
           have hnc48 := NB431_428.out
           have hcz49_0 : wr.cell? ⟨gb428, 0, none⟩ = some (.int .i64 a0_0) := (blk_cell BK428.out 0).trans rfl
           have hcz49_1 : wr.cell? ⟨gb428, 1, none⟩ = some (.int .i64 a0_1) := (blk_cell BK428.out 1).trans rfl
           have hcz49_2 : wr.cell? ⟨gb428, 2, none⟩ = some (.slice A0_2 l0_2.length c0_2) := (blk_cell BK428.out 2).trans rfl
           have hfz49_0 := blk_frozen BK428.out 0
           have hfz49_1 := blk_frozen BK428.out 1
           have hfz49_2 := blk_frozen BK428.out 2
           go_wp2
           go_roundg k2
           case measure => have := HK1.out; have := HK2.out; omega
           case rel => exact ⟨(x5_1), (wrap64 (x6_1 + 1)), (x432000_1), (u432000), (by first | rfl | (simp; done) | (simp [*]; done)), H', ⟨by have := HK1.out; have := HK2.out; omega⟩, ⟨by (with_reducible repeat (first | apply Kd.R_alloc | apply Kd.R_drewN | apply Kd.R_drew)); exact HO_5.out⟩, ⟨by (with_reducible repeat (first | apply Kd.R_alloc | apply Kd.R_drewN | apply Kd.R_drew)); exact HO_432000.out⟩, ⟨by (with_reducible repeat (first | refine blk_drewN ?_ _ | refine blk_drew ?_ | refine blk_alloc ?_ _)); exact BK428.out⟩, ⟨by (with_reducible repeat (first | refine blk_drewN ?_ _ | refine blk_drew ?_ | refine blk_alloc ?_ _)); exact BK429.out⟩, ⟨by (with_reducible repeat (first | refine blk_drewN ?_ _ | refine blk_drew ?_ | refine blk_alloc ?_ _)); exact BK431.out⟩, ⟨by repeat (first | (with_reducible first | exact HB.out | apply below_alloc | apply pw_below_drewN | apply below_drew1 | refine below_set ?_ GE428.out | refine below_set ?_ GE429.out | refine below_set ?_ GE431.out) | exact HB.out)⟩⟩
      ·rw [if_neg c16] at H
       have c16b0 : decide (x6_1 < a0_1) = false := decide_eq_false c16
       clear c16
       have H' := Aside0.mk H
       clear H
       have hnb50 := NB428_429.out
       have hnc50 := NB429_428.out
       have hnb51 := NB428_431.out
       have hnc51 := NB431_428.out
       have hcz52_0 : wr.cell? ⟨gb428, 0, none⟩ = some (.int .i64 a0_0) := (blk_cell BK428.out 0).trans rfl
       have hcz52_1 : wr.cell? ⟨gb428, 1, none⟩ = some (.int .i64 a0_1) := (blk_cell BK428.out 1).trans rfl
       have hcz52_2 : wr.cell? ⟨gb428, 2, none⟩ = some (.slice A0_2 l0_2.length c0_2) := (blk_cell BK428.out 2).trans rfl
       have hfz52_0 := blk_frozen BK428.out 0
       have hfz52_1 := blk_frozen BK428.out 1
       have hfz52_2 := blk_frozen BK428.out 2
       go_wp2
       go_loopg [9] k1 (fun kq v9 w' => ∃ (x9_2 : Int) (x432001_2 : List (List (S64))) (x432002_2 : List Int) (u432001 : Value) (u432002 : Value), v9 = .int .i64 x9_2 ∧ Aside0 (recoupref21_Of.l2 kq x5_1 x9_2 a0_0 a0_1 l0_2 x432000_1 x432001_2 x432002_2 = some (r1, r2, r3, r4)) ∧ Aside0 (kq ≤ k1) ∧ Aside0 (Kd.R (Kd.int .i64) 3 w' w.heap.size (fun k_ => some k_ ≠ (u432000 : Value).ownBlock ∧ some k_ ≠ (u432002 : Value).ownBlock) v433 x5_1) ∧ Aside0 (Kd.R (Kd.int .i64) 3 w' w.heap.size (fun k_ => some k_ ≠ (v433 : Value).ownBlock ∧ some k_ ≠ (u432002 : Value).ownBlock) u432000 x432000_1) ∧ Aside0 (Kd.S (Kd.slice 64 k64) 62 w' w.heap.size (fun _ => True) u432001 x432001_2) ∧ Aside0 (Kd.R (Kd.int .i64) 3 w' w.heap.size (fun k_ => some k_ ≠ (v433 : Value).ownBlock ∧ some k_ ≠ (u432000 : Value).ownBlock) u432002 x432002_2) ∧ Aside0 (w'.heap[gb428]? = some (.cells #[.int .i64 a0_0, .int .i64 a0_1, (.slice A0_2 l0_2.length c0_2)] 47 (0, 0))) ∧ Aside0 (w'.heap[gb429]? = some (.cells #[(.slice none 0 0), (.slice none 0 0), (.slice none 0 0)] 25 (0, 0))) ∧ Aside0 (w'.heap[gb431]? = some (.cells #[u432000, u432001, u432002] 25 (0, 0))) ∧ Aside0 (Below w.heap.size w w'))
       case atStart => exact ⟨(0), (([] : List (List (S64)))), (([] : List Int)), (.slice none 0 0), (.slice none 0 0), (by first | rfl | (simp; done) | (simp [*]; done)), H', ⟨Nat.le_refl _⟩, ⟨by (with_reducible repeat (first | apply Kd.R_alloc | apply Kd.R_drewN | apply Kd.R_drew)); exact Kd.R_mono HO_5.out (fun _ hk => ⟨hk, (by simp [Value.ownBlock])⟩)⟩, ⟨by (with_reducible repeat (first | apply Kd.R_alloc | apply Kd.R_drewN | apply Kd.R_drew)); exact Kd.R_mono HO_432000.out (fun _ hk => ⟨hk, (by simp [Value.ownBlock])⟩)⟩, ⟨by first | exact Kd.S_nil _ _ _ _ _ | exact Kd.N_nil _ _ _ _ _ | exact Kd.V_nil _ _ _ _ _ | exact Kd.Q_nil _ _ _ _ _ | exact Kd.R_nil _ _ _ _ _⟩, ⟨by first | exact Kd.R_nil _ _ _ _ _ | exact Kd.N_nil _ _ _ _ _ | exact Kd.V_nil _ _ _ _ _ | exact Kd.Q_nil _ _ _ _ _ | exact Kd.S_nil _ _ _ _ _⟩, ⟨by (with_reducible repeat (first | refine blk_drewN ?_ _ | refine blk_drew ?_ | refine blk_alloc ?_ _)); exact BK428.out⟩, ⟨by (with_reducible repeat (first | refine blk_drewN ?_ _ | refine blk_drew ?_ | refine blk_alloc ?_ _)); exact BK429.out⟩, ⟨by (with_reducible repeat (first | refine blk_drewN ?_ _ | refine blk_drew ?_ | refine blk_alloc ?_ _)); exact BK431.out⟩, ⟨by repeat (first | (with_reducible first | exact HB.out | apply below_alloc | apply pw_below_drewN | apply below_drew1 | refine below_set ?_ GE428.out | refine below_set ?_ GE429.out | refine below_set ?_ GE431.out) | exact HB.out)⟩⟩
       case round =>
        clear H'
        try clear c1
        try clear c2
        try clear p2
        try clear c3
        try clear p3
        try clear q3
        try clear hx3
        try clear hf3
        try clear c4
        try clear c4b0
        try clear c4b1
        try clear c5
        try clear c5b0
        try clear c5b1
        try clear p6
        try clear c8
        try clear c12
        try clear c16
        try clear c16b0
        try clear c17
        try clear c18
        try clear c20
        try clear c20b0
        try clear c21
        try clear c22
        try clear c23
        try clear c24
        try clear c26
        try clear c27
        try clear c28
        try clear c30
        try clear c31
        try clear c31b0
        try clear c32
        try clear c32b0
        try clear p33
        try clear q33
        try clear hx33
        try clear hf33
        try clear c34
        try clear c35
        try clear c36
        try clear c38
        try clear c47
        try clear c48
        try clear c50
        try clear c51
        try clear hcz13_0
        try clear hcz13_1
        try clear hcz13_2
        try clear hcz19_0
        try clear hcz19_1
        try clear hcz19_2
        try clear hcz24_0
        try clear hcz24_1
        try clear hcz24_2
        try clear hcz28_0
        try clear hcz28_1
        try clear hcz28_2
        try clear hcz37_0
        try clear hcz37_1
        try clear hcz37_2
        try clear hcz39_0
        try clear hcz39_1
        try clear hcz39_2
        try clear hcz43_0
        try clear hcz43_1
        try clear hcz43_2
        try clear hcz46_0
        try clear hcz46_1
        try clear hcz46_2
        try clear hcz49_0
        try clear hcz49_1
        try clear hcz49_2
        try clear hcz52_0
        try clear hcz52_1
        try clear hcz52_2
        try clear hcz9_0
        try clear hcz9_1
        try clear hcz9_2
        try clear hfz13_0
        try clear hfz13_1
        try clear hfz13_2
        try clear hfz19_0
        try clear hfz19_1
        try clear hfz19_2
        try clear hfz24_0
        try clear hfz24_1
        try clear hfz24_2
        try clear hfz28_0
        try clear hfz28_1
        try clear hfz28_2
        try clear hfz37_0
        try clear hfz37_1
        try clear hfz37_2
        try clear hfz39_0
        try clear hfz39_1
        try clear hfz39_2
        try clear hfz43_0
        try clear hfz43_1
        try clear hfz43_2
        try clear hfz46_0
        try clear hfz46_1
        try clear hfz46_2
        try clear hfz49_0
        try clear hfz49_1
        try clear hfz49_2
        try clear hfz52_0
        try clear hfz52_1
        try clear hfz52_2
        try clear hfz9_0
        try clear hfz9_1
        try clear hfz9_2
        try clear hx33_0
        try clear p2
        try clear p33
        try clear q33
        obtain ⟨x9_2, x432001_2, x432002_2, u432001, u432002, rfl, HA, HK2, HO_5, HO_432000, HO_432001, HO_432002, BK428, BK429, BK431, HB⟩ := hrel
        cases gk with
        | zero => exact absurd HA.out (by simp [recoupref21_Of.l2])
        | succ k2 =>
         have H := HA.out
         clear HA
         simp only [recoupref21_Of.l2] at H
         by_cases c53 : x9_2 < a0_0
         ·rw [if_pos c53] at H
          have c53b0 : decide (x9_2 < a0_0) = true := decide_eq_true c53
          clear c53
          have H' := Aside0.mk H
          clear H
          have hnb54 := NB428_429.out
          have hnc54 := NB429_428.out
          have hnb55 := NB428_431.out
          have hnc55 := NB431_428.out
          have hcz56_0 : wr.cell? ⟨gb428, 0, none⟩ = some (.int .i64 a0_0) := (blk_cell BK428.out 0).trans rfl
          have hcz56_1 : wr.cell? ⟨gb428, 1, none⟩ = some (.int .i64 a0_1) := (blk_cell BK428.out 1).trans rfl
          have hcz56_2 : wr.cell? ⟨gb428, 2, none⟩ = some (.slice A0_2 l0_2.length c0_2) := (blk_cell BK428.out 2).trans rfl
          have hfz56_0 := blk_frozen BK428.out 0
          have hfz56_1 := blk_frozen BK428.out 1
          have hfz56_2 := blk_frozen BK428.out 2
          go_wp2
          go_loopg [10, 11] k2 (fun kq v10 v11 w' => ∃ (x10_3 : List (S64)) (x11_3 : Int), v11 = .int .i64 x11_3 ∧ Aside0 (recoupref21_Of.l3 kq x5_1 x9_2 x10_3 x11_3 a0_0 a0_1 l0_2 x432000_1 x432001_2 x432002_2 = some (r1, r2, r3, r4)) ∧ Aside0 (kq ≤ k2) ∧ Aside0 (Kd.R (Kd.int .i64) 3 w' w.heap.size (fun k_ => some k_ ≠ (u432000 : Value).ownBlock ∧ some k_ ≠ (u432002 : Value).ownBlock) v433 x5_1) ∧ Aside0 (Kd.R k64 64 w' w.heap.size (fun _ => True) v10 x10_3) ∧ Aside0 (Kd.R (Kd.int .i64) 3 w' w.heap.size (fun k_ => some k_ ≠ (v433 : Value).ownBlock ∧ some k_ ≠ (u432002 : Value).ownBlock) u432000 x432000_1) ∧ Aside0 (Kd.S (Kd.slice 64 k64) 62 w' w.heap.size (fun k_ => some k_ ≠ (v10 : Value).ownBlock) u432001 x432001_2) ∧ Aside0 (Kd.R (Kd.int .i64) 3 w' w.heap.size (fun k_ => some k_ ≠ (v433 : Value).ownBlock ∧ some k_ ≠ (u432000 : Value).ownBlock) u432002 x432002_2) ∧ Aside0 (w'.heap[gb428]? = some (.cells #[.int .i64 a0_0, .int .i64 a0_1, (.slice A0_2 l0_2.length c0_2)] 47 (0, 0))) ∧ Aside0 (w'.heap[gb429]? = some (.cells #[(.slice none 0 0), (.slice none 0 0), (.slice none 0 0)] 25 (0, 0))) ∧ Aside0 (w'.heap[gb431]? = some (.cells #[u432000, u432001, u432002] 25 (0, 0))) ∧ Aside0 (Below w.heap.size w w'))
          case atStart => exact ⟨(([] : List (S64))), (0), (by first | rfl | (simp; done) | (simp [*]; done)), H', ⟨Nat.le_refl _⟩, ⟨by (with_reducible repeat (first | apply Kd.R_alloc | apply Kd.R_drewN | apply Kd.R_drew)); exact HO_5.out⟩, ⟨by first | exact Kd.R_nil _ _ _ _ _ | exact Kd.N_nil _ _ _ _ _ | exact Kd.V_nil _ _ _ _ _ | exact Kd.Q_nil _ _ _ _ _ | exact Kd.S_nil _ _ _ _ _⟩, ⟨by (with_reducible repeat (first | apply Kd.R_alloc | apply Kd.R_drewN | apply Kd.R_drew)); exact HO_432000.out⟩, ⟨by (with_reducible repeat (first | apply Kd.S_alloc | apply Kd.S_drewN | apply Kd.S_drew)); exact Kd.S_mono HO_432001.out (fun _ hk => (by simp [Value.ownBlock]))⟩, ⟨by (with_reducible repeat (first | apply Kd.R_alloc | apply Kd.R_drewN | apply Kd.R_drew)); exact HO_432002.out⟩, ⟨by (with_reducible repeat (first | refine blk_drewN ?_ _ | refine blk_drew ?_ | refine blk_alloc ?_ _)); exact BK428.out⟩, ⟨by (with_reducible repeat (first | refine blk_drewN ?_ _ | refine blk_drew ?_ | refine blk_alloc ?_ _)); exact BK429.out⟩, ⟨by (with_reducible repeat (first | refine blk_drewN ?_ _ | refine blk_drew ?_ | refine blk_alloc ?_ _)); exact BK431.out⟩, ⟨by repeat (first | (with_reducible first | exact HB.out | apply below_alloc | apply pw_below_drewN | apply below_drew1 | refine below_set ?_ GE428.out | refine below_set ?_ GE429.out | refine below_set ?_ GE431.out) | exact HB.out)⟩⟩
          case round =>
           clear H'
           try clear c1
           try clear c2
           try clear p2
           try clear c3
           try clear p3
           try clear q3
           try clear hx3
           try clear hf3
           try clear c4
           try clear c4b0
           try clear c4b1
           try clear c5
           try clear c5b0
           try clear c5b1
           try clear p6
           try clear c8
           try clear c12
           try clear c16
           try clear c16b0
           try clear c17
           try clear c18
           try clear c20
           try clear c20b0
           try clear c21
           try clear c22
           try clear c23
           try clear c24
           try clear c26
           try clear c27
           try clear c28
           try clear c30
           try clear c31
           try clear c31b0
           try clear c32
           try clear c32b0
           try clear p33
           try clear q33
           try clear hx33
           try clear hf33
           try clear c34
           try clear c35
           try clear c36
           try clear c38
           try clear c47
           try clear c48
           try clear c50
           try clear c51
           try clear c53
           try clear c53b0
           try clear c54
           try clear c55
           try clear hcz13_0
           try clear hcz13_1
           try clear hcz13_2
           try clear hcz19_0
           try clear hcz19_1
           try clear hcz19_2
           try clear hcz24_0
           try clear hcz24_1
           try clear hcz24_2
           try clear hcz28_0
           try clear hcz28_1
           try clear hcz28_2
           try clear hcz37_0
           try clear hcz37_1
           try clear hcz37_2
           try clear hcz39_0
           try clear hcz39_1
           try clear hcz39_2
           try clear hcz43_0
           try clear hcz43_1
           try clear hcz43_2
           try clear hcz46_0
           try clear hcz46_1
           try clear hcz46_2
           try clear hcz49_0
           try clear hcz49_1
           try clear hcz49_2
           try clear hcz52_0
           try clear hcz52_1
           try clear hcz52_2
           try clear hcz56_0
           try clear hcz56_1
           try clear hcz56_2
           try clear hcz9_0
           try clear hcz9_1
           try clear hcz9_2
           try clear hfz13_0
           try clear hfz13_1
           try clear hfz13_2
           try clear hfz19_0
           try clear hfz19_1
           try clear hfz19_2
           try clear hfz24_0
           try clear hfz24_1
           try clear hfz24_2
           try clear hfz28_0
           try clear hfz28_1
           try clear hfz28_2
           try clear hfz37_0
           try clear hfz37_1
           try clear hfz37_2
           try clear hfz39_0
           try clear hfz39_1
           try clear hfz39_2
           try clear hfz43_0
           try clear hfz43_1
           try clear hfz43_2
           try clear hfz46_0
           try clear hfz46_1
           try clear hfz46_2
           try clear hfz49_0
           try clear hfz49_1
           try clear hfz49_2
           try clear hfz52_0
           try clear hfz52_1
           try clear hfz52_2
           try clear hfz56_0
           try clear hfz56_1
           try clear hfz56_2
           try clear hfz9_0
           try clear hfz9_1
           try clear hfz9_2
           try clear hx33_0
           try clear p2
           try clear p3
           try clear p33
           try clear p6
           try clear q3
           try clear q33
           obtain ⟨x10_3, x11_3, rfl, HA, HK3, HO_5, HO_10, HO_432000, HO_432001, HO_432002, BK428, BK429, BK431, HB⟩ := hrel
           cases gk with
           | zero => exact absurd HA.out (by simp [recoupref21_Of.l3])
           | succ k3 =>
            have H := HA.out
            clear HA
            simp only [recoupref21_Of.l3] at H
            by_cases c57 : x11_3 < a0_1
            ·rw [if_pos c57] at H
             have c57b0 : decide (x11_3 < a0_1) = true := decide_eq_true c57
             clear c57
             replace H := Option.bind_eq_some_iff.mp H
             obtain ⟨t440, A580, H⟩ := H
             replace H : (if t440 = 0 then (recoupref21_Of.l3 k3 x5_1 x9_2 x10_3 (wrap64 (x11_3 + 1)) a0_0 a0_1 l0_2 x432000_1 x432001_2 x432002_2) else (if 0 ≤ x11_3 then (if x11_3 < (x5_1.length : Int) then (if x10_3.length < 8796093022208 then (recoupref21_Of.l3 k3 x5_1 x9_2 (x10_3 ++ [(⟨rd x5_1 x11_3, t440⟩ : S64)]) (wrap64 (x11_3 + 1)) a0_0 a0_1 l0_2 x432000_1 x432001_2 x432002_2) else (none)) else (none)) else (none))) = some (r1, r2, r3, r4) := H
             have A58 := Aside0.mk A580
             clear A580
             by_cases c59 : t440 = 0
             ·rw [if_pos c59] at H
              have c59b0 : (t440 == 0) = true := beq_iff_eq.mpr c59
              have c59b1 : (t440 != 0) = false := bne_eq_false_iff_eq.mpr c59
              clear c59
              have H' := Aside0.mk H
              clear H
              have hnb60 := NB428_429.out
              have hnc60 := NB429_428.out
              have hnb61 := NB428_431.out
              have hnc61 := NB431_428.out
              have hcz62_0 : wr.cell? ⟨gb428, 0, none⟩ = some (.int .i64 a0_0) := (blk_cell BK428.out 0).trans rfl
              have hcz62_1 : wr.cell? ⟨gb428, 1, none⟩ = some (.int .i64 a0_1) := (blk_cell BK428.out 1).trans rfl
              have hcz62_2 : wr.cell? ⟨gb428, 2, none⟩ = some (.slice A0_2 l0_2.length c0_2) := (blk_cell BK428.out 2).trans rfl
              have hfz62_0 := blk_frozen BK428.out 0
              have hfz62_1 := blk_frozen BK428.out 1
              have hfz62_2 := blk_frozen BK428.out 2
              go_wp2_with (first | ((with_reducible refine gate_callee (f := 47) rfl ?_); refine goesL_ (some 68) rfl rfl Try.func47 (by kernel_rfl) rfl #[.agg #[.int .i64 a0_0, .int .i64 a0_1, .slice A0_2 l0_2.length c0_2], .int .i64 x9_2, .int .i64 x11_3] rfl (by (try simp only [List.map_toArray, List.map_cons, List.map_nil]); first | done | rfl | (simp only [List.length_drop, List.length_take]; rfl)) ?_; (with_reducible refine (recoupref03_At.calls a0_0 a0_1 _ _ l0_2 x9_2 x11_3 t440 _ ?side1 ?side2 A58.out).mono ?_); (case side1 => repeat (first | exact (Kd.C_below HR0_2.out HB.out) | (with_reducible refine Kd.C_alloc ?_ _) | (with_reducible refine Kd.C_drewN ?_ _) | (with_reducible refine Kd.C_drew ?_))); (case side2 => exact HC0_2.out); rintro e w63 ⟨rfl, hb⟩; refine ⟨_, rfl, ?_⟩; have n0_ := Aside0.mk (Kd.R_below (by (with_reducible repeat (first | apply Kd.R_alloc | apply Kd.R_drewN | apply Kd.R_drew)); exact HO_5.out) hb); have n1_ := Aside0.mk (Kd.R_below (by (with_reducible repeat (first | apply Kd.R_alloc | apply Kd.R_drewN | apply Kd.R_drew)); exact HO_10.out) hb); have n2_ := Aside0.mk (Kd.R_below (by (with_reducible repeat (first | apply Kd.R_alloc | apply Kd.R_drewN | apply Kd.R_drew)); exact HO_432000.out) hb); have n3_ := Aside0.mk (Kd.S_below (by (with_reducible repeat (first | apply Kd.S_alloc | apply Kd.S_drewN | apply Kd.S_drew)); exact HO_432001.out) hb); have n4_ := Aside0.mk (Kd.R_below (by (with_reducible repeat (first | apply Kd.R_alloc | apply Kd.R_drewN | apply Kd.R_drew)); exact HO_432002.out) hb); have n5_ := Aside0.mk (blk_below (g := gb428) (o := .cells #[.int .i64 a0_0, .int .i64 a0_1, .slice A0_2 l0_2.length c0_2] 47 (0, 0)) (by (with_reducible repeat (first | refine blk_drewN ?_ _ | refine blk_drew ?_ | refine blk_alloc ?_ _)); exact BK428.out) hb); have n6_ := Aside0.mk (blk_below (g := gb429) (o := .cells #[.slice none 0 0, .slice none 0 0, .slice none 0 0] 25 (0, 0)) (by (with_reducible repeat (first | refine blk_drewN ?_ _ | refine blk_drew ?_ | refine blk_alloc ?_ _)); exact BK429.out) hb); have n7_ := Aside0.mk (blk_below (g := gb431) (o := .cells #[u432000, u432001, u432002] 25 (0, 0)) (by (with_reducible repeat (first | refine blk_drewN ?_ _ | refine blk_drew ?_ | refine blk_alloc ?_ _)); exact BK431.out) hb); have n8_ := Aside0.mk (below_step (by repeat (first | (with_reducible first | exact HB.out | apply below_alloc | apply pw_below_drewN | apply below_drew1 | refine below_set ?_ GE428.out | refine below_set ?_ GE429.out | refine below_set ?_ GE431.out) | exact HB.out)) hb); clear HO_5; clear HO_10; clear HO_432000; clear HO_432001; clear HO_432002; clear BK428; clear BK429; clear BK431; clear HB; have HO_5 := n0_; have HO_10 := n1_; have HO_432000 := n2_; have HO_432001 := n3_; have HO_432002 := n4_; have BK428 := n5_; have BK429 := n6_; have BK431 := n7_; have HB := n8_; clear n0_ n1_ n2_ n3_ n4_ n5_ n6_ n7_ n8_; (try clear hb); (try clear hb2); (try clear hk); (try clear hi)))
              go_roundg k3
              case measure => have := HK1.out; have := HK2.out; have := HK3.out; omega
              case rel => exact ⟨(x10_3), (wrap64 (x11_3 + 1)), (by first | rfl | (simp; done) | (simp [*]; done)), H', ⟨by have := HK1.out; have := HK2.out; have := HK3.out; omega⟩, ⟨by (with_reducible repeat (first | apply Kd.R_alloc | apply Kd.R_drewN | apply Kd.R_drew)); exact HO_5.out⟩, ⟨by (with_reducible repeat (first | apply Kd.R_alloc | apply Kd.R_drewN | apply Kd.R_drew)); exact HO_10.out⟩, ⟨by (with_reducible repeat (first | apply Kd.R_alloc | apply Kd.R_drewN | apply Kd.R_drew)); exact HO_432000.out⟩, ⟨by (with_reducible repeat (first | apply Kd.S_alloc | apply Kd.S_drewN | apply Kd.S_drew)); exact HO_432001.out⟩, ⟨by (with_reducible repeat (first | apply Kd.R_alloc | apply Kd.R_drewN | apply Kd.R_drew)); exact HO_432002.out⟩, ⟨by (with_reducible repeat (first | refine blk_drewN ?_ _ | refine blk_drew ?_ | refine blk_alloc ?_ _)); exact BK428.out⟩, ⟨by (with_reducible repeat (first | refine blk_drewN ?_ _ | refine blk_drew ?_ | refine blk_alloc ?_ _)); exact BK429.out⟩, ⟨by (with_reducible repeat (first | refine blk_drewN ?_ _ | refine blk_drew ?_ | refine blk_alloc ?_ _)); exact BK431.out⟩, ⟨by repeat (first | (with_reducible first | exact HB.out | apply below_alloc | apply pw_below_drewN | apply below_drew1 | refine below_set ?_ GE428.out | refine below_set ?_ GE429.out | refine below_set ?_ GE431.out) | exact HB.out)⟩⟩
             ·rw [if_neg c59] at H
              have c59b0 : (t440 == 0) = false := beq_eq_false_iff_ne.mpr c59
              have c59b1 : (t440 != 0) = true := bne_iff_ne.mpr c59
              by_cases c64 : 0 ≤ x11_3
              ·rw [if_pos c64] at H
               have c64b0 : decide (0 ≤ x11_3) = true := decide_eq_true c64
               clear c64
               by_cases c65 : x11_3 < (x5_1.length : Int)
               ·rw [if_pos c65] at H
                have c65b0 : decide (x11_3 < (x5_1.length : Int)) = true := decide_eq_true c65
                clear c65
                by_cases c66 : x10_3.length < 8796093022208
                ·rw [if_pos c66] at H
                 have LMc66 := Aside0.mk c66
                 clear c66
                 obtain ⟨y442, hy442⟩ : ∃ y_ : List (S64), y_ = (x10_3 ++ [(⟨rd x5_1 x11_3, t440⟩ : S64)]) := ⟨_, rfl⟩
                 replace H : (recoupref21_Of.l3 k3 x5_1 x9_2 y442 (wrap64 (x11_3 + 1)) a0_0 a0_1 l0_2 x432000_1 x432001_2 x432002_2) = some (r1, r2, r3, r4) := by first | (rw [hy442]; with_reducible exact H) | (have H2_ := (Option.bind_some _ _).symm.trans H; rw [hy442]; with_reducible exact H2_) | (have H2_ := (Option.bind_some _ _).symm.trans H; with_reducible exact H2_) | with_reducible exact H | (rw [hy442]; exact H) | exact H
                 have Ny442 := Aside0.mk hy442
                 clear hy442
                 have H' := Aside0.mk H
                 clear H
                 have hnb67 := NB428_429.out
                 have hnc67 := NB429_428.out
                 have hnb68 := NB428_431.out
                 have hnc68 := NB431_428.out
                 have hcz69_0 : wr.cell? ⟨gb428, 0, none⟩ = some (.int .i64 a0_0) := (blk_cell BK428.out 0).trans rfl
                 have hcz69_1 : wr.cell? ⟨gb428, 1, none⟩ = some (.int .i64 a0_1) := (blk_cell BK428.out 1).trans rfl
                 have hcz69_2 : wr.cell? ⟨gb428, 2, none⟩ = some (.slice A0_2 l0_2.length c0_2) := (blk_cell BK428.out 2).trans rfl
                 have hfz69_0 := blk_frozen BK428.out 0
                 have hfz69_1 := blk_frozen BK428.out 1
                 have hfz69_2 := blk_frozen BK428.out 2
                 go_wp2_with (first | ((with_reducible refine gate_callee (f := 47) rfl ?_); refine goesL_ (some 68) rfl rfl Try.func47 (by kernel_rfl) rfl #[.agg #[.int .i64 a0_0, .int .i64 a0_1, .slice A0_2 l0_2.length c0_2], .int .i64 x9_2, .int .i64 x11_3] rfl (by (try simp only [List.map_toArray, List.map_cons, List.map_nil]); first | done | rfl | (simp only [List.length_drop, List.length_take]; rfl)) ?_; (with_reducible refine (recoupref03_At.calls a0_0 a0_1 _ _ l0_2 x9_2 x11_3 t440 _ ?side1 ?side2 A58.out).mono ?_); (case side1 => repeat (first | exact (Kd.C_below HR0_2.out HB.out) | (with_reducible refine Kd.C_alloc ?_ _) | (with_reducible refine Kd.C_drewN ?_ _) | (with_reducible refine Kd.C_drew ?_))); (case side2 => exact HC0_2.out); rintro e w70 ⟨rfl, hb⟩; refine ⟨_, rfl, ?_⟩; have n0_ := Aside0.mk (Kd.R_below (by (with_reducible repeat (first | apply Kd.R_alloc | apply Kd.R_drewN | apply Kd.R_drew)); exact HO_5.out) hb); have n1_ := Aside0.mk (Kd.R_below (by (with_reducible repeat (first | apply Kd.R_alloc | apply Kd.R_drewN | apply Kd.R_drew)); exact HO_10.out) hb); have n2_ := Aside0.mk (Kd.R_below (by (with_reducible repeat (first | apply Kd.R_alloc | apply Kd.R_drewN | apply Kd.R_drew)); exact HO_432000.out) hb); have n3_ := Aside0.mk (Kd.S_below (by (with_reducible repeat (first | apply Kd.S_alloc | apply Kd.S_drewN | apply Kd.S_drew)); exact HO_432001.out) hb); have n4_ := Aside0.mk (Kd.R_below (by (with_reducible repeat (first | apply Kd.R_alloc | apply Kd.R_drewN | apply Kd.R_drew)); exact HO_432002.out) hb); have n5_ := Aside0.mk (blk_below (g := gb428) (o := .cells #[.int .i64 a0_0, .int .i64 a0_1, .slice A0_2 l0_2.length c0_2] 47 (0, 0)) (by (with_reducible repeat (first | refine blk_drewN ?_ _ | refine blk_drew ?_ | refine blk_alloc ?_ _)); exact BK428.out) hb); have n6_ := Aside0.mk (blk_below (g := gb429) (o := .cells #[.slice none 0 0, .slice none 0 0, .slice none 0 0] 25 (0, 0)) (by (with_reducible repeat (first | refine blk_drewN ?_ _ | refine blk_drew ?_ | refine blk_alloc ?_ _)); exact BK429.out) hb); have n7_ := Aside0.mk (blk_below (g := gb431) (o := .cells #[u432000, u432001, u432002] 25 (0, 0)) (by (with_reducible repeat (first | refine blk_drewN ?_ _ | refine blk_drew ?_ | refine blk_alloc ?_ _)); exact BK431.out) hb); have n8_ := Aside0.mk (below_step (by repeat (first | (with_reducible first | exact HB.out | apply below_alloc | apply pw_below_drewN | apply below_drew1 | refine below_set ?_ GE428.out | refine below_set ?_ GE429.out | refine below_set ?_ GE431.out) | exact HB.out)) hb); clear HO_5; clear HO_10; clear HO_432000; clear HO_432001; clear HO_432002; clear BK428; clear BK429; clear BK431; clear HB; have HO_5 := n0_; have HO_10 := n1_; have HO_432000 := n2_; have HO_432001 := n3_; have HO_432002 := n4_; have BK428 := n5_; have BK429 := n6_; have BK431 := n7_; have HB := n8_; clear n0_ n1_ n2_ n3_ n4_ n5_ n6_ n7_ n8_; (try clear hb); (try clear hb2); (try clear hk); (try clear hi); obtain ⟨Ao71, co71, eo71⟩ := Kd.R_slice HO_5.out; subst eo71; have p441 : 0 ≤ (x11_3 : Int) := of_decide_eq_true (by first | (with_reducible assumption) | assumption); have q441 : x11_3 < (x5_1.length : Int) := of_decide_eq_true (by first | (with_reducible assumption) | assumption); obtain ⟨ad441, e441, hx441_0⟩ := Kd.at_int (Kd.R_reads' HO_5.out).2.2 x11_3 p441 q441; cases e441; replace p441 := eq_true p441; replace q441 := eq_true q441) | ((with_reducible refine gate_builtin (b := .append) (xs := #[.tmp 71, .tmp 78]) rfl ?_); at_builtin; refine Kd.R_append k64 (w0 := w) w.heap.size rfl (.tmp 71) (.tmp 78) 62 64 (.agg #[(.int .i64 0), (.int .u8 0)]) 16 rfl Try.underlying62 info64 rfl (by decide) (by omega) u10 x10_3 (⟨rd x5_1 x11_3, t440⟩ : S64) [.int .i64 (rd x5_1 x11_3), .int .u8 t440] (fun _ => True) (fun _ => False) rfl rfl ?aP (fun _ hk => hk.elim) ?aF ?aO ?aB ?aS ?aL ?_; (case aP => exact k64_mkM _ _ _ (⟨rd x5_1 x11_3, t440⟩ : S64)); (case aB => exact (by repeat (first | (with_reducible first | exact HB.out | apply below_alloc | apply pw_below_drewN | apply below_drew1 | refine below_set ?_ GE428.out | refine below_set ?_ GE429.out | refine below_set ?_ GE431.out) | exact HB.out))); (case aF => exact (fun _ _ => trivial)); (case aO => exact (by (with_reducible repeat (first | apply Kd.R_alloc | apply Kd.R_drewN | apply Kd.R_drew)); exact HO_10.out)); (case aS => exact (below_size (by repeat (first | (with_reducible first | exact HB.out | apply below_alloc | apply pw_below_drewN | apply below_drew1 | refine below_set ?_ GE428.out | refine below_set ?_ GE429.out | refine below_set ?_ GE431.out) | exact HB.out)))); (case aL => have := LMc66.out; omega); intro v443 w72 ho hb hg hat; rw [← Ny442.out] at ho; have n0_ := Aside0.mk (Kd.R_over' (by (with_reducible repeat (first | apply Kd.R_alloc | apply Kd.R_drewN | apply Kd.R_drew)); exact HO_5.out) (Kd.R_typed (by (with_reducible repeat (first | apply Kd.R_alloc | apply Kd.R_drewN | apply Kd.R_drew)); exact HO_10.out)) (by decide) hg); have n1_ := Aside0.mk (Kd.R_over' (by (with_reducible repeat (first | apply Kd.R_alloc | apply Kd.R_drewN | apply Kd.R_drew)); exact HO_432000.out) (Kd.R_typed (by (with_reducible repeat (first | apply Kd.R_alloc | apply Kd.R_drewN | apply Kd.R_drew)); exact HO_10.out)) (by decide) hg); have n2_ := Aside0.mk (Kd.S_after (ok := (fun _ => True)) (by (with_reducible repeat (first | apply Kd.S_alloc | apply Kd.S_drewN | apply Kd.S_drew)); exact Kd.S_mono HO_432001.out (fun _ hk => ⟨trivial, hk⟩)) hg hat); have n3_ := Aside0.mk (Kd.R_over' (by (with_reducible repeat (first | apply Kd.R_alloc | apply Kd.R_drewN | apply Kd.R_drew)); exact HO_432002.out) (Kd.R_typed (by (with_reducible repeat (first | apply Kd.R_alloc | apply Kd.R_drewN | apply Kd.R_drew)); exact HO_10.out)) (by decide) hg); have n4_ := Aside0.mk (blk_grown (g := gb428) (o := .cells #[.int .i64 a0_0, .int .i64 a0_1, .slice A0_2 l0_2.length c0_2] 47 (0, 0)) (by (with_reducible repeat (first | refine blk_drewN ?_ _ | refine blk_drew ?_ | refine blk_alloc ?_ _)); exact BK428.out) hg (Kd.R_ne HO_10.out BK428.out (by decide))); have n5_ := Aside0.mk (blk_grown (g := gb429) (o := .cells #[.slice none 0 0, .slice none 0 0, .slice none 0 0] 25 (0, 0)) (by (with_reducible repeat (first | refine blk_drewN ?_ _ | refine blk_drew ?_ | refine blk_alloc ?_ _)); exact BK429.out) hg (Kd.R_ne HO_10.out BK429.out (by decide))); have n6_ := Aside0.mk (blk_grown (g := gb431) (o := .cells #[u432000, u432001, u432002] 25 (0, 0)) (by (with_reducible repeat (first | refine blk_drewN ?_ _ | refine blk_drew ?_ | refine blk_alloc ?_ _)); exact BK431.out) hg (Kd.R_ne HO_10.out BK431.out (by decide))); have n7_ := Aside0.mk (hb); have n8_ := Aside0.mk (ho); clear HO_5; clear HO_432000; clear HO_432001; clear HO_432002; clear BK428; clear BK429; clear BK431; clear HB; clear HO_10; have HO_5 := n0_; have HO_432000 := n1_; have HO_432001 := n2_; have HO_432002 := n3_; have BK428 := n4_; have BK429 := n5_; have BK431 := n6_; have HB := n7_; have HO444 := n8_; clear n0_ n1_ n2_ n3_ n4_ n5_ n6_ n7_ n8_; clear ho hb hg hat))
                 go_roundg k3
                 case measure => have := HK1.out; have := HK2.out; have := HK3.out; omega
                 case rel => exact ⟨(y442), (wrap64 (x11_3 + 1)), (by first | rfl | (simp; done) | (simp [*]; done)), H', ⟨by have := HK1.out; have := HK2.out; have := HK3.out; omega⟩, ⟨by (with_reducible repeat (first | apply Kd.R_alloc | apply Kd.R_drewN | apply Kd.R_drew)); exact HO_5.out⟩, ⟨by (with_reducible repeat (first | apply Kd.R_alloc | apply Kd.R_drewN | apply Kd.R_drew)); exact HO444.out⟩, ⟨by (with_reducible repeat (first | apply Kd.R_alloc | apply Kd.R_drewN | apply Kd.R_drew)); exact HO_432000.out⟩, ⟨by (with_reducible repeat (first | apply Kd.S_alloc | apply Kd.S_drewN | apply Kd.S_drew)); exact Kd.S_mono HO_432001.out (fun _ hk => hk.2)⟩, ⟨by (with_reducible repeat (first | apply Kd.R_alloc | apply Kd.R_drewN | apply Kd.R_drew)); exact HO_432002.out⟩, ⟨by (with_reducible repeat (first | refine blk_drewN ?_ _ | refine blk_drew ?_ | refine blk_alloc ?_ _)); exact BK428.out⟩, ⟨by (with_reducible repeat (first | refine blk_drewN ?_ _ | refine blk_drew ?_ | refine blk_alloc ?_ _)); exact BK429.out⟩, ⟨by (with_reducible repeat (first | refine blk_drewN ?_ _ | refine blk_drew ?_ | refine blk_alloc ?_ _)); exact BK431.out⟩, ⟨by repeat (first | (with_reducible first | exact HB.out | apply below_alloc | apply pw_below_drewN | apply below_drew1 | refine below_set ?_ GE428.out | refine below_set ?_ GE429.out | refine below_set ?_ GE431.out) | exact HB.out)⟩⟩
                ·rw [if_neg c66] at H
                 exact absurd H (by simp)
               ·rw [if_neg c65] at H
                exact absurd H (by simp)
              ·rw [if_neg c64] at H
               exact absurd H (by simp)
            ·rw [if_neg c57] at H
             have c57b0 : decide (x11_3 < a0_1) = false := decide_eq_false c57
             clear c57
             by_cases c73 : x432002_2.length < 17592186044416
             ·rw [if_pos c73] at H
              have LMc73 := Aside0.mk c73
              clear c73
              obtain ⟨y445, hy445⟩ : ∃ y_ : List Int, y_ = (x432002_2 ++ [wrap64 ((x432000_1.length : Int) + x9_2)]) := ⟨_, rfl⟩
              replace H : (if x432001_2.length < 5864062014805 then (recoupref21_Of.l2 k3 x5_1 (wrap64 (x9_2 + 1)) a0_0 a0_1 l0_2 x432000_1 (x432001_2 ++ [x10_3]) y445) else (none)) = some (r1, r2, r3, r4) := by first | (rw [hy445]; with_reducible exact H) | (have H2_ := (Option.bind_some _ _).symm.trans H; rw [hy445]; with_reducible exact H2_) | (have H2_ := (Option.bind_some _ _).symm.trans H; with_reducible exact H2_) | with_reducible exact H | (rw [hy445]; exact H) | exact H
              have Ny445 := Aside0.mk hy445
              clear hy445
              by_cases c74 : x432001_2.length < 5864062014805
              ·rw [if_pos c74] at H
               have LMc74 := Aside0.mk c74
               clear c74
               obtain ⟨y448, hy448⟩ : ∃ y_ : List (List (S64)), y_ = (x432001_2 ++ [x10_3]) := ⟨_, rfl⟩
               replace H : (recoupref21_Of.l2 k3 x5_1 (wrap64 (x9_2 + 1)) a0_0 a0_1 l0_2 x432000_1 y448 y445) = some (r1, r2, r3, r4) := by first | (rw [hy448]; with_reducible exact H) | (have H2_ := (Option.bind_some _ _).symm.trans H; rw [hy448]; with_reducible exact H2_) | (have H2_ := (Option.bind_some _ _).symm.trans H; with_reducible exact H2_) | with_reducible exact H | (rw [hy448]; exact H) | exact H
               have Ny448 := Aside0.mk hy448
               clear hy448
               have H' := Aside0.mk H
               clear H
               have hnb75 := NB428_429.out
               have hnc75 := NB429_428.out
               have hnb76 := NB428_431.out
               have hnc76 := NB431_428.out
               have hcz77_0 : wr.cell? ⟨gb428, 0, none⟩ = some (.int .i64 a0_0) := (blk_cell BK428.out 0).trans rfl
               have hcz77_1 : wr.cell? ⟨gb428, 1, none⟩ = some (.int .i64 a0_1) := (blk_cell BK428.out 1).trans rfl
               have hcz77_2 : wr.cell? ⟨gb428, 2, none⟩ = some (.slice A0_2 l0_2.length c0_2) := (blk_cell BK428.out 2).trans rfl
               have hfz77_0 := blk_frozen BK428.out 0
               have hfz77_1 := blk_frozen BK428.out 1
               have hfz77_2 := blk_frozen BK428.out 2
               have hnb78 := NB431_429.out
               have hnc78 := NB429_431.out
               have hcz79_0 : wr.cell? ⟨gb431, 0, none⟩ = some (u432000) := (blk_cell BK431.out 0).trans rfl
               have hcz79_1 : wr.cell? ⟨gb431, 1, none⟩ = some (u432001) := (blk_cell BK431.out 1).trans rfl
               have hcz79_2 : wr.cell? ⟨gb431, 2, none⟩ = some (u432002) := (blk_cell BK431.out 2).trans rfl
               have hfz79_0 := blk_frozen BK431.out 0
               have hfz79_1 := blk_frozen BK431.out 1
               have hfz79_2 := blk_frozen BK431.out 2
               obtain ⟨Ao80, co80, eo80⟩ := Kd.R_slice HO_432000.out
               subst eo80
               go_wp2_with (first | ((with_reducible refine gate_builtin (b := .append) (xs := #[.tmp 81, .tmp 87]) rfl ?_); at_builtin; refine Kd.R_append (Kd.int .i64) (w0 := w) w.heap.size rfl (.tmp 81) (.tmp 87) 22 3 (.int .i64 0) 8 rfl Try.underlying22 info3 rfl (by decide) (by omega) u432002 x432002_2 (wrap64 ((x432000_1.length : Int) + x9_2)) [.int .i64 (wrap64 ((x432000_1.length : Int) + x9_2))] (fun k_ => some k_ ≠ (v433 : Value).ownBlock ∧ some k_ ≠ (.slice Ao80 x432000_1.length co80 : Value).ownBlock) (fun _ => False) rfl rfl ?aP (fun _ hk => hk.elim) ?aF ?aO ?aB ?aS ?aL ?_; (case aP => exact rfl); (case aB => exact (by repeat (first | (with_reducible first | exact HB.out | apply below_alloc | apply pw_below_drewN | apply below_drew1 | refine below_set ?_ GE428.out | refine below_set ?_ GE429.out | refine below_set ?_ GE431.out) | exact HB.out))); (case aF => exact (fun k_ hk => ⟨Kd.fresh' (Kd.R_lt (by (with_reducible repeat (first | apply Kd.R_alloc | apply Kd.R_drewN | apply Kd.R_drew)); exact HO_5.out)) k_ hk, Kd.fresh' (Kd.R_lt (by (with_reducible repeat (first | apply Kd.R_alloc | apply Kd.R_drewN | apply Kd.R_drew)); exact HO_432000.out)) k_ hk⟩)); (case aO => exact (by (with_reducible repeat (first | apply Kd.R_alloc | apply Kd.R_drewN | apply Kd.R_drew)); exact HO_432002.out)); (case aS => exact (below_size (by repeat (first | (with_reducible first | exact HB.out | apply below_alloc | apply pw_below_drewN | apply below_drew1 | refine below_set ?_ GE428.out | refine below_set ?_ GE429.out | refine below_set ?_ GE431.out) | exact HB.out)))); (case aL => have := LMc73.out; omega); intro v446 w81 ho hb hg hat; rw [← Ny445.out] at ho; have n0_ := Aside0.mk (Kd.R_after (ok := (fun k_ => some k_ ≠ (.slice Ao80 x432000_1.length co80 : Value).ownBlock)) (by (with_reducible repeat (first | apply Kd.R_alloc | apply Kd.R_drewN | apply Kd.R_drew)); exact HO_5.out) hg hat); have n1_ := Aside0.mk (Kd.R_over' (by (with_reducible repeat (first | apply Kd.R_alloc | apply Kd.R_drewN | apply Kd.R_drew)); exact HO_10.out) (Kd.R_typed (by (with_reducible repeat (first | apply Kd.R_alloc | apply Kd.R_drewN | apply Kd.R_drew)); exact HO_432002.out)) (by decide) hg); have n2_ := Aside0.mk (Kd.R_after (ok := (fun k_ => some k_ ≠ (v433 : Value).ownBlock)) (by (with_reducible repeat (first | apply Kd.R_alloc | apply Kd.R_drewN | apply Kd.R_drew)); exact HO_432000.out) hg hat); have n3_ := Aside0.mk (Kd.S_over' (by (with_reducible repeat (first | apply Kd.S_alloc | apply Kd.S_drewN | apply Kd.S_drew)); exact HO_432001.out) (Kd.R_typed (by (with_reducible repeat (first | apply Kd.R_alloc | apply Kd.R_drewN | apply Kd.R_drew)); exact HO_432002.out)) (by decide) hg); have n4_ := Aside0.mk (blk_grown (g := gb428) (o := .cells #[.int .i64 a0_0, .int .i64 a0_1, .slice A0_2 l0_2.length c0_2] 47 (0, 0)) (by (with_reducible repeat (first | refine blk_drewN ?_ _ | refine blk_drew ?_ | refine blk_alloc ?_ _)); exact BK428.out) hg (Kd.R_ne HO_432002.out BK428.out (by decide))); have n5_ := Aside0.mk (blk_grown (g := gb429) (o := .cells #[.slice none 0 0, .slice none 0 0, .slice none 0 0] 25 (0, 0)) (by (with_reducible repeat (first | refine blk_drewN ?_ _ | refine blk_drew ?_ | refine blk_alloc ?_ _)); exact BK429.out) hg (Kd.R_ne HO_432002.out BK429.out (by decide))); have n6_ := Aside0.mk (blk_grown (g := gb431) (o := .cells #[.slice Ao80 x432000_1.length co80, u432001, u432002] 25 (0, 0)) (by (with_reducible repeat (first | refine blk_drewN ?_ _ | refine blk_drew ?_ | refine blk_alloc ?_ _)); exact BK431.out) hg (Kd.R_ne HO_432002.out BK431.out (by decide))); have n7_ := Aside0.mk (hb); have n8_ := Aside0.mk (ho); clear HO_5; clear HO_10; clear HO_432000; clear HO_432001; clear BK428; clear BK429; clear BK431; clear HB; clear HO_432002; have HO_5 := n0_; have HO_10 := n1_; have HO_432000 := n2_; have HO_432001 := n3_; have BK428 := n4_; have BK429 := n5_; have BK431 := n6_; have HB := n7_; have HO447 := n8_; clear n0_ n1_ n2_ n3_ n4_ n5_ n6_ n7_ n8_; clear ho hb hg hat; obtain ⟨Ao82, co82, eo82⟩ := Kd.R_slice HO447.out; subst eo82; have hcz83_0 : w81.cell? ⟨gb431, 0, none⟩ = some (.slice Ao80 x432000_1.length co80) := (blk_cell BK431.out 0).trans rfl; have hcz83_1 : w81.cell? ⟨gb431, 1, none⟩ = some (u432001) := (blk_cell BK431.out 1).trans rfl; have hcz83_2 : w81.cell? ⟨gb431, 2, none⟩ = some (u432002) := (blk_cell BK431.out 2).trans rfl; have hfz83_0 := blk_frozen BK431.out 0; have hfz83_1 := blk_frozen BK431.out 1; have hfz83_2 := blk_frozen BK431.out 2) | ((with_reducible refine gate_store (t := 22) (p := 89) rfl ?_); refine store_event (t := 22) (p := 89) (v := ?vo_w84) (w1 := (w81.setCell ⟨gb431, 2, none⟩ (.slice Ao82 y445.length co82))) ?hg ?ho ?hn ?hr ?_; (case ho => rfl); (case hg => rfl); (case hn => rfl); (case hr => first | (go_simp; done) | (go_simp; rfl)); intro w84 hw; have n0_ : Aside0 (Kd.R (Kd.int .i64) 3 w84 w.heap.size (fun k_ => some k_ ≠ (.slice Ao80 x432000_1.length co80 : Value).ownBlock ∧ some k_ ≠ (.slice Ao82 y445.length co82 : Value).ownBlock) v433 x5_1) := ⟨(by rw [hw]; exact (by (with_reducible repeat (first | apply Kd.R_alloc | apply Kd.R_drewN | apply Kd.R_drew)); exact Kd.R_mono (Kd.R_far (p := ⟨gb431, 2, none⟩) (Kd.R_types HO_5.out BK431.out (by decide)) (fun _ hk => hk.2) (.slice Ao82 y445.length co82)) (fun _ hk => ⟨hk.1.1, hk.1.2⟩)))⟩; have n1_ : Aside0 (Kd.R k64 64 w84 w.heap.size (fun _ => True) u10 x10_3) := ⟨(by rw [hw]; exact (by (with_reducible repeat (first | apply Kd.R_alloc | apply Kd.R_drewN | apply Kd.R_drew)); exact Kd.R_mono (Kd.R_far (p := ⟨gb431, 2, none⟩) (Kd.R_types HO_10.out BK431.out (by decide)) (fun _ hk => hk.2) (.slice Ao82 y445.length co82)) (fun _ hk => trivial)))⟩; have n2_ : Aside0 (Kd.R (Kd.int .i64) 3 w84 w.heap.size (fun k_ => some k_ ≠ (v433 : Value).ownBlock ∧ some k_ ≠ (.slice Ao82 y445.length co82 : Value).ownBlock) (.slice Ao80 x432000_1.length co80) x432000_1) := ⟨(by rw [hw]; exact (by (with_reducible repeat (first | apply Kd.R_alloc | apply Kd.R_drewN | apply Kd.R_drew)); exact Kd.R_mono (Kd.R_far (p := ⟨gb431, 2, none⟩) (Kd.R_types HO_432000.out BK431.out (by decide)) (fun _ hk => hk.2) (.slice Ao82 y445.length co82)) (fun _ hk => ⟨hk.1.1, hk.1.2⟩)))⟩; have n3_ : Aside0 (Kd.S (Kd.slice 64 k64) 62 w84 w.heap.size (fun k_ => some k_ ≠ (u10 : Value).ownBlock) u432001 x432001_2) := ⟨(by rw [hw]; exact (by (with_reducible repeat (first | apply Kd.S_alloc | apply Kd.S_drewN | apply Kd.S_drew)); exact Kd.S_mono (Kd.S_far (p := ⟨gb431, 2, none⟩) (Kd.S_types HO_432001.out BK431.out (by decide)) (fun _ hk => hk.2) (.slice Ao82 y445.length co82)) (fun _ hk => hk.1)))⟩; have n4_ : Aside0 (Kd.R (Kd.int .i64) 3 w84 w.heap.size (fun k_ => some k_ ≠ (v433 : Value).ownBlock ∧ some k_ ≠ (.slice Ao80 x432000_1.length co80 : Value).ownBlock) (.slice Ao82 y445.length co82) y445) := ⟨(by rw [hw]; exact (by (with_reducible repeat (first | apply Kd.R_alloc | apply Kd.R_drewN | apply Kd.R_drew)); exact Kd.R_mono (Kd.R_far (p := ⟨gb431, 2, none⟩) (Kd.R_types HO447.out BK431.out (by decide)) (fun _ hk => hk.2) (.slice Ao82 y445.length co82)) (fun _ hk => ⟨hk.1.1, hk.1.2⟩)))⟩; have n5_ : Aside0 (w84.heap[gb428]? = some (.cells #[.int .i64 a0_0, .int .i64 a0_1, .slice A0_2 l0_2.length c0_2] 47 (0, 0))) := ⟨(by rw [hw]; exact (by (with_reducible repeat (first | refine blk_drewN ?_ _ | refine blk_drew ?_ | refine blk_alloc ?_ _)); refine blk_far ?_ NB428_431.out _; (with_reducible repeat (first | refine blk_drewN ?_ _ | refine blk_drew ?_ | refine blk_alloc ?_ _)); exact BK428.out))⟩; have n6_ : Aside0 (w84.heap[gb429]? = some (.cells #[.slice none 0 0, .slice none 0 0, .slice none 0 0] 25 (0, 0))) := ⟨(by rw [hw]; exact (by (with_reducible repeat (first | refine blk_drewN ?_ _ | refine blk_drew ?_ | refine blk_alloc ?_ _)); refine blk_far ?_ NB429_431.out _; (with_reducible repeat (first | refine blk_drewN ?_ _ | refine blk_drew ?_ | refine blk_alloc ?_ _)); exact BK429.out))⟩; have n7_ : Aside0 (w84.heap[gb431]? = some (.cells #[.slice Ao80 x432000_1.length co80, u432001, .slice Ao82 y445.length co82] 25 (0, 0))) := ⟨(by rw [hw]; exact (by (with_reducible repeat (first | refine blk_drewN ?_ _ | refine blk_drew ?_ | refine blk_alloc ?_ _)); refine blk_put (cs := #[.slice Ao80 x432000_1.length co80, u432001, u432002]) ?_ 2 _ rfl; (with_reducible repeat (first | refine blk_drewN ?_ _ | refine blk_drew ?_ | refine blk_alloc ?_ _)); exact BK431.out))⟩; have n8_ : Aside0 (Below w.heap.size w w84) := ⟨(by rw [hw]; exact (by repeat (first | (with_reducible first | exact HB.out | apply below_alloc | apply pw_below_drewN | apply below_drew1 | refine below_set ?_ GE428.out | refine below_set ?_ GE429.out | refine below_set ?_ GE431.out) | exact HB.out)))⟩; clear hw; clear HO_5; clear HO_10; clear HO_432000; clear HO_432001; clear HO447; clear BK428; clear BK429; clear BK431; clear HB; have HO_5 := n0_; have HO_10 := n1_; have HO_432000 := n2_; have HO_432001 := n3_; have HO447 := n4_; have BK428 := n5_; have BK429 := n6_; have BK431 := n7_; have HB := n8_; clear n0_ n1_ n2_ n3_ n4_ n5_ n6_ n7_ n8_; have hcz85_0 : w84.cell? ⟨gb431, 0, none⟩ = some (.slice Ao80 x432000_1.length co80) := (blk_cell BK431.out 0).trans rfl; have hcz85_1 : w84.cell? ⟨gb431, 1, none⟩ = some (u432001) := (blk_cell BK431.out 1).trans rfl; have hcz85_2 : w84.cell? ⟨gb431, 2, none⟩ = some (.slice Ao82 y445.length co82) := (blk_cell BK431.out 2).trans rfl; have hfz85_0 := blk_frozen BK431.out 0; have hfz85_1 := blk_frozen BK431.out 1; have hfz85_2 := blk_frozen BK431.out 2; obtain ⟨Ao87, co87, eo87⟩ := Kd.R_slice HO_10.out; subst eo87) | ((with_reducible refine gate_builtin (b := .append) (xs := #[.tmp 91, .tmp 93]) rfl ?_); at_builtin; refine Kd.S_append (Kd.slice 64 k64) (w0 := w) w.heap.size rfl (.tmp 91) (.tmp 93) 23 62 (.slice none 0 0) 24 rfl Try.underlying23 info62 rfl (by decide) (by omega) u432001 x432001_2 x10_3 [.slice Ao87 x10_3.length co87] (fun _ => True) (fun k_ => some k_ = (.slice Ao87 x10_3.length co87 : Value).ownBlock) rfl rfl ?aP (fun k_ hk_ => ((Kd.R_mono (ok' := fun k_ => ((fun _ => True)) k_ ∧ some k_ ≠ (u432001 : Value).ownBlock) (Kd.R_apart' (HO_10.out) (Kd.S_typed HO_432001.out) (by decide)) (fun k_ hk => ⟨trivial, hk.2⟩))).1 k_ hk_.symm) ?aF ?aO ?aB ?aS ?aL ?_; (case aP => exact Kd.M_row (Kd.R_mono (Kd.R_tight rfl (Kd.R_mono (ok' := fun k_ => ((fun _ => True)) k_ ∧ some k_ ≠ (u432001 : Value).ownBlock) (Kd.R_apart' (HO_10.out) (Kd.S_typed HO_432001.out) (by decide)) (fun k_ hk => ⟨trivial, hk.2⟩))) (fun _ h_ => h_))); (case aB => exact (by repeat (first | (with_reducible first | exact HB.out | apply below_alloc | apply pw_below_drewN | apply below_drew1 | refine below_set ?_ GE428.out | refine below_set ?_ GE429.out | refine below_set ?_ GE431.out) | exact HB.out))); (case aF => exact (fun _ _ => trivial)); (case aO => exact (by (with_reducible repeat (first | apply Kd.S_alloc | apply Kd.S_drewN | apply Kd.S_drew)); exact Kd.S_mono HO_432001.out (fun k_ hk => ⟨trivial, fun e_ => hk e_⟩))); (case aS => exact (below_size (by repeat (first | (with_reducible first | exact HB.out | apply below_alloc | apply pw_below_drewN | apply below_drew1 | refine below_set ?_ GE428.out | refine below_set ?_ GE429.out | refine below_set ?_ GE431.out) | exact HB.out)))); (case aL => have := LMc74.out; omega); intro v449 w86 ho hb hg hat; rw [← Ny448.out] at ho; have n0_ := Aside0.mk (Kd.R_over' (by (with_reducible repeat (first | apply Kd.R_alloc | apply Kd.R_drewN | apply Kd.R_drew)); exact HO_5.out) (Kd.S_typed (by (with_reducible repeat (first | apply Kd.S_alloc | apply Kd.S_drewN | apply Kd.S_drew)); exact HO_432001.out)) (by decide) hg); have n1_ := Aside0.mk (Kd.R_over' (by (with_reducible repeat (first | apply Kd.R_alloc | apply Kd.R_drewN | apply Kd.R_drew)); exact HO_432000.out) (Kd.S_typed (by (with_reducible repeat (first | apply Kd.S_alloc | apply Kd.S_drewN | apply Kd.S_drew)); exact HO_432001.out)) (by decide) hg); have n2_ := Aside0.mk (blk_grown (g := gb428) (o := .cells #[.int .i64 a0_0, .int .i64 a0_1, .slice A0_2 l0_2.length c0_2] 47 (0, 0)) (by (with_reducible repeat (first | refine blk_drewN ?_ _ | refine blk_drew ?_ | refine blk_alloc ?_ _)); exact BK428.out) hg (Kd.S_ne HO_432001.out BK428.out (by decide))); have n3_ := Aside0.mk (blk_grown (g := gb429) (o := .cells #[.slice none 0 0, .slice none 0 0, .slice none 0 0] 25 (0, 0)) (by (with_reducible repeat (first | refine blk_drewN ?_ _ | refine blk_drew ?_ | refine blk_alloc ?_ _)); exact BK429.out) hg (Kd.S_ne HO_432001.out BK429.out (by decide))); have n4_ := Aside0.mk (blk_grown (g := gb431) (o := .cells #[.slice Ao80 x432000_1.length co80, u432001, .slice Ao82 y445.length co82] 25 (0, 0)) (by (with_reducible repeat (first | refine blk_drewN ?_ _ | refine blk_drew ?_ | refine blk_alloc ?_ _)); exact BK431.out) hg (Kd.S_ne HO_432001.out BK431.out (by decide))); have n5_ := Aside0.mk (Kd.R_over' (by (with_reducible repeat (first | apply Kd.R_alloc | apply Kd.R_drewN | apply Kd.R_drew)); exact HO447.out) (Kd.S_typed (by (with_reducible repeat (first | apply Kd.S_alloc | apply Kd.S_drewN | apply Kd.S_drew)); exact HO_432001.out)) (by decide) hg); have n6_ := Aside0.mk (hb); have n7_ := Aside0.mk (ho); clear HO_5; clear HO_432000; clear BK428; clear BK429; clear BK431; clear HO447; clear HB; clear HO_432001; clear HO_10; have HO_5 := n0_; have HO_432000 := n1_; have BK428 := n2_; have BK429 := n3_; have BK431 := n4_; have HO447 := n5_; have HB := n6_; have HO450 := n7_; clear n0_ n1_ n2_ n3_ n4_ n5_ n6_ n7_; clear ho hb hg hat; obtain ⟨Ao88, co88, eo88⟩ := Kd.S_slice HO450.out; subst eo88; have hcz89_0 : w86.cell? ⟨gb431, 0, none⟩ = some (.slice Ao80 x432000_1.length co80) := (blk_cell BK431.out 0).trans rfl; have hcz89_1 : w86.cell? ⟨gb431, 1, none⟩ = some (u432001) := (blk_cell BK431.out 1).trans rfl; have hcz89_2 : w86.cell? ⟨gb431, 2, none⟩ = some (.slice Ao82 y445.length co82) := (blk_cell BK431.out 2).trans rfl; have hfz89_0 := blk_frozen BK431.out 0; have hfz89_1 := blk_frozen BK431.out 1; have hfz89_2 := blk_frozen BK431.out 2))
               go_roundg k3
               case measure => have := HK1.out; have := HK2.out; have := HK3.out; omega
               case rel => exact ⟨(wrap64 (x9_2 + 1)), (y448), (y445), (.slice Ao88 y448.length co88), (.slice Ao82 y445.length co82), (by first | rfl | (simp; done) | (simp [*]; done)), H', ⟨by have := HK1.out; have := HK2.out; have := HK3.out; omega⟩, ⟨by (with_reducible repeat (first | apply Kd.R_alloc | apply Kd.R_drewN | apply Kd.R_drew)); exact Kd.R_mono (Kd.R_far (p := ⟨gb431, 1, none⟩) (Kd.R_types HO_5.out BK431.out (by decide)) (fun _ hk => hk.2) (.slice Ao88 y448.length co88)) (fun _ hk => ⟨hk.1.1, hk.1.2⟩)⟩, ⟨by (with_reducible repeat (first | apply Kd.R_alloc | apply Kd.R_drewN | apply Kd.R_drew)); exact Kd.R_mono (Kd.R_far (p := ⟨gb431, 1, none⟩) (Kd.R_types HO_432000.out BK431.out (by decide)) (fun _ hk => hk.2) (.slice Ao88 y448.length co88)) (fun _ hk => ⟨hk.1.1, hk.1.2⟩)⟩, ⟨by (with_reducible repeat (first | apply Kd.S_alloc | apply Kd.S_drewN | apply Kd.S_drew)); exact Kd.S_mono (Kd.S_far (p := ⟨gb431, 1, none⟩) (Kd.S_types HO450.out BK431.out (by decide)) (fun _ hk => hk.2) (.slice Ao88 y448.length co88)) (fun _ hk => trivial)⟩, ⟨by (with_reducible repeat (first | apply Kd.R_alloc | apply Kd.R_drewN | apply Kd.R_drew)); exact Kd.R_mono (Kd.R_far (p := ⟨gb431, 1, none⟩) (Kd.R_types HO447.out BK431.out (by decide)) (fun _ hk => hk.2) (.slice Ao88 y448.length co88)) (fun _ hk => ⟨hk.1.1, hk.1.2⟩)⟩, ⟨by (with_reducible repeat (first | refine blk_drewN ?_ _ | refine blk_drew ?_ | refine blk_alloc ?_ _)); refine blk_far ?_ NB428_431.out _; (with_reducible repeat (first | refine blk_drewN ?_ _ | refine blk_drew ?_ | refine blk_alloc ?_ _)); exact BK428.out⟩, ⟨by (with_reducible repeat (first | refine blk_drewN ?_ _ | refine blk_drew ?_ | refine blk_alloc ?_ _)); refine blk_far ?_ NB429_431.out _; (with_reducible repeat (first | refine blk_drewN ?_ _ | refine blk_drew ?_ | refine blk_alloc ?_ _)); exact BK429.out⟩, ⟨by (with_reducible repeat (first | refine blk_drewN ?_ _ | refine blk_drew ?_ | refine blk_alloc ?_ _)); refine blk_put (cs := #[.slice Ao80 x432000_1.length co80, u432001, .slice Ao82 y445.length co82]) ?_ 1 _ rfl; (with_reducible repeat (first | refine blk_drewN ?_ _ | refine blk_drew ?_ | refine blk_alloc ?_ _)); exact BK431.out⟩, ⟨by repeat (first | (with_reducible first | exact HB.out | apply below_alloc | apply pw_below_drewN | apply below_drew1 | refine below_set ?_ GE428.out | refine below_set ?_ GE429.out | refine below_set ?_ GE431.out) | exact HB.out)⟩⟩
              ·rw [if_neg c74] at H
               exact absurd H (by simp)
             ·rw [if_neg c73] at H
              exact absurd H (by simp)
         ·rw [if_neg c53] at H
          have c53b0 : decide (x9_2 < a0_0) = false := decide_eq_false c53
          clear c53
          simp only [Option.some.injEq, Prod.mk.injEq] at H
          obtain ⟨rfl, rfl, rfl, rfl⟩ := H
          have hnb90 := NB428_429.out
          have hnc90 := NB429_428.out
          have hnb91 := NB428_431.out
          have hnc91 := NB431_428.out
          have hcz92_0 : wr.cell? ⟨gb428, 0, none⟩ = some (.int .i64 a0_0) := (blk_cell BK428.out 0).trans rfl
          have hcz92_1 : wr.cell? ⟨gb428, 1, none⟩ = some (.int .i64 a0_1) := (blk_cell BK428.out 1).trans rfl
          have hcz92_2 : wr.cell? ⟨gb428, 2, none⟩ = some (.slice A0_2 l0_2.length c0_2) := (blk_cell BK428.out 2).trans rfl
          have hfz92_0 := blk_frozen BK428.out 0
          have hfz92_1 := blk_frozen BK428.out 1
          have hfz92_2 := blk_frozen BK428.out 2
          have hnb93 := NB431_429.out
          have hnc93 := NB429_431.out
          have hcz94_0 : wr.cell? ⟨gb431, 0, none⟩ = some (u432000) := (blk_cell BK431.out 0).trans rfl
          have hcz94_1 : wr.cell? ⟨gb431, 1, none⟩ = some (u432001) := (blk_cell BK431.out 1).trans rfl
          have hcz94_2 : wr.cell? ⟨gb431, 2, none⟩ = some (u432002) := (blk_cell BK431.out 2).trans rfl
          have hfz94_0 := blk_frozen BK431.out 0
          have hfz94_1 := blk_frozen BK431.out 1
          have hfz94_2 := blk_frozen BK431.out 2
          obtain ⟨Ao95, co95, eo95⟩ := Kd.R_slice HO_432000.out
          subst eo95
          have hcz96_0 : wr.cell? ⟨gb429, 0, none⟩ = some (.slice none 0 0) := (blk_cell BK429.out 0).trans rfl
          have hcz96_1 : wr.cell? ⟨gb429, 1, none⟩ = some (.slice none 0 0) := (blk_cell BK429.out 1).trans rfl
          have hcz96_2 : wr.cell? ⟨gb429, 2, none⟩ = some (.slice none 0 0) := (blk_cell BK429.out 2).trans rfl
          have hfz96_0 := blk_frozen BK429.out 0
          have hfz96_1 := blk_frozen BK429.out 1
          have hfz96_2 := blk_frozen BK429.out 2
          obtain ⟨Ao97, co97, eo97⟩ := Kd.S_slice HO_432001.out
          subst eo97
          obtain ⟨Ao98, co98, eo98⟩ := Kd.R_slice HO_432002.out
          subst eo98
          go_wp2
          refine bodyPost_ret (results_ct rfl _ _ gb429 25 #[.slice Ao95 x432000_1.length co95, .slice Ao97 x432001_2.length co97, .slice Ao98 x432002_2.length co98] (0, 0) _ rfl (by (with_reducible repeat (first | refine blk_drewN ?_ _ | refine blk_drew ?_ | refine blk_alloc ?_ _)); refine blk_put (cs := #[.slice Ao95 x432000_1.length co95, .slice Ao97 x432001_2.length co97, .slice none 0 0]) ?_ 2 _ rfl; (with_reducible repeat (first | refine blk_drewN ?_ _ | refine blk_drew ?_ | refine blk_alloc ?_ _)); refine blk_put (cs := #[.slice Ao95 x432000_1.length co95, .slice none 0 0, .slice none 0 0]) ?_ 1 _ rfl; (with_reducible repeat (first | refine blk_drewN ?_ _ | refine blk_drew ?_ | refine blk_alloc ?_ _)); refine blk_put (cs := #[.slice none 0 0, .slice none 0 0, .slice none 0 0]) ?_ 0 _ rfl; (with_reducible repeat (first | refine blk_drewN ?_ _ | refine blk_drew ?_ | refine blk_alloc ?_ _)); exact BK429.out) Try.underlying25 rfl (by kernel_rfl)) rfl ?_
          exact ⟨_, _, _, by first | rfl | (simp [errW_none, errW_some] <;> rfl) | (simp [*, errW_none, errW_some] <;> rfl), by (with_reducible repeat (first | apply Kd.R_alloc | apply Kd.R_drewN | apply Kd.R_drew)); exact Kd.R_mono (Kd.R_far (p := ⟨gb429, 2, none⟩) (Kd.R_far (p := ⟨gb429, 1, none⟩) (Kd.R_far (p := ⟨gb429, 0, none⟩) (Kd.R_types HO_432000.out BK429.out (by decide)) (fun _ hk => hk.2) (.slice Ao95 x432000_1.length co95)) (fun _ hk => hk.2) (.slice Ao97 x432001_2.length co97)) (fun _ hk => hk.2) (.slice Ao98 x432002_2.length co98)) (fun _ hk => hk.1.2), by (with_reducible repeat (first | apply Kd.S_alloc | apply Kd.S_drewN | apply Kd.S_drew)); exact Kd.S_mono (Kd.S_far (p := ⟨gb429, 2, none⟩) (Kd.S_far (p := ⟨gb429, 1, none⟩) (Kd.S_far (p := ⟨gb429, 0, none⟩) (Kd.S_types HO_432001.out BK429.out (by decide)) (fun _ hk => hk.2) (.slice Ao95 x432000_1.length co95)) (fun _ hk => hk.2) (.slice Ao97 x432001_2.length co97)) (fun _ hk => hk.2) (.slice Ao98 x432002_2.length co98)) (fun _ hk => trivial), by (with_reducible repeat (first | apply Kd.R_alloc | apply Kd.R_drewN | apply Kd.R_drew)); exact Kd.R_mono (Kd.R_far (p := ⟨gb429, 2, none⟩) (Kd.R_far (p := ⟨gb429, 1, none⟩) (Kd.R_far (p := ⟨gb429, 0, none⟩) (Kd.R_types HO_432002.out BK429.out (by decide)) (fun _ hk => hk.2) (.slice Ao95 x432000_1.length co95)) (fun _ hk => hk.2) (.slice Ao97 x432001_2.length co97)) (fun _ hk => hk.2) (.slice Ao98 x432002_2.length co98)) (fun _ hk => hk.1.2), by repeat (first | (with_reducible first | exact HB.out | apply below_alloc | apply pw_below_drewN | apply below_drew1 | refine below_set ?_ GE428.out | refine below_set ?_ GE429.out | refine below_set ?_ GE431.out) | exact HB.out)⟩
   ·rw [if_neg c5] at H
    exact absurd H (by simp)
  ·rw [if_neg c4] at H
   exact absurd H (by simp)
 ·replace c3 := Bool.eq_false_iff.mpr c3
  subst c3
  have H1 : (some (([] : List Int), ([] : List (List (S64))), ([] : List Int), 3)) = some (r1, r2, r3, r4) := by rw [if_neg (show ¬ (false = true) by decide)] at H; exact H
  clear H
  have H := H1
  clear H1
  simp only [Option.some.injEq, Prod.mk.injEq] at H
  obtain ⟨rfl, rfl, rfl, rfl⟩ := H
  go_enter Try.func24, Try.ntmps24
  go_wp2_with (first | ((with_reducible refine gate_dst (N := 1) rfl ?_); refine box_event ?hg (N := 1) ?hd (cs := #[.int .i64 a0_0, .int .i64 a0_1, .slice A0_2 l0_2.length c0_2]) (t := 47) ?hr ?_; (case hd => rfl); (case hg => rfl); (case hr => first | (go_simp; done) | (go_simp; rfl)); intro gb428 hg w99 hbox hb; have n0_ := Aside0.mk (below_step (by repeat (first | (with_reducible first | exact HB.out | apply below_alloc | apply pw_below_drewN | apply below_drew1) | exact HB.out)) hb); have n1_ := Aside0.mk (hbox); have n2_ := Aside0.mk ((by rw [hg]; exact (below_size (by repeat (first | (with_reducible first | exact HB.out | apply below_alloc | apply pw_below_drewN | apply below_drew1) | exact HB.out))) : w.heap.size ≤ gb428)); have n3_ := Aside0.mk ((by rw [hg]; exact (below_size (by repeat (first | (with_reducible first | exact HB.out | apply below_alloc | apply pw_below_drewN | apply below_drew1) | exact HB.out))) : w.heap.size ≤ gb428)); clear HB; have HB := n0_; have BK428 := n1_; have GW428 := n2_; have GE428 := n3_; clear n0_ n1_ n2_ n3_; clear hb hbox hg) | ((with_reducible refine gate_dst (N := 2) rfl ?_); refine box_event ?hg (N := 2) ?hd (cs := #[.slice none 0 0, .slice none 0 0, .slice none 0 0]) (t := 25) ?hr ?_; (case hd => rfl); (case hg => rfl); (case hr => first | (go_simp; done) | (go_simp; rfl)); intro gb429 hg w100 hbox hb; have n0_ := Aside0.mk (blk_below (g := gb428) (o := .cells #[.int .i64 a0_0, .int .i64 a0_1, .slice A0_2 l0_2.length c0_2] 47 (0, 0)) (by (with_reducible repeat (first | refine blk_drewN ?_ _ | refine blk_drew ?_ | refine blk_alloc ?_ _)); exact BK428.out) hb); have n1_ := Aside0.mk (below_step (by repeat (first | (with_reducible first | exact HB.out | apply below_alloc | apply pw_below_drewN | apply below_drew1 | refine below_set ?_ GE428.out) | exact HB.out)) hb); have n2_ := Aside0.mk (hbox); have n3_ := Aside0.mk ((by rw [hg]; exact (below_size (by repeat (first | (with_reducible first | exact HB.out | apply below_alloc | apply pw_below_drewN | apply below_drew1 | refine below_set ?_ GE428.out) | exact HB.out))) : w.heap.size ≤ gb429)); have n4_ := Aside0.mk ((by rw [hg]; exact (below_size (by repeat (first | (with_reducible first | exact HB.out | apply below_alloc | apply pw_below_drewN | apply below_drew1 | refine below_set ?_ GE428.out) | exact HB.out))) : w.heap.size ≤ gb429)); have n5_ := Aside0.mk ((by rw [hg]; exact Nat.ne_of_lt (blk_lt (g := gb428) (o := .cells #[.int .i64 a0_0, .int .i64 a0_1, .slice A0_2 l0_2.length c0_2] 47 (0, 0)) (by (with_reducible repeat (first | refine blk_drewN ?_ _ | refine blk_drew ?_ | refine blk_alloc ?_ _)); exact BK428.out)) : gb428 ≠ gb429)); have n6_ := Aside0.mk ((by rw [hg]; exact Nat.ne_of_gt (blk_lt (g := gb428) (o := .cells #[.int .i64 a0_0, .int .i64 a0_1, .slice A0_2 l0_2.length c0_2] 47 (0, 0)) (by (with_reducible repeat (first | refine blk_drewN ?_ _ | refine blk_drew ?_ | refine blk_alloc ?_ _)); exact BK428.out)) : gb429 ≠ gb428)); clear BK428; clear HB; have BK428 := n0_; have HB := n1_; have BK429 := n2_; have GW429 := n3_; have GE429 := n4_; have NB428_429 := n5_; have NB429_428 := n6_; clear n0_ n1_ n2_ n3_ n4_ n5_ n6_; clear hb hbox hg; have hnb101 := NB428_429.out; have hnc101 := NB429_428.out; have hcz102_0 : w100.cell? ⟨gb428, 0, none⟩ = some (.int .i64 a0_0) := (blk_cell BK428.out 0).trans rfl; have hcz102_1 : w100.cell? ⟨gb428, 1, none⟩ = some (.int .i64 a0_1) := (blk_cell BK428.out 1).trans rfl; have hcz102_2 : w100.cell? ⟨gb428, 2, none⟩ = some (.slice A0_2 l0_2.length c0_2) := (blk_cell BK428.out 2).trans rfl; have hfz102_0 := blk_frozen BK428.out 0; have hfz102_1 := blk_frozen BK428.out 1; have hfz102_2 := blk_frozen BK428.out 2) | ((with_reducible refine gate_callee (f := 28) rfl ?_); refine goesL_ (some 14) rfl rfl Try.func28 (by kernel_rfl) rfl #[.agg #[.int .i64 a0_0, .int .i64 a0_1, .slice A0_2 l0_2.length c0_2]] rfl (by (try simp only [List.map_toArray, List.map_cons, List.map_nil]); first | done | rfl | (simp only [List.length_drop, List.length_take]; rfl)) ?_; (with_reducible refine (recoupref03_Right.calls a0_0 a0_1 _ _ l0_2 false _ ?side1 ?side2 A2.out).mono ?_); (case side1 => repeat (first | exact (Kd.C_below HR0_2.out HB.out) | (with_reducible refine Kd.C_alloc ?_ _) | (with_reducible refine Kd.C_drewN ?_ _) | (with_reducible refine Kd.C_drew ?_))); (case side2 => exact HC0_2.out); rintro e w103 ⟨rfl, hb⟩; refine ⟨_, rfl, ?_⟩; have n0_ := Aside0.mk (blk_below (g := gb428) (o := .cells #[.int .i64 a0_0, .int .i64 a0_1, .slice A0_2 l0_2.length c0_2] 47 (0, 0)) (by (with_reducible repeat (first | refine blk_drewN ?_ _ | refine blk_drew ?_ | refine blk_alloc ?_ _)); exact BK428.out) hb); have n1_ := Aside0.mk (blk_below (g := gb429) (o := .cells #[.slice none 0 0, .slice none 0 0, .slice none 0 0] 25 (0, 0)) (by (with_reducible repeat (first | refine blk_drewN ?_ _ | refine blk_drew ?_ | refine blk_alloc ?_ _)); exact BK429.out) hb); have n2_ := Aside0.mk (below_step (by repeat (first | (with_reducible first | exact HB.out | apply below_alloc | apply pw_below_drewN | apply below_drew1 | refine below_set ?_ GE428.out | refine below_set ?_ GE429.out) | exact HB.out)) hb); clear BK428; clear BK429; clear HB; have BK428 := n0_; have BK429 := n1_; have HB := n2_; clear n0_ n1_ n2_; (try clear hb); (try clear hb2); (try clear hk); (try clear hi); have hcz104_0 : w103.cell? ⟨gb429, 0, none⟩ = some (.slice none 0 0) := (blk_cell BK429.out 0).trans rfl; have hcz104_1 : w103.cell? ⟨gb429, 1, none⟩ = some (.slice none 0 0) := (blk_cell BK429.out 1).trans rfl; have hcz104_2 : w103.cell? ⟨gb429, 2, none⟩ = some (.slice none 0 0) := (blk_cell BK429.out 2).trans rfl; have hfz104_0 := blk_frozen BK429.out 0; have hfz104_1 := blk_frozen BK429.out 1; have hfz104_2 := blk_frozen BK429.out 2))
  refine bodyPost_ret (results_ct rfl _ _ gb429 25 #[.slice none 0 0, .slice none 0 0, .slice none 0 0] (0, 0) _ rfl (by (with_reducible repeat (first | refine blk_drewN ?_ _ | refine blk_drew ?_ | refine blk_alloc ?_ _)); refine blk_put (cs := #[.slice none 0 0, .slice none 0 0, .slice none 0 0]) ?_ 2 _ rfl; (with_reducible repeat (first | refine blk_drewN ?_ _ | refine blk_drew ?_ | refine blk_alloc ?_ _)); refine blk_put (cs := #[.slice none 0 0, .slice none 0 0, .slice none 0 0]) ?_ 1 _ rfl; (with_reducible repeat (first | refine blk_drewN ?_ _ | refine blk_drew ?_ | refine blk_alloc ?_ _)); refine blk_put (cs := #[.slice none 0 0, .slice none 0 0, .slice none 0 0]) ?_ 0 _ rfl; (with_reducible repeat (first | refine blk_drewN ?_ _ | refine blk_drew ?_ | refine blk_alloc ?_ _)); exact BK429.out) Try.underlying25 rfl (by kernel_rfl)) rfl ?_
  exact ⟨_, _, _, by first | rfl | (simp [errW_none, errW_some] <;> rfl) | (simp [*, errW_none, errW_some] <;> rfl), by first | exact Kd.R_nil _ _ _ _ _ | exact Kd.N_nil _ _ _ _ _ | exact Kd.V_nil _ _ _ _ _ | exact Kd.Q_nil _ _ _ _ _ | exact Kd.S_nil _ _ _ _ _, by first | exact Kd.S_nil _ _ _ _ _ | exact Kd.N_nil _ _ _ _ _ | exact Kd.V_nil _ _ _ _ _ | exact Kd.Q_nil _ _ _ _ _ | exact Kd.R_nil _ _ _ _ _, by first | exact Kd.R_nil _ _ _ _ _ | exact Kd.N_nil _ _ _ _ _ | exact Kd.V_nil _ _ _ _ _ | exact Kd.Q_nil _ _ _ _ _ | exact Kd.S_nil _ _ _ _ _, by repeat (first | (with_reducible first | exact HB.out | apply below_alloc | apply pw_below_drewN | apply below_drew1 | refine below_set ?_ GE428.out | refine below_set ?_ GE429.out) | exact HB.out)⟩

end Go.Proofs.Ytfnhnniecclleaa.PA
