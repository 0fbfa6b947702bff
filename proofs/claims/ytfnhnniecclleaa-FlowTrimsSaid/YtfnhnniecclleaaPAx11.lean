-- Written by wip/tools/mp.py (the kit's print, run over several laws with some functions given by hand).
import Derived.Test.YtfnhnniecclleaaPAx0
import Derived.Test.YtfnhnniecclleaaPAx3
namespace Go.Proofs.Ytfnhnniecclleaa.PA
open Go.RowKit Go.Proofs.YtfnhnniecclleaaW.PrintWords Go.Proofs.YtfnhnniecclleaaW.PrintLast Go.Proofs.YtfnhnniecclleaaW.PrintMore
attribute [local go_sem] max2_int min2_int max_two min_two max_three min_three max_four min_four   -- for this text's walks alone
set_option linter.unusedVariables false
set_option linter.unusedSimpArgs false

/-! ### recoupref21_Trim: function 19 -/
mutual
def recoupref21_Trim.l0 : Nat → Int → List Bool → Int → List Int → List (List (S64)) → List Int → Option (List Int × (List (List (S64))) × List Int × Int)
 | 0, _, _, _, _, _, _ => none
 | k + 1, x4, x5, x6, x241000, x241001, x241002 => if x6 < (x241002.length : Int) then (if 0 ≤ x6 then (if 0 ≤ (rd x241002 x6) then (if (rd x241002 x6) < (x5.length : Int) then (recoupref21_Trim.l0 k x4 (x5.set ((rd x241002 x6) : Int).toNat true) (wrap64 (x6 + 1)) x241000 x241001 x241002) else (none)) else (none)) else (none)) else (recoupref21_Trim.l1 k x4 x5 (wrap64 ((x241001.length : Int) - 1)) x241000 x241001 x241002)
def recoupref21_Trim.l1 : Nat → Int → List Bool → Int → List Int → List (List (S64)) → List Int → Option (List Int × (List (List (S64))) × List Int × Int)
 | 0, _, _, _, _, _, _ => none
 | k + 1, x4, x5, x7, x241000, x241001, x241002 => if x7 ≥ 0 then (recoupref21_Trim.l2 k x4 x5 x7 0 x241000 x241001 x241002) else (if 0 ≤ (x5.length : Int) then (if ((x5.length : Int) : Int).toNat ≤ 35184372088832 then (recoupref21_Trim.l3 k x4 x5 (List.replicate ((x5.length : Int) : Int).toNat 0) 0 0 x241000 x241001 x241002) else (none)) else (none))
def recoupref21_Trim.l2 : Nat → Int → List Bool → Int → Int → List Int → List (List (S64)) → List Int → Option (List Int × (List (List (S64))) × List Int × Int)
 | 0, _, _, _, _, _, _, _ => none
 | k + 1, x4, x5, x7, x8, x241000, x241001, x241002 => if 0 ≤ x7 then (if x7 < (x241001.length : Int) then (if x8 < ((rd_L4 x241001 x7).length : Int) then (if 0 ≤ (wrap64 (x4 + x7)) then (if (wrap64 (x4 + x7)) < (x5.length : Int) then (if rdOf false x5 (wrap64 (x4 + x7)) = true then (if 0 ≤ x8 then (if 0 ≤ ((rd_T64 (rd_L4 x241001 x7) x8).f0) then (if ((rd_T64 (rd_L4 x241001 x7) x8).f0) < (x5.length : Int) then (recoupref21_Trim.l2 k x4 (x5.set (((rd_T64 (rd_L4 x241001 x7) x8).f0) : Int).toNat true) x7 (wrap64 (x8 + 1)) x241000 x241001 x241002) else (none)) else (none)) else (none)) else (recoupref21_Trim.l1 k x4 x5 (wrap64 (x7 - 1)) x241000 x241001 x241002)) else (none)) else (none)) else (recoupref21_Trim.l1 k x4 x5 (wrap64 (x7 - 1)) x241000 x241001 x241002)) else (none)) else (none)
def recoupref21_Trim.l3 : Nat → Int → List Bool → List Int → Int → Int → List Int → List (List (S64)) → List Int → Option (List Int × (List (List (S64))) × List Int × Int)
 | 0, _, _, _, _, _, _, _, _ => none
 | k + 1, x4, x5, x9, x10, x11, x241000, x241001, x241002 => if x11 < (x5.length : Int) then (if 0 ≤ x11 then (if x11 < (x9.length : Int) then ((some (x9.set (x11 : Int).toNat x10 : List Int)).bind fun y256 => (if rdOf false x5 x11 = true then (recoupref21_Trim.l3 k x4 x5 y256 (wrap64 (x10 + 1)) (wrap64 (x11 + 1)) x241000 x241001 x241002) else (recoupref21_Trim.l3 k x4 x5 y256 x10 (wrap64 (x11 + 1)) x241000 x241001 x241002))) else (none)) else (none)) else (recoupref21_Trim.l4 k x4 x5 x9 0 x241000 x241001 x241002 ([] : List Int))
def recoupref21_Trim.l4 : Nat → Int → List Bool → List Int → Int → List Int → List (List (S64)) → List Int → List Int → Option (List Int × (List (List (S64))) × List Int × Int)
 | 0, _, _, _, _, _, _, _, _ => none
 | k + 1, x4, x5, x9, x13, x241000, x241001, x241002, x259000 => if x13 < x4 then (if 0 ≤ x13 then (if x13 < (x5.length : Int) then (if rdOf false x5 x13 = true then (if x13 < (x241000.length : Int) then (if x259000.length < 17592186044416 then (recoupref21_Trim.l4 k x4 x5 x9 (wrap64 (x13 + 1)) x241000 x241001 x241002 (x259000 ++ [rd x241000 x13])) else (none)) else (none)) else (recoupref21_Trim.l4 k x4 x5 x9 (wrap64 (x13 + 1)) x241000 x241001 x241002 x259000)) else (none)) else (none)) else (recoupref21_Trim.l5 k x4 x5 x9 0 x241000 x241001 x241002 x259000 ([] : List (List (S64))))
def recoupref21_Trim.l5 : Nat → Int → List Bool → List Int → Int → List Int → List (List (S64)) → List Int → List Int → List (List (S64)) → Option (List Int × (List (List (S64))) × List Int × Int)
 | 0, _, _, _, _, _, _, _, _, _ => none
 | k + 1, x4, x5, x9, x14, x241000, x241001, x241002, x259000, x259001 => if x14 < (x241001.length : Int) then (if 0 ≤ (wrap64 (x4 + x14)) then (if (wrap64 (x4 + x14)) < (x5.length : Int) then (if (rdOf false x5 (wrap64 (x4 + x14)) = true) then (recoupref21_Trim.l6 k x4 x5 x9 x14 ([] : List (S64)) 0 x241000 x241001 x241002 x259000 x259001) else (recoupref21_Trim.l5 k x4 x5 x9 (wrap64 (x14 + 1)) x241000 x241001 x241002 x259000 x259001)) else (none)) else (none)) else (recoupref21_Trim.l7 k x9 0 x241000 x241001 x241002 x259000 x259001 ([] : List Int))
def recoupref21_Trim.l6 : Nat → Int → List Bool → List Int → Int → List (S64) → Int → List Int → List (List (S64)) → List Int → List Int → List (List (S64)) → Option (List Int × (List (List (S64))) × List Int × Int)
 | 0, _, _, _, _, _, _, _, _, _, _, _ => none
 | k + 1, x4, x5, x9, x14, x15, x16, x241000, x241001, x241002, x259000, x259001 => if 0 ≤ x14 then (if x14 < (x241001.length : Int) then (if x16 < ((rd_L4 x241001 x14).length : Int) then (if 0 ≤ x16 then (if 0 ≤ ((rd_T64 (rd_L4 x241001 x14) x16).f0) then (if ((rd_T64 (rd_L4 x241001 x14) x16).f0) < (x9.length : Int) then (if x15.length < 8796093022208 then (recoupref21_Trim.l6 k x4 x5 x9 x14 (x15 ++ [(⟨rd x9 ((rd_T64 (rd_L4 x241001 x14) x16).f0), (rd_T64 (rd_L4 x241001 x14) x16).f1⟩ : S64)]) (wrap64 (x16 + 1)) x241000 x241001 x241002 x259000 x259001) else (none)) else (none)) else (none)) else (none)) else (if x259001.length < 5864062014805 then (recoupref21_Trim.l5 k x4 x5 x9 (wrap64 (x14 + 1)) x241000 x241001 x241002 x259000 (x259001 ++ [x15])) else (none))) else (none)) else (none)
def recoupref21_Trim.l7 : Nat → List Int → Int → List Int → List (List (S64)) → List Int → List Int → List (List (S64)) → List Int → Option (List Int × (List (List (S64))) × List Int × Int)
 | 0, _, _, _, _, _, _, _, _ => none
 | k + 1, x9, x17, x241000, x241001, x241002, x259000, x259001, x259002 => if x17 < (x241002.length : Int) then (if 0 ≤ x17 then (if 0 ≤ (rd x241002 x17) then (if (rd x241002 x17) < (x9.length : Int) then (if x259002.length < 17592186044416 then (recoupref21_Trim.l7 k x9 (wrap64 (x17 + 1)) x241000 x241001 x241002 x259000 x259001 (x259002 ++ [rd x9 (rd x241002 x17)])) else (none)) else (none)) else (none)) else (none)) else (some (x259000, x259001, x259002, 0))
end
def recoupref21_Trim.f (k : Nat) (l0_0 : List Int) (l0_1 : List (List (S64))) (l0_2 : List Int) : Option (List Int × (List (List (S64))) × List Int × Int) := (recoupref21_May.f k l0_0 l0_1 l0_2).bind fun t242 => (if t242 = true then (if 0 ≤ (wrap64 ((l0_0.length : Int) + (l0_1.length : Int))) then (if (wrap64 ((l0_0.length : Int) + (l0_1.length : Int)) : Int).toNat ≤ 281474976710656 then (recoupref21_Trim.l0 k (l0_0.length : Int) (List.replicate (wrap64 ((l0_0.length : Int) + (l0_1.length : Int)) : Int).toNat false) 0 l0_0 l0_1 l0_2) else (none)) else (none)) else (some (([] : List Int), ([] : List (List (S64))), ([] : List Int), 2)))
def recoupref21_Trim.T29 : Bool × List (List Nat × List Nat) := (true, [([], []), ([0], [0]), ([], []), ([2], [2]), ([], []), ([3, 4], [3, 4]), ([5], [5]), ([6], [6]), ([1, 7], [1, 7]), ([0, 1, 2, 3, 4, 5, 6, 7, 8], []), ([9, 8, 8, 0, 1, 2, 3, 4, 5, 6, 7, 8], [8, 9])])
def recoupref21_Trim.B29 : List Nat := [0, 1, 0, 4, 0, 28, 60, 124, 255, 511, 1023]
theorem recoupref21_Trim.tab29 : rtab .any (opsOf Try.f19 29) = recoupref21_Trim.T29 := by kernel_rfl
theorem recoupref21_Trim.bits29 : waitsOk recoupref21_Trim.T29.2 recoupref21_Trim.B29 = true := by kernel_rfl
def recoupref21_Trim.T38 : Bool × List (List Nat × List Nat) := (true, [([], []), ([], []), ([], []), ([2], [2]), ([], []), ([3, 4], [3, 4]), ([5], [5]), ([], []), ([6, 7], [6, 7]), ([8], [8]), ([9], [9]), ([1, 10], [1, 10]), ([11], [11]), ([], []), ([13], [13]), ([], []), ([14, 15], [14, 15]), ([16], [16]), ([], []), ([17, 18], [17, 18]), ([19], [19]), ([20], [20]), ([12, 21], [12, 21]), ([22], [22]), ([0, 23], [0, 23]), ([24, 24, 0, 1, 2, 3, 4, 5, 6, 7, 8, 9, 10, 11, 12, 13, 14, 15, 16, 17, 18, 19, 20, 21, 22, 23, 24], [0, 24])])
def recoupref21_Trim.B38 : List Nat := [0, 0, 0, 4, 0, 28, 60, 0, 252, 508, 1020, 2046, 4094, 0, 8192, 0, 57344, 122880, 0, 516096, 1040384, 2088960, 4194302, 8388606, 16777215, 33554431]
theorem recoupref21_Trim.tab38 : rtab .any (opsOf Try.f19 38) = recoupref21_Trim.T38 := by kernel_rfl
theorem recoupref21_Trim.bits38 : waitsOk recoupref21_Trim.T38.2 recoupref21_Trim.B38 = true := by kernel_rfl
def recoupref21_Trim.T43 : Bool × List (List Nat × List Nat) := (true, [([], []), ([0], [0]), ([], []), ([], []), ([3], [3]), ([], []), ([4, 5], [4, 5]), ([6], [6]), ([2, 7], [2, 7]), ([8], [8]), ([9], [9]), ([1, 10], [1, 10]), ([0, 1, 2, 3, 4, 5, 6, 7, 8, 9, 10, 11], []), ([12, 11, 11, 0, 1, 2, 3, 4, 5, 6, 7, 8, 9, 10, 11], [11, 12])])
def recoupref21_Trim.B43 : List Nat := [0, 1, 0, 0, 8, 0, 56, 120, 252, 508, 1020, 2047, 4095, 8191]
theorem recoupref21_Trim.tab43 : rtab .any (opsOf Try.f19 43) = recoupref21_Trim.T43 := by kernel_rfl
theorem recoupref21_Trim.bits43 : waitsOk recoupref21_Trim.T43.2 recoupref21_Trim.B43 = true := by kernel_rfl
set_option maxHeartbeats 8000000 in
set_option maxRecDepth 100000 in
theorem recoupref21_Trim.calls (k : Nat) (A0_0 : Option Addr) (c0_0 : Nat) (l0_0 : List Int) (A0_1 : Option Addr) (c0_1 : Nat) (l0_1 : List (List (S64))) (A0_2 : Option Addr) (c0_2 : Nat) (l0_2 : List Int) (r1 : List Int) (r2 : List (List (S64))) (r3 : List Int) (r4 : Int) (w : World) (hr0_0 : Kd.C (Kd.int .i64) w A0_0 l0_0.length l0_0) (hc0_0 : l0_0.length ≤ c0_0) (hr0_1 : Kd.C (Kd.slice 64 k64) w A0_1 l0_1.length l0_1) (hc0_1 : l0_1.length ≤ c0_1) (hr0_2 : Kd.C (Kd.int .i64) w A0_2 l0_2.length l0_2) (hc0_2 : l0_2.length ≤ c0_2) (h : recoupref21_Trim.f k l0_0 l0_1 l0_2 = some (r1, r2, r3, r4)) :
  Calls Try.prog 19 #[.agg #[.slice A0_0 l0_0.length c0_0, .slice A0_1 l0_1.length c0_1, .slice A0_2 l0_2.length c0_2]] w fun e w' => ∃ v0_ v1_ v2_ : Value, e = .returned (.tuple #[.agg #[v0_, v1_, v2_], .int .i64 r4]) ∧ Kd.R (Kd.int .i64) 3 w' w.heap.size (fun k_ => some k_ ≠ (v2_ : Value).ownBlock) v0_ r1 ∧ Kd.S (Kd.slice 64 k64) 62 w' w.heap.size (fun _ => True) v1_ r2 ∧ Kd.R (Kd.int .i64) 3 w' w.heap.size (fun k_ => some k_ ≠ (v0_ : Value).ownBlock) v2_ r3 ∧ Below w.heap.size w w' := by
 have hu25 := Try.underlying25
 have hu64 := Try.underlying64
 have HR0_0 := Aside0.mk hr0_0
 have HC0_0 := Aside0.mk hc0_0
 clear hr0_0 hc0_0
 have HR0_1 := Aside0.mk hr0_1
 have HC0_1 := Aside0.mk hc0_1
 clear hr0_1 hc0_1
 have HR0_2 := Aside0.mk hr0_2
 have HC0_2 := Aside0.mk hc0_2
 clear hr0_2 hc0_2
 have HB := Aside0.mk (Below.refl w.heap.size w)
 have H : ((recoupref21_May.f k l0_0 l0_1 l0_2).bind fun t242 => (if t242 = true then (if 0 ≤ (wrap64 ((l0_0.length : Int) + (l0_1.length : Int))) then (if (wrap64 ((l0_0.length : Int) + (l0_1.length : Int)) : Int).toNat ≤ 281474976710656 then (recoupref21_Trim.l0 k (l0_0.length : Int) (List.replicate (wrap64 ((l0_0.length : Int) + (l0_1.length : Int)) : Int).toNat false) 0 l0_0 l0_1 l0_2) else (none)) else (none)) else (some (([] : List Int), ([] : List (List (S64))), ([] : List Int), 2)))) = some (r1, r2, r3, r4) := h
 clear h
 replace H := Option.bind_eq_some_iff.mp H
 obtain ⟨t242, A20, H⟩ := H
 replace H : (if t242 = true then (if 0 ≤ (wrap64 ((l0_0.length : Int) + (l0_1.length : Int))) then (if (wrap64 ((l0_0.length : Int) + (l0_1.length : Int)) : Int).toNat ≤ 281474976710656 then (recoupref21_Trim.l0 k (l0_0.length : Int) (List.replicate (wrap64 ((l0_0.length : Int) + (l0_1.length : Int)) : Int).toNat false) 0 l0_0 l0_1 l0_2) else (none)) else (none)) else (some (([] : List Int), ([] : List (List (S64))), ([] : List Int), 2))) = some (r1, r2, r3, r4) := H
 have A2 := Aside0.mk A20
 clear A20
 by_cases c3 : t242 = true
 ·subst c3
  have H1 : (if 0 ≤ (wrap64 ((l0_0.length : Int) + (l0_1.length : Int))) then (if (wrap64 ((l0_0.length : Int) + (l0_1.length : Int)) : Int).toNat ≤ 281474976710656 then (recoupref21_Trim.l0 k (l0_0.length : Int) (List.replicate (wrap64 ((l0_0.length : Int) + (l0_1.length : Int)) : Int).toNat false) 0 l0_0 l0_1 l0_2) else (none)) else (none)) = some (r1, r2, r3, r4) := by rw [if_pos rfl] at H; exact H
  clear H
  have H := H1
  clear H1
  obtain ⟨ji4, hji4⟩ : ∃ j_ : Int, (wrap64 ((l0_0.length : Int) + (l0_1.length : Int))) = j_ := ⟨_, rfl⟩
  replace H : (if 0 ≤ (ji4) then (if (ji4 : Int).toNat ≤ 281474976710656 then (recoupref21_Trim.l0 k (l0_0.length : Int) (List.replicate (ji4 : Int).toNat false) 0 l0_0 l0_1 l0_2) else (none)) else (none)) = some (r1, r2, r3, r4) := by first | (rw [hji4] at H; exact H) | (simp only [hji4] at H ⊢; exact H)
  (try rw [hji4] at A2)
  have hji4w : (IntKind.i64.wrap ((l0_0.length : Int) + (l0_1.length : Int))) = ji4 := (i64_w _).trans hji4
  by_cases c5 : 0 ≤ (ji4)
  ·rw [if_pos c5] at H
   have c5b0 := eq_true c5
   have c5b1 : decide (0 ≤ (ji4)) = true := decide_eq_true c5
   clear c5
   by_cases c6 : (ji4 : Int).toNat ≤ 281474976710656
   ·rw [if_pos c6] at H
    have c6b0 := eq_true c6
    have c6b1 : decide ((ji4 : Int).toNat ≤ 281474976710656) = true := decide_eq_true c6
    clear c6
    obtain ⟨y243, hy243⟩ : ∃ y_ : List Bool, y_ = (List.replicate (ji4 : Int).toNat false) := ⟨_, rfl⟩
    replace H : (recoupref21_Trim.l0 k (l0_0.length : Int) y243 0 l0_0 l0_1 l0_2) = some (r1, r2, r3, r4) := by first | (rw [hy243]; with_reducible exact H) | (have H2_ := (Option.bind_some _ _).symm.trans H; rw [hy243]; with_reducible exact H2_) | (have H2_ := (Option.bind_some _ _).symm.trans H; with_reducible exact H2_) | with_reducible exact H | (rw [hy243]; exact H) | exact H
    have Ny243 := Aside0.mk hy243
    clear hy243
    have H' := Aside0.mk H
    clear H
    go_enter Try.func19, Try.ntmps19
    go_wp2_with (first | ((with_reducible refine gate_dst (N := 1) rfl ?_); refine box_event ?hg (N := 1) ?hd (cs := #[.slice A0_0 l0_0.length c0_0, .slice A0_1 l0_1.length c0_1, .slice A0_2 l0_2.length c0_2]) (t := 25) ?hr ?_; (case hd => rfl); (case hg => rfl); (case hr => first | (go_simp; done) | (go_simp; rfl)); intro gb240 hg w7 hbox hb; have n0_ := Aside0.mk (below_step (by repeat (first | (with_reducible first | exact HB.out | apply below_alloc | apply pw_below_drewN | apply below_drew1) | exact HB.out)) hb); have n1_ := Aside0.mk (hbox); have n2_ := Aside0.mk ((by rw [hg]; exact (below_size (by repeat (first | (with_reducible first | exact HB.out | apply below_alloc | apply pw_below_drewN | apply below_drew1) | exact HB.out))) : w.heap.size ≤ gb240)); have n3_ := Aside0.mk ((by rw [hg]; exact (below_size (by repeat (first | (with_reducible first | exact HB.out | apply below_alloc | apply pw_below_drewN | apply below_drew1) | exact HB.out))) : w.heap.size ≤ gb240)); clear HB; have HB := n0_; have BK240 := n1_; have GW240 := n2_; have GE240 := n3_; clear n0_ n1_ n2_ n3_; clear hb hbox hg) | ((with_reducible refine gate_dst (N := 2) rfl ?_); refine box_event ?hg (N := 2) ?hd (cs := #[.slice none 0 0, .slice none 0 0, .slice none 0 0]) (t := 25) ?hr ?_; (case hd => rfl); (case hg => rfl); (case hr => first | (go_simp; done) | (go_simp; rfl)); intro gb241 hg w8 hbox hb; have n0_ := Aside0.mk (blk_below (g := gb240) (o := .cells #[.slice A0_0 l0_0.length c0_0, .slice A0_1 l0_1.length c0_1, .slice A0_2 l0_2.length c0_2] 25 (0, 0)) (by (with_reducible repeat (first | refine blk_drewN ?_ _ | refine blk_drew ?_ | refine blk_alloc ?_ _)); exact BK240.out) hb); have n1_ := Aside0.mk (below_step (by repeat (first | (with_reducible first | exact HB.out | apply below_alloc | apply pw_below_drewN | apply below_drew1 | refine below_set ?_ GE240.out) | exact HB.out)) hb); have n2_ := Aside0.mk (hbox); have n3_ := Aside0.mk ((by rw [hg]; exact (below_size (by repeat (first | (with_reducible first | exact HB.out | apply below_alloc | apply pw_below_drewN | apply below_drew1 | refine below_set ?_ GE240.out) | exact HB.out))) : w.heap.size ≤ gb241)); have n4_ := Aside0.mk ((by rw [hg]; exact (below_size (by repeat (first | (with_reducible first | exact HB.out | apply below_alloc | apply pw_below_drewN | apply below_drew1 | refine below_set ?_ GE240.out) | exact HB.out))) : w.heap.size ≤ gb241)); have n5_ := Aside0.mk ((by rw [hg]; exact Nat.ne_of_lt (blk_lt (g := gb240) (o := .cells #[.slice A0_0 l0_0.length c0_0, .slice A0_1 l0_1.length c0_1, .slice A0_2 l0_2.length c0_2] 25 (0, 0)) (by (with_reducible repeat (first | refine blk_drewN ?_ _ | refine blk_drew ?_ | refine blk_alloc ?_ _)); exact BK240.out)) : gb240 ≠ gb241)); have n6_ := Aside0.mk ((by rw [hg]; exact Nat.ne_of_gt (blk_lt (g := gb240) (o := .cells #[.slice A0_0 l0_0.length c0_0, .slice A0_1 l0_1.length c0_1, .slice A0_2 l0_2.length c0_2] 25 (0, 0)) (by (with_reducible repeat (first | refine blk_drewN ?_ _ | refine blk_drew ?_ | refine blk_alloc ?_ _)); exact BK240.out)) : gb241 ≠ gb240)); clear BK240; clear HB; have BK240 := n0_; have HB := n1_; have BK241 := n2_; have GW241 := n3_; have GE241 := n4_; have NB240_241 := n5_; have NB241_240 := n6_; clear n0_ n1_ n2_ n3_ n4_ n5_ n6_; clear hb hbox hg; have hnb9 := NB240_241.out; have hnc9 := NB241_240.out; have hcz10_0 : w8.cell? ⟨gb240, 0, none⟩ = some (.slice A0_0 l0_0.length c0_0) := (blk_cell BK240.out 0).trans rfl; have hcz10_1 : w8.cell? ⟨gb240, 1, none⟩ = some (.slice A0_1 l0_1.length c0_1) := (blk_cell BK240.out 1).trans rfl; have hcz10_2 : w8.cell? ⟨gb240, 2, none⟩ = some (.slice A0_2 l0_2.length c0_2) := (blk_cell BK240.out 2).trans rfl; have hfz10_0 := blk_frozen BK240.out 0; have hfz10_1 := blk_frozen BK240.out 1; have hfz10_2 := blk_frozen BK240.out 2) | ((with_reducible refine gate_callee (f := 12) rfl ?_); refine goesL_ (some 19) rfl rfl Try.func12 (by kernel_rfl) rfl #[.agg #[.slice A0_0 l0_0.length c0_0, .slice A0_1 l0_1.length c0_1, .slice A0_2 l0_2.length c0_2]] rfl (by (try simp only [List.map_toArray, List.map_cons, List.map_nil]); first | done | rfl | (simp only [List.length_drop, List.length_take]; rfl)) ?_; (with_reducible refine (recoupref21_May.calls k _ _ l0_0 _ _ l0_1 _ _ l0_2 true _ ?side1 ?side2 ?side3 ?side4 ?side5 ?side6 A2.out).mono ?_); (case side1 => repeat (first | exact (Kd.C_below HR0_0.out HB.out) | (with_reducible refine Kd.C_alloc ?_ _) | (with_reducible refine Kd.C_drewN ?_ _) | (with_reducible refine Kd.C_drew ?_))); (case side2 => exact HC0_0.out); (case side3 => repeat (first | exact (Kd.C_below HR0_1.out HB.out) | (with_reducible refine Kd.C_alloc ?_ _) | (with_reducible refine Kd.C_drewN ?_ _) | (with_reducible refine Kd.C_drew ?_))); (case side4 => exact HC0_1.out); (case side5 => repeat (first | exact (Kd.C_below HR0_2.out HB.out) | (with_reducible refine Kd.C_alloc ?_ _) | (with_reducible refine Kd.C_drewN ?_ _) | (with_reducible refine Kd.C_drew ?_))); (case side6 => exact HC0_2.out); rintro e w11 ⟨rfl, hb⟩; refine ⟨_, rfl, ?_⟩; have n0_ := Aside0.mk (blk_below (g := gb240) (o := .cells #[.slice A0_0 l0_0.length c0_0, .slice A0_1 l0_1.length c0_1, .slice A0_2 l0_2.length c0_2] 25 (0, 0)) (by (with_reducible repeat (first | refine blk_drewN ?_ _ | refine blk_drew ?_ | refine blk_alloc ?_ _)); exact BK240.out) hb); have n1_ := Aside0.mk (blk_below (g := gb241) (o := .cells #[.slice none 0 0, .slice none 0 0, .slice none 0 0] 25 (0, 0)) (by (with_reducible repeat (first | refine blk_drewN ?_ _ | refine blk_drew ?_ | refine blk_alloc ?_ _)); exact BK241.out) hb); have n2_ := Aside0.mk (below_step (by repeat (first | (with_reducible first | exact HB.out | apply below_alloc | apply pw_below_drewN | apply below_drew1 | refine below_set ?_ GE240.out | refine below_set ?_ GE241.out) | exact HB.out)) hb); clear BK240; clear BK241; clear HB; have BK240 := n0_; have BK241 := n1_; have HB := n2_; clear n0_ n1_ n2_; (try clear hb); (try clear hb2); (try clear hk); (try clear hi); have hcz12_0 : w11.cell? ⟨gb240, 0, none⟩ = some (.slice A0_0 l0_0.length c0_0) := (blk_cell BK240.out 0).trans rfl; have hcz12_1 : w11.cell? ⟨gb240, 1, none⟩ = some (.slice A0_1 l0_1.length c0_1) := (blk_cell BK240.out 1).trans rfl; have hcz12_2 : w11.cell? ⟨gb240, 2, none⟩ = some (.slice A0_2 l0_2.length c0_2) := (blk_cell BK240.out 2).trans rfl; have hfz12_0 := blk_frozen BK240.out 0; have hfz12_1 := blk_frozen BK240.out 1; have hfz12_2 := blk_frozen BK240.out 2) | ((with_reducible refine gate_dst (N := 30) rfl ?_); refine Kd.R_make Kd.bool _ 4 rfl (N := 30) rfl 74 _ _ rfl ji4 rfl rfl Try.underlying74 (.bool false) 1 info4 rfl (by decide) (by omega) false (ok := fun _ => True) (okp := fun _ => True) rfl (fun _ hk => hk) trivial (of_decide_eq_true (by first | (with_reducible assumption) | assumption)) (Nat.le_trans (Nat.mul_le_mul_right _ (of_decide_eq_true (by first | (with_reducible assumption) | assumption) : ji4.toNat ≤ 281474976710656)) (by omega)) (Below.refl _ _) (Nat.le_refl _) ?_; intro v244 w13 ho14 hb hg_ hnew_; clear hg_ hnew_; (first | rw [← Ny243.out] at ho14 | (simp only [Int.reduceToNat] at ho14; rw [← Ny243.out] at ho14)); have n0_ := Aside0.mk (Kd.R_lower ho14 (below_size (by repeat (first | (with_reducible first | exact HB.out | apply below_alloc | apply pw_below_drewN | apply below_drew1 | refine below_set ?_ GE240.out | refine below_set ?_ GE241.out) | exact HB.out)))); have n1_ := Aside0.mk (blk_below (g := gb240) (o := .cells #[.slice A0_0 l0_0.length c0_0, .slice A0_1 l0_1.length c0_1, .slice A0_2 l0_2.length c0_2] 25 (0, 0)) (by (with_reducible repeat (first | refine blk_drewN ?_ _ | refine blk_drew ?_ | refine blk_alloc ?_ _)); exact BK240.out) hb); have n2_ := Aside0.mk (blk_below (g := gb241) (o := .cells #[.slice none 0 0, .slice none 0 0, .slice none 0 0] 25 (0, 0)) (by (with_reducible repeat (first | refine blk_drewN ?_ _ | refine blk_drew ?_ | refine blk_alloc ?_ _)); exact BK241.out) hb); have n3_ := Aside0.mk (below_step (by repeat (first | (with_reducible first | exact HB.out | apply below_alloc | apply pw_below_drewN | apply below_drew1 | refine below_set ?_ GE240.out | refine below_set ?_ GE241.out) | exact HB.out)) hb); clear BK240; clear BK241; clear HB; have HO245 := n0_; have BK240 := n1_; have BK241 := n2_; have HB := n3_; clear n0_ n1_ n2_ n3_; clear hb ho14))
    go_loopg [6] k (fun kq v6 w' => ∃ (x5_1 : List Bool) (x6_1 : Int), v6 = .int .i64 x6_1 ∧ Aside0 (recoupref21_Trim.l0 kq (l0_0.length : Int) x5_1 x6_1 l0_0 l0_1 l0_2 = some (r1, r2, r3, r4)) ∧ Aside0 (kq ≤ k) ∧ Aside0 (Kd.R Kd.bool 4 w' w.heap.size (fun _ => True) v244 x5_1) ∧ Aside0 (w'.heap[gb240]? = some (.cells #[(.slice A0_0 l0_0.length c0_0), (.slice A0_1 l0_1.length c0_1), (.slice A0_2 l0_2.length c0_2)] 25 (0, 0))) ∧ Aside0 (w'.heap[gb241]? = some (.cells #[(.slice none 0 0), (.slice none 0 0), (.slice none 0 0)] 25 (0, 0))) ∧ Aside0 (Below w.heap.size w w'))
    case atStart => exact ⟨(y243), (0), (by first | rfl | (simp; done) | (simp [*]; done)), H', ⟨Nat.le_refl _⟩, ⟨by (with_reducible repeat (first | apply Kd.R_alloc | apply Kd.R_drewN | apply Kd.R_drew)); exact HO245.out⟩, ⟨by (with_reducible repeat (first | refine blk_drewN ?_ _ | refine blk_drew ?_ | refine blk_alloc ?_ _)); exact BK240.out⟩, ⟨by (with_reducible repeat (first | refine blk_drewN ?_ _ | refine blk_drew ?_ | refine blk_alloc ?_ _)); exact BK241.out⟩, ⟨by repeat (first | (with_reducible first | exact HB.out | apply below_alloc | apply pw_below_drewN | apply below_drew1 | refine below_set ?_ GE240.out | refine below_set ?_ GE241.out) | exact HB.out)⟩⟩
    case round =>
     clear H'
     try clear c1
     try clear p2
     try clear c3
     try clear c5
     try clear c5b0
     try clear c5b1
     try clear c6
     try clear c6b0
     try clear c6b1
     try clear p6
     try clear c9
     try clear c12
     try clear hcz10_0
     try clear hcz10_1
     try clear hcz10_2
     try clear hcz12_0
     try clear hcz12_1
     try clear hcz12_2
     try clear hfz10_0
     try clear hfz10_1
     try clear hfz10_2
     try clear hfz12_0
     try clear hfz12_1
     try clear hfz12_2
     obtain ⟨x5_1, x6_1, rfl, HA, HK1, HO_5, BK240, BK241, HB⟩ := hrel
     cases gk with
     | zero => exact absurd HA.out (by simp [recoupref21_Trim.l0])
     | succ k1 =>
      have H := HA.out
      clear HA
      simp only [recoupref21_Trim.l0] at H
      by_cases c15 : x6_1 < (l0_2.length : Int)
      ·rw [if_pos c15] at H
       have c15b0 : decide (x6_1 < (l0_2.length : Int)) = true := decide_eq_true c15
       clear c15
       by_cases c16 : 0 ≤ x6_1
       ·rw [if_pos c16] at H
        have c16b0 : decide (0 ≤ x6_1) = true := decide_eq_true c16
        clear c16
        by_cases c17 : 0 ≤ (rd l0_2 x6_1)
        ·rw [if_pos c17] at H
         have c17b0 : decide (0 ≤ (rd l0_2 x6_1)) = true := decide_eq_true c17
         clear c17
         by_cases c18 : (rd l0_2 x6_1) < (x5_1.length : Int)
         ·rw [if_pos c18] at H
          have c18b0 : decide ((rd l0_2 x6_1) < (x5_1.length : Int)) = true := decide_eq_true c18
          clear c18
          obtain ⟨y247, hy247⟩ : ∃ y_ : List Bool, y_ = (x5_1.set ((rd l0_2 x6_1) : Int).toNat true) := ⟨_, rfl⟩
          replace H : (recoupref21_Trim.l0 k1 (l0_0.length : Int) y247 (wrap64 (x6_1 + 1)) l0_0 l0_1 l0_2) = some (r1, r2, r3, r4) := by first | (rw [hy247]; with_reducible exact H) | (have H2_ := (Option.bind_some _ _).symm.trans H; rw [hy247]; with_reducible exact H2_) | (have H2_ := (Option.bind_some _ _).symm.trans H; with_reducible exact H2_) | with_reducible exact H | (rw [hy247]; exact H) | exact H
          have Ny247 := Aside0.mk hy247
          clear hy247
          have H' := Aside0.mk H
          clear H
          have hnb20 := NB240_241.out
          have hnc20 := NB241_240.out
          have hcz21_0 : wr.cell? ⟨gb240, 0, none⟩ = some (.slice A0_0 l0_0.length c0_0) := (blk_cell BK240.out 0).trans rfl
          have hcz21_1 : wr.cell? ⟨gb240, 1, none⟩ = some (.slice A0_1 l0_1.length c0_1) := (blk_cell BK240.out 1).trans rfl
          have hcz21_2 : wr.cell? ⟨gb240, 2, none⟩ = some (.slice A0_2 l0_2.length c0_2) := (blk_cell BK240.out 2).trans rfl
          have hfz21_0 := blk_frozen BK240.out 0
          have hfz21_1 := blk_frozen BK240.out 1
          have hfz21_2 := blk_frozen BK240.out 2
          have p246 : 0 ≤ (x6_1 : Int) := of_decide_eq_true (by first | (with_reducible assumption) | assumption)
          have q246 : x6_1 < (l0_2.length : Int) := of_decide_eq_true (by first | (with_reducible assumption) | assumption)
          obtain ⟨ad246, e246, hx246_0⟩ := Kd.at_int HR0_2.out x6_1 p246 q246
          cases e246
          replace hx246_0 := (HB.out.cell (World.block_lt_of_cell? w _ hx246_0)).trans hx246_0
          replace p246 := eq_true p246
          replace q246 := eq_true q246
          have p19 : 0 ≤ ((rd l0_2 x6_1) : Int) := of_decide_eq_true (by first | (with_reducible assumption) | assumption)
          have q19 : ((rd l0_2 x6_1) : Int) < ((x5_1.length : Int) : Int) := of_decide_eq_true (by first | (with_reducible assumption) | assumption)
          obtain ⟨go19, co19, eo19, gb19, gl19, cl19, HG19⟩ := Kd.R_form HO_5.out (by omega)
          (first | cases eo19 | (injection eo19 with ea_ en_ ec_; (first | subst ea_ | (injection ea_ with ea_; subst ea_)); subst ec_; clear en_))
          have GB19 := Aside0.mk gb19
          have GG19 := Aside0.mk HG19
          clear gb19 gl19 HG19
          obtain ⟨hx19_0, hf19_0⟩ := Kd.R_celln false HO_5.out ((rd l0_2 x6_1) : Int) p19 q19
          replace p19 := eq_true p19
          replace q19 := eq_true q19
          have HP22 := Kd.R_putg HO_5.out ((rd l0_2 x6_1) : Int) true
          go_wp2_with (first | ((with_reducible refine gate_store (t := 4) (p := 44) rfl ?_); refine store_event (t := 4) (p := 44) (v := ?vo_w23) (w1 := (wr.setCell ⟨go19, ((rd l0_2 x6_1) : Int).toNat, none⟩ (.bool true))) ?hg ?ho ?hn ?hr ?_; (case ho => rfl); (case hg => rfl); (case hn => rfl); (case hr => first | (go_simp; done) | (go_simp; rfl)); intro w23 hw; have hg : wr.grownBy w23 (some go19) := (by rw [hw]; exact HP22.2); have hp_ : Kd.R Kd.bool 4 w23 w.heap.size (fun _ => True) (.slice (some ⟨go19, 0, none⟩) x5_1.length co19) y247 := (by rw [hw, Ny247.out]; exact HP22.1); clear HP22; have n0_ := Aside0.mk (hp_); have n1_ := Aside0.mk (blk_grown (g := gb240) (o := .cells #[.slice A0_0 l0_0.length c0_0, .slice A0_1 l0_1.length c0_1, .slice (some ad246) l0_2.length c0_2] 25 (0, 0)) (by (with_reducible repeat (first | refine blk_drewN ?_ _ | refine blk_drew ?_ | refine blk_alloc ?_ _)); exact BK240.out) hg (Kd.R_ne HO_5.out BK240.out (by decide))); have n2_ := Aside0.mk (blk_grown (g := gb241) (o := .cells #[.slice none 0 0, .slice none 0 0, .slice none 0 0] 25 (0, 0)) (by (with_reducible repeat (first | refine blk_drewN ?_ _ | refine blk_drew ?_ | refine blk_alloc ?_ _)); exact BK241.out) hg (Kd.R_ne HO_5.out BK241.out (by decide))); have n3_ := Aside0.mk ((by rw [hw]; exact below_set (HB.out) GB19.out : Below w.heap.size w w23)); clear HO_5; clear BK240; clear BK241; clear HB; have HO_5 := n0_; have BK240 := n1_; have BK241 := n2_; have HB := n3_; clear n0_ n1_ n2_ n3_; clear hg hw hp_))
          go_roundg k1
          case measure => have := HK1.out; omega
          case rel => exact ⟨(y247), (wrap64 (x6_1 + 1)), (by first | rfl | (simp; done) | (simp [*]; done)), H', ⟨by have := HK1.out; omega⟩, ⟨by (with_reducible repeat (first | apply Kd.R_alloc | apply Kd.R_drewN | apply Kd.R_drew)); exact HO_5.out⟩, ⟨by (with_reducible repeat (first | refine blk_drewN ?_ _ | refine blk_drew ?_ | refine blk_alloc ?_ _)); exact BK240.out⟩, ⟨by (with_reducible repeat (first | refine blk_drewN ?_ _ | refine blk_drew ?_ | refine blk_alloc ?_ _)); exact BK241.out⟩, ⟨by repeat (first | (with_reducible first | exact HB.out | apply below_alloc | apply pw_below_drewN | apply below_drew1 | refine below_set ?_ GE240.out | refine below_set ?_ GE241.out) | exact HB.out)⟩⟩
         ·rw [if_neg c18] at H
          exact absurd H (by simp)
        ·rw [if_neg c17] at H
         exact absurd H (by simp)
       ·rw [if_neg c16] at H
        exact absurd H (by simp)
      ·rw [if_neg c15] at H
       have c15b0 : decide (x6_1 < (l0_2.length : Int)) = false := decide_eq_false c15
       clear c15
       have H' := Aside0.mk H
       clear H
       have hnb24 := NB240_241.out
       have hnc24 := NB241_240.out
       have hcz25_0 : wr.cell? ⟨gb240, 0, none⟩ = some (.slice A0_0 l0_0.length c0_0) := (blk_cell BK240.out 0).trans rfl
       have hcz25_1 : wr.cell? ⟨gb240, 1, none⟩ = some (.slice A0_1 l0_1.length c0_1) := (blk_cell BK240.out 1).trans rfl
       have hcz25_2 : wr.cell? ⟨gb240, 2, none⟩ = some (.slice A0_2 l0_2.length c0_2) := (blk_cell BK240.out 2).trans rfl
       have hfz25_0 := blk_frozen BK240.out 0
       have hfz25_1 := blk_frozen BK240.out 1
       have hfz25_2 := blk_frozen BK240.out 2
       go_wp2
       go_loopg [7] k1 (fun kq v7 w' => ∃ (x5_2 : List Bool) (x7_2 : Int), v7 = .int .i64 x7_2 ∧ Aside0 (recoupref21_Trim.l1 kq (l0_0.length : Int) x5_2 x7_2 l0_0 l0_1 l0_2 = some (r1, r2, r3, r4)) ∧ Aside0 (kq ≤ k1) ∧ Aside0 (Kd.R Kd.bool 4 w' w.heap.size (fun _ => True) v244 x5_2) ∧ Aside0 (w'.heap[gb240]? = some (.cells #[(.slice A0_0 l0_0.length c0_0), (.slice A0_1 l0_1.length c0_1), (.slice A0_2 l0_2.length c0_2)] 25 (0, 0))) ∧ Aside0 (w'.heap[gb241]? = some (.cells #[(.slice none 0 0), (.slice none 0 0), (.slice none 0 0)] 25 (0, 0))) ∧ Aside0 (Below w.heap.size w w'))
       case atStart => exact ⟨(x5_1), (wrap64 ((l0_1.length : Int) - 1)), (by first | rfl | (simp; done) | (simp [*]; done)), H', ⟨Nat.le_refl _⟩, ⟨by (with_reducible repeat (first | apply Kd.R_alloc | apply Kd.R_drewN | apply Kd.R_drew)); exact HO_5.out⟩, ⟨by (with_reducible repeat (first | refine blk_drewN ?_ _ | refine blk_drew ?_ | refine blk_alloc ?_ _)); exact BK240.out⟩, ⟨by (with_reducible repeat (first | refine blk_drewN ?_ _ | refine blk_drew ?_ | refine blk_alloc ?_ _)); exact BK241.out⟩, ⟨by repeat (first | (with_reducible first | exact HB.out | apply below_alloc | apply pw_below_drewN | apply below_drew1 | refine below_set ?_ GE240.out | refine below_set ?_ GE241.out) | exact HB.out)⟩⟩
       case round =>
        clear H'
        try clear c1
        try clear p1
        try clear q1
        try clear hx1
        try clear hf1
        try clear c2
        try clear p2
        try clear q2
        try clear hx2
        try clear c3
        try clear c5
        try clear c5b0
        try clear c5b1
        try clear c6
        try clear c6b0
        try clear c6b1
        try clear p6
        try clear c9
        try clear c12
        try clear c15
        try clear c15b0
        try clear c16
        try clear c16b0
        try clear c17
        try clear c17b0
        try clear c18
        try clear c18b0
        try clear c19
        try clear p19
        try clear q19
        try clear hx19
        try clear hf19
        try clear c20
        try clear c24
        try clear p24
        try clear q24
        try clear hx24
        try clear hcz10_0
        try clear hcz10_1
        try clear hcz10_2
        try clear hcz12_0
        try clear hcz12_1
        try clear hcz12_2
        try clear hcz21_0
        try clear hcz21_1
        try clear hcz21_2
        try clear hcz25_0
        try clear hcz25_1
        try clear hcz25_2
        try clear hfz10_0
        try clear hfz10_1
        try clear hfz10_2
        try clear hfz12_0
        try clear hfz12_1
        try clear hfz12_2
        try clear hfz21_0
        try clear hfz21_1
        try clear hfz21_2
        try clear hfz25_0
        try clear hfz25_1
        try clear hfz25_2
        try clear hx19_0
        try clear hx246_0
        try clear p19
        try clear p2
        try clear p246
        try clear p6
        try clear q19
        try clear q246
        obtain ⟨x5_2, x7_2, rfl, HA, HK2, HO_5, BK240, BK241, HB⟩ := hrel
        cases gk with
        | zero => exact absurd HA.out (by simp [recoupref21_Trim.l1])
        | succ k2 =>
         have H := HA.out
         clear HA
         simp only [recoupref21_Trim.l1] at H
         by_cases c26 : x7_2 ≥ 0
         ·rw [if_pos c26] at H
          have c26b0 : decide (0 ≤ x7_2) = true := decide_eq_true c26
          clear c26
          have H' := Aside0.mk H
          clear H
          go_wp2
          go_loopg [8] k2 (fun kq v8 w' => ∃ (x5_3 : List Bool) (x8_3 : Int), v8 = .int .i64 x8_3 ∧ Aside0 (recoupref21_Trim.l2 kq (l0_0.length : Int) x5_3 x7_2 x8_3 l0_0 l0_1 l0_2 = some (r1, r2, r3, r4)) ∧ Aside0 (kq ≤ k2) ∧ Aside0 (Kd.R Kd.bool 4 w' w.heap.size (fun _ => True) v244 x5_3) ∧ Aside0 (w'.heap[gb240]? = some (.cells #[(.slice A0_0 l0_0.length c0_0), (.slice A0_1 l0_1.length c0_1), (.slice A0_2 l0_2.length c0_2)] 25 (0, 0))) ∧ Aside0 (w'.heap[gb241]? = some (.cells #[(.slice none 0 0), (.slice none 0 0), (.slice none 0 0)] 25 (0, 0))) ∧ Aside0 (Below w.heap.size w w'))
          case atStart => exact ⟨(x5_2), (0), (by first | rfl | (simp; done) | (simp [*]; done)), H', ⟨Nat.le_refl _⟩, ⟨by (with_reducible repeat (first | apply Kd.R_alloc | apply Kd.R_drewN | apply Kd.R_drew)); exact HO_5.out⟩, ⟨by (with_reducible repeat (first | refine blk_drewN ?_ _ | refine blk_drew ?_ | refine blk_alloc ?_ _)); exact BK240.out⟩, ⟨by (with_reducible repeat (first | refine blk_drewN ?_ _ | refine blk_drew ?_ | refine blk_alloc ?_ _)); exact BK241.out⟩, ⟨by repeat (first | (with_reducible first | exact HB.out | apply below_alloc | apply pw_below_drewN | apply below_drew1 | refine below_set ?_ GE240.out | refine below_set ?_ GE241.out) | exact HB.out)⟩⟩
          case round =>
           clear H'
           try clear c1
           try clear p1
           try clear q1
           try clear hx1
           try clear hf1
           try clear c2
           try clear p2
           try clear q2
           try clear hx2
           try clear c3
           try clear c5
           try clear c5b0
           try clear c5b1
           try clear c6
           try clear c6b0
           try clear c6b1
           try clear p6
           try clear c9
           try clear c12
           try clear c15
           try clear c15b0
           try clear c16
           try clear c16b0
           try clear c17
           try clear c17b0
           try clear c18
           try clear c18b0
           try clear c19
           try clear p19
           try clear q19
           try clear hx19
           try clear hf19
           try clear c20
           try clear c24
           try clear p24
           try clear q24
           try clear hx24
           try clear c26
           try clear c26b0
           try clear hcz10_0
           try clear hcz10_1
           try clear hcz10_2
           try clear hcz12_0
           try clear hcz12_1
           try clear hcz12_2
           try clear hcz21_0
           try clear hcz21_1
           try clear hcz21_2
           try clear hcz25_0
           try clear hcz25_1
           try clear hcz25_2
           try clear hfz10_0
           try clear hfz10_1
           try clear hfz10_2
           try clear hfz12_0
           try clear hfz12_1
           try clear hfz12_2
           try clear hfz21_0
           try clear hfz21_1
           try clear hfz21_2
           try clear hfz25_0
           try clear hfz25_1
           try clear hfz25_2
           try clear hx19_0
           try clear hx246_0
           try clear p1
           try clear p19
           try clear p2
           try clear p24
           try clear p246
           try clear p6
           try clear q1
           try clear q19
           try clear q2
           try clear q24
           try clear q246
           obtain ⟨x5_3, x8_3, rfl, HA, HK3, HO_5, BK240, BK241, HB⟩ := hrel
           cases gk with
           | zero => exact absurd HA.out (by simp [recoupref21_Trim.l2])
           | succ k3 =>
            have H := HA.out
            clear HA
            simp only [recoupref21_Trim.l2] at H
            by_cases c27 : 0 ≤ x7_2
            ·rw [if_pos c27] at H
             have c27b0 : decide (0 ≤ x7_2) = true := decide_eq_true c27
             clear c27
             by_cases c28 : x7_2 < (l0_1.length : Int)
             ·rw [if_pos c28] at H
              have c28b0 : decide (x7_2 < (l0_1.length : Int)) = true := decide_eq_true c28
              clear c28
              by_cases c29 : x8_3 < ((rd_L4 l0_1 x7_2).length : Int)
              ·rw [if_pos c29] at H
               have c29b0 : decide (x8_3 < ((rd_L4 l0_1 x7_2).length : Int)) = true := decide_eq_true c29
               clear c29
               obtain ⟨ji30, hji30⟩ : ∃ j_ : Int, (wrap64 ((l0_0.length : Int) + x7_2)) = j_ := ⟨_, rfl⟩
               replace H : (if 0 ≤ (ji30) then (if (ji30) < (x5_3.length : Int) then (if rdOf false x5_3 (ji30) = true then (if 0 ≤ x8_3 then (if 0 ≤ ((rd_T64 (rd_L4 l0_1 x7_2) x8_3).f0) then (if ((rd_T64 (rd_L4 l0_1 x7_2) x8_3).f0) < (x5_3.length : Int) then (recoupref21_Trim.l2 k3 (l0_0.length : Int) (x5_3.set (((rd_T64 (rd_L4 l0_1 x7_2) x8_3).f0) : Int).toNat true) x7_2 (wrap64 (x8_3 + 1)) l0_0 l0_1 l0_2) else (none)) else (none)) else (none)) else (recoupref21_Trim.l1 k3 (l0_0.length : Int) x5_3 (wrap64 (x7_2 - 1)) l0_0 l0_1 l0_2)) else (none)) else (none)) = some (r1, r2, r3, r4) := by first | (rw [hji30] at H; exact H) | (simp only [hji30] at H ⊢; exact H)
               have hji30w : (IntKind.i64.wrap ((l0_0.length : Int) + x7_2)) = ji30 := (i64_w _).trans hji30
               by_cases c31 : 0 ≤ (ji30)
               ·rw [if_pos c31] at H
                have c31b0 : decide (0 ≤ (ji30)) = true := decide_eq_true c31
                clear c31
                by_cases c32 : (ji30) < (x5_3.length : Int)
                ·rw [if_pos c32] at H
                 have c32b0 : decide ((ji30) < (x5_3.length : Int)) = true := decide_eq_true c32
                 clear c32
                 obtain ⟨bq33, hbq33⟩ : ∃ b_ : Bool, b_ = (rdOf false x5_3 (ji30)) := ⟨_, rfl⟩
                 replace H : (if bq33 = true then (if 0 ≤ x8_3 then (if 0 ≤ ((rd_T64 (rd_L4 l0_1 x7_2) x8_3).f0) then (if ((rd_T64 (rd_L4 l0_1 x7_2) x8_3).f0) < (x5_3.length : Int) then (recoupref21_Trim.l2 k3 (l0_0.length : Int) (x5_3.set (((rd_T64 (rd_L4 l0_1 x7_2) x8_3).f0) : Int).toNat true) x7_2 (wrap64 (x8_3 + 1)) l0_0 l0_1 l0_2) else (none)) else (none)) else (none)) else (recoupref21_Trim.l1 k3 (l0_0.length : Int) x5_3 (wrap64 (x7_2 - 1)) l0_0 l0_1 l0_2)) = some (r1, r2, r3, r4) := by rw [← hbq33] at H; exact H
                 have Nbq33 := Aside0.mk hbq33
                 clear hbq33
                 by_cases c34 : bq33 = true
                 ·subst c34
                  have H1 : (if 0 ≤ x8_3 then (if 0 ≤ ((rd_T64 (rd_L4 l0_1 x7_2) x8_3).f0) then (if ((rd_T64 (rd_L4 l0_1 x7_2) x8_3).f0) < (x5_3.length : Int) then (recoupref21_Trim.l2 k3 (l0_0.length : Int) (x5_3.set (((rd_T64 (rd_L4 l0_1 x7_2) x8_3).f0) : Int).toNat true) x7_2 (wrap64 (x8_3 + 1)) l0_0 l0_1 l0_2) else (none)) else (none)) else (none)) = some (r1, r2, r3, r4) := by rw [if_pos rfl] at H; exact H
                  clear H
                  have H := H1
                  clear H1
                  by_cases c35 : 0 ≤ x8_3
                  ·rw [if_pos c35] at H
                   have c35b0 : decide (0 ≤ x8_3) = true := decide_eq_true c35
                   clear c35
                   by_cases c36 : 0 ≤ ((rd_T64 (rd_L4 l0_1 x7_2) x8_3).f0)
                   ·rw [if_pos c36] at H
                    have c36b0 : decide (0 ≤ ((rd_T64 (rd_L4 l0_1 x7_2) x8_3).f0)) = true := decide_eq_true c36
                    clear c36
                    by_cases c37 : ((rd_T64 (rd_L4 l0_1 x7_2) x8_3).f0) < (x5_3.length : Int)
                    ·rw [if_pos c37] at H
                     have c37b0 : decide (((rd_T64 (rd_L4 l0_1 x7_2) x8_3).f0) < (x5_3.length : Int)) = true := decide_eq_true c37
                     clear c37
                     obtain ⟨y252, hy252⟩ : ∃ y_ : List Bool, y_ = (x5_3.set (((rd_T64 (rd_L4 l0_1 x7_2) x8_3).f0) : Int).toNat true) := ⟨_, rfl⟩
                     replace H : (recoupref21_Trim.l2 k3 (l0_0.length : Int) y252 x7_2 (wrap64 (x8_3 + 1)) l0_0 l0_1 l0_2) = some (r1, r2, r3, r4) := by first | (rw [hy252]; with_reducible exact H) | (have H2_ := (Option.bind_some _ _).symm.trans H; rw [hy252]; with_reducible exact H2_) | (have H2_ := (Option.bind_some _ _).symm.trans H; with_reducible exact H2_) | with_reducible exact H | (rw [hy252]; exact H) | exact H
                     have Ny252 := Aside0.mk hy252
                     clear hy252
                     have H' := Aside0.mk H
                     clear H
                     have hnb39 := NB240_241.out
                     have hnc39 := NB241_240.out
                     have hcz40_0 : wr.cell? ⟨gb240, 0, none⟩ = some (.slice A0_0 l0_0.length c0_0) := (blk_cell BK240.out 0).trans rfl
                     have hcz40_1 : wr.cell? ⟨gb240, 1, none⟩ = some (.slice A0_1 l0_1.length c0_1) := (blk_cell BK240.out 1).trans rfl
                     have hcz40_2 : wr.cell? ⟨gb240, 2, none⟩ = some (.slice A0_2 l0_2.length c0_2) := (blk_cell BK240.out 2).trans rfl
                     have hfz40_0 := blk_frozen BK240.out 0
                     have hfz40_1 := blk_frozen BK240.out 1
                     have hfz40_2 := blk_frozen BK240.out 2
                     have p248 : 0 ≤ (x7_2 : Int) := of_decide_eq_true (by first | (with_reducible assumption) | assumption)
                     have q248 : x7_2 < (l0_1.length : Int) := of_decide_eq_true (by first | (with_reducible assumption) | assumption)
                     obtain ⟨ad248, A248_0, c248_0, e248, hx248_0, hl248_0, hi248_0⟩ := at_L4 HR0_1.out x7_2 p248 q248
                     cases e248
                     replace hx248_0 := (HB.out.cell (World.block_lt_of_cell? w _ hx248_0)).trans hx248_0
                     have HR248_0 := Aside0.mk hi248_0
                     have HC248_0 := Aside0.mk hl248_0
                     clear hi248_0 hl248_0
                     replace p248 := eq_true p248
                     replace q248 := eq_true q248
                     obtain ⟨Ao41, co41, eo41⟩ := Kd.R_slice HO_5.out
                     subst eo41
                     have p249 : 0 ≤ ((ji30) : Int) := of_decide_eq_true (by first | (with_reducible assumption) | assumption)
                     have q249 : (ji30) < (x5_3.length : Int) := of_decide_eq_true (by first | (with_reducible assumption) | assumption)
                     obtain ⟨ad249, e249, hx249_0⟩ := Kd.at_bool (Kd.R_reads' HO_5.out).2.2 (ji30) p249 q249
                     (try rw [← Nbq33.out] at hx249_0)
                     cases e249
                     replace p249 := eq_true p249
                     replace q249 := eq_true q249
                     have p250 : 0 ≤ (x7_2 : Int) := of_decide_eq_true (by first | (with_reducible assumption) | assumption)
                     have q250 : x7_2 < (l0_1.length : Int) := of_decide_eq_true (by first | (with_reducible assumption) | assumption)
                     obtain ⟨ad250, A250_0, c250_0, e250, hx250_0, hl250_0, hi250_0⟩ := at_L4 HR0_1.out x7_2 p250 q250
                     obtain rfl : ad248 = ad250 := (by injection e250)
                     replace hx250_0 := (HB.out.cell (World.block_lt_of_cell? w _ hx250_0)).trans hx250_0
                     have HR250_0 := Aside0.mk hi250_0
                     have HC250_0 := Aside0.mk hl250_0
                     clear hi250_0 hl250_0
                     replace p250 := eq_true p250
                     replace q250 := eq_true q250
                     have ea_ := Option.some.inj (hx248_0.symm.trans hx250_0)
                     injection ea_ with ea_ en_ ec_
                     subst ea_
                     subst ec_
                     clear en_
                     have p251 : 0 ≤ (x8_3 : Int) := of_decide_eq_true (by first | (with_reducible assumption) | assumption)
                     have q251 : x8_3 < ((rd_L4 l0_1 x7_2).length : Int) := of_decide_eq_true (by first | (with_reducible assumption) | assumption)
                     obtain ⟨ad251, e251, hx251_0, hx251_1⟩ := at_T64 HR250_0.out x8_3 p251 q251
                     cases e251
                     replace hx251_0 := (HB.out.cell (World.block_lt_of_cell? w _ hx251_0)).trans hx251_0
                     replace hx251_1 := (HB.out.cell (World.block_lt_of_cell? w _ hx251_1)).trans hx251_1
                     replace p251 := eq_true p251
                     replace q251 := eq_true q251
                     have p38 : 0 ≤ (((rd_T64 (rd_L4 l0_1 x7_2) x8_3).f0) : Int) := of_decide_eq_true (by first | (with_reducible assumption) | assumption)
                     have q38 : (((rd_T64 (rd_L4 l0_1 x7_2) x8_3).f0) : Int) < ((x5_3.length : Int) : Int) := of_decide_eq_true (by first | (with_reducible assumption) | assumption)
                     obtain ⟨go38, co38, eo38, gb38, gl38, cl38, HG38⟩ := Kd.R_form HO_5.out (by omega)
                     (first | cases eo38 | (injection eo38 with ea_ en_ ec_; (first | subst ea_ | (injection ea_ with ea_; subst ea_)); subst ec_; clear en_))
                     have GB38 := Aside0.mk gb38
                     have GG38 := Aside0.mk HG38
                     clear gb38 gl38 HG38
                     (first | simp only [add_plain] at hx249_0 | skip)
                     obtain ⟨hx38_0, hf38_0⟩ := Kd.R_celln false HO_5.out (((rd_T64 (rd_L4 l0_1 x7_2) x8_3).f0) : Int) p38 q38
                     replace p38 := eq_true p38
                     replace q38 := eq_true q38
                     have HP42 := Kd.R_putg HO_5.out (((rd_T64 (rd_L4 l0_1 x7_2) x8_3).f0) : Int) true
                     go_wp2_with (first | ((with_reducible refine gate_store (t := 4) (p := 81) rfl ?_); refine store_event (t := 4) (p := 81) (v := ?vo_w43) (w1 := (wr.setCell ⟨go38, (((rd_T64 (rd_L4 l0_1 x7_2) x8_3).f0) : Int).toNat, none⟩ (.bool true))) ?hg ?ho ?hn ?hr ?_; (case ho => rfl); (case hg => rfl); (case hn => rfl); (case hr => first | (go_simp; done) | (go_simp; rfl)); intro w43 hw; have hg : wr.grownBy w43 (some go38) := (by rw [hw]; exact HP42.2); have hp_ : Kd.R Kd.bool 4 w43 w.heap.size (fun _ => True) (.slice (some ⟨go38, 0, none⟩) x5_3.length co41) y252 := (by rw [hw, Ny252.out]; exact HP42.1); clear HP42; have n0_ := Aside0.mk (hp_); have n1_ := Aside0.mk (blk_grown (g := gb240) (o := .cells #[.slice A0_0 l0_0.length c0_0, .slice (some ad248) l0_1.length c0_1, .slice A0_2 l0_2.length c0_2] 25 (0, 0)) (by (with_reducible repeat (first | refine blk_drewN ?_ _ | refine blk_drew ?_ | refine blk_alloc ?_ _)); exact BK240.out) hg (Kd.R_ne HO_5.out BK240.out (by decide))); have n2_ := Aside0.mk (blk_grown (g := gb241) (o := .cells #[.slice none 0 0, .slice none 0 0, .slice none 0 0] 25 (0, 0)) (by (with_reducible repeat (first | refine blk_drewN ?_ _ | refine blk_drew ?_ | refine blk_alloc ?_ _)); exact BK241.out) hg (Kd.R_ne HO_5.out BK241.out (by decide))); have n3_ := Aside0.mk ((by rw [hw]; exact below_set (HB.out) GB38.out : Below w.heap.size w w43)); clear HO_5; clear BK240; clear BK241; clear HB; have HO_5 := n0_; have BK240 := n1_; have BK241 := n2_; have HB := n3_; clear n0_ n1_ n2_ n3_; clear hg hw hp_))
                     go_roundg k3
                     case measure => have := HK1.out; have := HK2.out; have := HK3.out; omega
                     case rel => exact ⟨(y252), (wrap64 (x8_3 + 1)), (by first | rfl | (simp; done) | (simp [*]; done)), H', ⟨by have := HK1.out; have := HK2.out; have := HK3.out; omega⟩, ⟨by (with_reducible repeat (first | apply Kd.R_alloc | apply Kd.R_drewN | apply Kd.R_drew)); exact HO_5.out⟩, ⟨by (with_reducible repeat (first | refine blk_drewN ?_ _ | refine blk_drew ?_ | refine blk_alloc ?_ _)); exact BK240.out⟩, ⟨by (with_reducible repeat (first | refine blk_drewN ?_ _ | refine blk_drew ?_ | refine blk_alloc ?_ _)); exact BK241.out⟩, ⟨by repeat (first | (with_reducible first | exact HB.out | apply below_alloc | apply pw_below_drewN | apply below_drew1 | refine below_set ?_ GE240.out | refine below_set ?_ GE241.out) | exact HB.out)⟩⟩
                    ·rw [if_neg c37] at H
                     exact absurd H (by simp)
                   ·rw [if_neg c36] at H
                    exact absurd H (by simp)
                  ·rw [if_neg c35] at H
                   exact absurd H (by simp)
                 ·replace c34 := Bool.eq_false_iff.mpr c34
                  subst c34
                  have H1 : (recoupref21_Trim.l1 k3 (l0_0.length : Int) x5_3 (wrap64 (x7_2 - 1)) l0_0 l0_1 l0_2) = some (r1, r2, r3, r4) := by rw [if_neg (show ¬ (false = true) by decide)] at H; exact H
                  clear H
                  have H := H1
                  clear H1
                  have H' := Aside0.mk H
                  clear H
                  have hnb44 := NB240_241.out
                  have hnc44 := NB241_240.out
                  have hcz45_0 : wr.cell? ⟨gb240, 0, none⟩ = some (.slice A0_0 l0_0.length c0_0) := (blk_cell BK240.out 0).trans rfl
                  have hcz45_1 : wr.cell? ⟨gb240, 1, none⟩ = some (.slice A0_1 l0_1.length c0_1) := (blk_cell BK240.out 1).trans rfl
                  have hcz45_2 : wr.cell? ⟨gb240, 2, none⟩ = some (.slice A0_2 l0_2.length c0_2) := (blk_cell BK240.out 2).trans rfl
                  have hfz45_0 := blk_frozen BK240.out 0
                  have hfz45_1 := blk_frozen BK240.out 1
                  have hfz45_2 := blk_frozen BK240.out 2
                  have p248 : 0 ≤ (x7_2 : Int) := of_decide_eq_true (by first | (with_reducible assumption) | assumption)
                  have q248 : x7_2 < (l0_1.length : Int) := of_decide_eq_true (by first | (with_reducible assumption) | assumption)
                  obtain ⟨ad248, A248_0, c248_0, e248, hx248_0, hl248_0, hi248_0⟩ := at_L4 HR0_1.out x7_2 p248 q248
                  cases e248
                  replace hx248_0 := (HB.out.cell (World.block_lt_of_cell? w _ hx248_0)).trans hx248_0
                  have HR248_0 := Aside0.mk hi248_0
                  have HC248_0 := Aside0.mk hl248_0
                  clear hi248_0 hl248_0
                  replace p248 := eq_true p248
                  replace q248 := eq_true q248
                  obtain ⟨Ao46, co46, eo46⟩ := Kd.R_slice HO_5.out
                  subst eo46
                  have p249 : 0 ≤ ((ji30) : Int) := of_decide_eq_true (by first | (with_reducible assumption) | assumption)
                  have q249 : (ji30) < (x5_3.length : Int) := of_decide_eq_true (by first | (with_reducible assumption) | assumption)
                  obtain ⟨ad249, e249, hx249_0⟩ := Kd.at_bool (Kd.R_reads' HO_5.out).2.2 (ji30) p249 q249
                  (try rw [← Nbq33.out] at hx249_0)
                  cases e249
                  replace p249 := eq_true p249
                  replace q249 := eq_true q249
                  go_wp2
                  go_roundg k3
                  case measure => have := HK1.out; have := HK2.out; have := HK3.out; omega
                  case rel => exact ⟨(x5_3), (wrap64 (x7_2 - 1)), (by first | rfl | (simp; done) | (simp [*]; done)), H', ⟨by have := HK1.out; have := HK2.out; have := HK3.out; omega⟩, ⟨by (with_reducible repeat (first | apply Kd.R_alloc | apply Kd.R_drewN | apply Kd.R_drew)); exact HO_5.out⟩, ⟨by (with_reducible repeat (first | refine blk_drewN ?_ _ | refine blk_drew ?_ | refine blk_alloc ?_ _)); exact BK240.out⟩, ⟨by (with_reducible repeat (first | refine blk_drewN ?_ _ | refine blk_drew ?_ | refine blk_alloc ?_ _)); exact BK241.out⟩, ⟨by repeat (first | (with_reducible first | exact HB.out | apply below_alloc | apply pw_below_drewN | apply below_drew1 | refine below_set ?_ GE240.out | refine below_set ?_ GE241.out) | exact HB.out)⟩⟩
                ·rw [if_neg c32] at H
                 exact absurd H (by simp)
               ·rw [if_neg c31] at H
                exact absurd H (by simp)
              ·rw [if_neg c29] at H
               have c29b0 : decide (x8_3 < ((rd_L4 l0_1 x7_2).length : Int)) = false := decide_eq_false c29
               clear c29
               have H' := Aside0.mk H
               clear H
               have hnb47 := NB240_241.out
               have hnc47 := NB241_240.out
               have hcz48_0 : wr.cell? ⟨gb240, 0, none⟩ = some (.slice A0_0 l0_0.length c0_0) := (blk_cell BK240.out 0).trans rfl
               have hcz48_1 : wr.cell? ⟨gb240, 1, none⟩ = some (.slice A0_1 l0_1.length c0_1) := (blk_cell BK240.out 1).trans rfl
               have hcz48_2 : wr.cell? ⟨gb240, 2, none⟩ = some (.slice A0_2 l0_2.length c0_2) := (blk_cell BK240.out 2).trans rfl
               have hfz48_0 := blk_frozen BK240.out 0
               have hfz48_1 := blk_frozen BK240.out 1
               have hfz48_2 := blk_frozen BK240.out 2
               have p248 : 0 ≤ (x7_2 : Int) := of_decide_eq_true (by first | (with_reducible assumption) | assumption)
               have q248 : x7_2 < (l0_1.length : Int) := of_decide_eq_true (by first | (with_reducible assumption) | assumption)
               obtain ⟨ad248, A248_0, c248_0, e248, hx248_0, hl248_0, hi248_0⟩ := at_L4 HR0_1.out x7_2 p248 q248
               cases e248
               replace hx248_0 := (HB.out.cell (World.block_lt_of_cell? w _ hx248_0)).trans hx248_0
               have HR248_0 := Aside0.mk hi248_0
               have HC248_0 := Aside0.mk hl248_0
               clear hi248_0 hl248_0
               replace p248 := eq_true p248
               replace q248 := eq_true q248
               go_wp2
               go_roundg k3
               case measure => have := HK1.out; have := HK2.out; have := HK3.out; omega
               case rel => exact ⟨(x5_3), (wrap64 (x7_2 - 1)), (by first | rfl | (simp; done) | (simp [*]; done)), H', ⟨by have := HK1.out; have := HK2.out; have := HK3.out; omega⟩, ⟨by (with_reducible repeat (first | apply Kd.R_alloc | apply Kd.R_drewN | apply Kd.R_drew)); exact HO_5.out⟩, ⟨by (with_reducible repeat (first | refine blk_drewN ?_ _ | refine blk_drew ?_ | refine blk_alloc ?_ _)); exact BK240.out⟩, ⟨by (with_reducible repeat (first | refine blk_drewN ?_ _ | refine blk_drew ?_ | refine blk_alloc ?_ _)); exact BK241.out⟩, ⟨by repeat (first | (with_reducible first | exact HB.out | apply below_alloc | apply pw_below_drewN | apply below_drew1 | refine below_set ?_ GE240.out | refine below_set ?_ GE241.out) | exact HB.out)⟩⟩
             ·rw [if_neg c28] at H
              exact absurd H (by simp)
            ·rw [if_neg c27] at H
             exact absurd H (by simp)
         ·rw [if_neg c26] at H
          have c26b0 : decide (0 ≤ x7_2) = false := decide_eq_false c26
          clear c26
          by_cases c49 : 0 ≤ (x5_2.length : Int)
          ·rw [if_pos c49] at H
           have c49b0 := eq_true c49
           have c49b1 : decide (0 ≤ (x5_2.length : Int)) = true := decide_eq_true c49
           clear c49
           by_cases c50 : ((x5_2.length : Int) : Int).toNat ≤ 35184372088832
           ·rw [if_pos c50] at H
            have c50b0 := eq_true c50
            have c50b1 : decide (((x5_2.length : Int) : Int).toNat ≤ 35184372088832) = true := decide_eq_true c50
            clear c50
            obtain ⟨y253, hy253⟩ : ∃ y_ : List Int, y_ = (List.replicate ((x5_2.length : Int) : Int).toNat 0) := ⟨_, rfl⟩
            replace H : (recoupref21_Trim.l3 k2 (l0_0.length : Int) x5_2 y253 0 0 l0_0 l0_1 l0_2) = some (r1, r2, r3, r4) := by first | (rw [hy253]; with_reducible exact H) | (have H2_ := (Option.bind_some _ _).symm.trans H; rw [hy253]; with_reducible exact H2_) | (have H2_ := (Option.bind_some _ _).symm.trans H; with_reducible exact H2_) | with_reducible exact H | (rw [hy253]; exact H) | exact H
            have Ny253 := Aside0.mk hy253
            clear hy253
            have H' := Aside0.mk H
            clear H
            obtain ⟨Ao51, co51, eo51⟩ := Kd.R_slice HO_5.out
            subst eo51
            go_wp2_with (first | ((with_reducible refine gate_dst (N := 84) rfl ?_); refine Kd.R_make (Kd.int .i64) _ 3 rfl (N := 84) rfl 22 _ _ rfl (x5_2.length : Int) rfl rfl Try.underlying22 (.int .i64 0) 8 info3 rfl (by decide) (by omega) 0 (ok := fun _ => True) (okp := fun _ => True) rfl (fun _ hk => hk) trivial (of_decide_eq_true (by first | (with_reducible assumption) | assumption)) (Nat.le_trans (Nat.mul_le_mul_right _ (of_decide_eq_true (by first | (with_reducible assumption) | assumption) : (x5_2.length : Int).toNat ≤ 35184372088832)) (by omega)) (Below.refl _ _) (Nat.le_refl _) ?_; intro v254 w52 ho53 hb hg_ hnew_; clear hg_ hnew_; (first | rw [← Ny253.out] at ho53 | (simp only [Int.reduceToNat] at ho53; rw [← Ny253.out] at ho53)); have n0_ := Aside0.mk (Kd.R_below (by (with_reducible repeat (first | apply Kd.R_alloc | apply Kd.R_drewN | apply Kd.R_drew)); exact HO_5.out) hb); have n1_ := Aside0.mk (Kd.R_lower ho53 (below_size (by repeat (first | (with_reducible first | exact HB.out | apply below_alloc | apply pw_below_drewN | apply below_drew1 | refine below_set ?_ GE240.out | refine below_set ?_ GE241.out) | exact HB.out)))); have n2_ := Aside0.mk (blk_below (g := gb240) (o := .cells #[.slice A0_0 l0_0.length c0_0, .slice A0_1 l0_1.length c0_1, .slice A0_2 l0_2.length c0_2] 25 (0, 0)) (by (with_reducible repeat (first | refine blk_drewN ?_ _ | refine blk_drew ?_ | refine blk_alloc ?_ _)); exact BK240.out) hb); have n3_ := Aside0.mk (blk_below (g := gb241) (o := .cells #[.slice none 0 0, .slice none 0 0, .slice none 0 0] 25 (0, 0)) (by (with_reducible repeat (first | refine blk_drewN ?_ _ | refine blk_drew ?_ | refine blk_alloc ?_ _)); exact BK241.out) hb); have n4_ := Aside0.mk (below_step (by repeat (first | (with_reducible first | exact HB.out | apply below_alloc | apply pw_below_drewN | apply below_drew1 | refine below_set ?_ GE240.out | refine below_set ?_ GE241.out) | exact HB.out)) hb); clear HO_5; clear BK240; clear BK241; clear HB; have HO_5 := n0_; have HO255 := n1_; have BK240 := n2_; have BK241 := n3_; have HB := n4_; clear n0_ n1_ n2_ n3_ n4_; clear hb ho53))
            go_loopg [10, 11] k2 (fun kq v10 v11 w' => ∃ (x9_3 : List Int) (x10_3 : Int) (x11_3 : Int), v10 = .int .i64 x10_3 ∧ v11 = .int .i64 x11_3 ∧ Aside0 (recoupref21_Trim.l3 kq (l0_0.length : Int) x5_2 x9_3 x10_3 x11_3 l0_0 l0_1 l0_2 = some (r1, r2, r3, r4)) ∧ Aside0 (kq ≤ k2) ∧ Aside0 (Kd.R Kd.bool 4 w' w.heap.size (fun _ => True) (.slice Ao51 x5_2.length co51) x5_2) ∧ Aside0 (Kd.R (Kd.int .i64) 3 w' w.heap.size (fun _ => True) v254 x9_3) ∧ Aside0 (w'.heap[gb240]? = some (.cells #[(.slice A0_0 l0_0.length c0_0), (.slice A0_1 l0_1.length c0_1), (.slice A0_2 l0_2.length c0_2)] 25 (0, 0))) ∧ Aside0 (w'.heap[gb241]? = some (.cells #[(.slice none 0 0), (.slice none 0 0), (.slice none 0 0)] 25 (0, 0))) ∧ Aside0 (Below w.heap.size w w'))
            case atStart => exact ⟨(y253), (0), (0), (by first | rfl | (simp; done) | (simp [*]; done)), (by first | rfl | (simp; done) | (simp [*]; done)), H', ⟨Nat.le_refl _⟩, ⟨by (with_reducible repeat (first | apply Kd.R_alloc | apply Kd.R_drewN | apply Kd.R_drew)); exact HO_5.out⟩, ⟨by (with_reducible repeat (first | apply Kd.R_alloc | apply Kd.R_drewN | apply Kd.R_drew)); exact HO255.out⟩, ⟨by (with_reducible repeat (first | refine blk_drewN ?_ _ | refine blk_drew ?_ | refine blk_alloc ?_ _)); exact BK240.out⟩, ⟨by (with_reducible repeat (first | refine blk_drewN ?_ _ | refine blk_drew ?_ | refine blk_alloc ?_ _)); exact BK241.out⟩, ⟨by repeat (first | (with_reducible first | exact HB.out | apply below_alloc | apply pw_below_drewN | apply below_drew1 | refine below_set ?_ GE240.out | refine below_set ?_ GE241.out) | exact HB.out)⟩⟩
            case round =>
             clear H'
             try clear c1
             try clear p1
             try clear q1
             try clear hx1
             try clear hf1
             try clear c2
             try clear p2
             try clear q2
             try clear hx2
             try clear c3
             try clear p3
             try clear q3
             try clear hx3
             try clear hf3
             try clear c4
             try clear c5
             try clear c5b0
             try clear c5b1
             try clear c6
             try clear c6b0
             try clear c6b1
             try clear p6
             try clear c9
             try clear c12
             try clear c15
             try clear c15b0
             try clear c16
             try clear c16b0
             try clear c17
             try clear c17b0
             try clear c18
             try clear c18b0
             try clear c19
             try clear p19
             try clear q19
             try clear hx19
             try clear hf19
             try clear c20
             try clear c24
             try clear p24
             try clear q24
             try clear hx24
             try clear c25
             try clear p25
             try clear q25
             try clear hx25
             try clear c26
             try clear c26b0
             try clear c27
             try clear c27b0
             try clear c28
             try clear c28b0
             try clear c29
             try clear c29b0
             try clear c31
             try clear c31b0
             try clear c32
             try clear c32b0
             try clear q33
             try clear c34
             try clear c35
             try clear c35b0
             try clear c36
             try clear c36b0
             try clear c37
             try clear c37b0
             try clear p38
             try clear q38
             try clear hx38
             try clear hf38
             try clear c39
             try clear c44
             try clear c47
             try clear c49
             try clear c49b0
             try clear c49b1
             try clear c50
             try clear c50b0
             try clear c50b1
             try clear hcz10_0
             try clear hcz10_1
             try clear hcz10_2
             try clear hcz12_0
             try clear hcz12_1
             try clear hcz12_2
             try clear hcz21_0
             try clear hcz21_1
             try clear hcz21_2
             try clear hcz25_0
             try clear hcz25_1
             try clear hcz25_2
             try clear hcz40_0
             try clear hcz40_1
             try clear hcz40_2
             try clear hcz45_0
             try clear hcz45_1
             try clear hcz45_2
             try clear hcz48_0
             try clear hcz48_1
             try clear hcz48_2
             try clear hfz10_0
             try clear hfz10_1
             try clear hfz10_2
             try clear hfz12_0
             try clear hfz12_1
             try clear hfz12_2
             try clear hfz21_0
             try clear hfz21_1
             try clear hfz21_2
             try clear hfz25_0
             try clear hfz25_1
             try clear hfz25_2
             try clear hfz40_0
             try clear hfz40_1
             try clear hfz40_2
             try clear hfz45_0
             try clear hfz45_1
             try clear hfz45_2
             try clear hfz48_0
             try clear hfz48_1
             try clear hfz48_2
             try clear hx19_0
             try clear hx246_0
             try clear hx248_0
             try clear hx249_0
             try clear hx250_0
             try clear hx251_0
             try clear hx251_1
             try clear hx38_0
             try clear p1
             try clear p19
             try clear p2
             try clear p24
             try clear p246
             try clear p248
             try clear p249
             try clear p250
             try clear p251
             try clear p38
             try clear p6
             try clear q1
             try clear q19
             try clear q2
             try clear q24
             try clear q246
             try clear q248
             try clear q249
             try clear q250
             try clear q251
             try clear q38
             obtain ⟨x9_3, x10_3, x11_3, rfl, rfl, HA, HK3, HO_5, HO_9, BK240, BK241, HB⟩ := hrel
             cases gk with
             | zero => exact absurd HA.out (by simp [recoupref21_Trim.l3])
             | succ k3 =>
              have H := HA.out
              clear HA
              simp only [recoupref21_Trim.l3] at H
              by_cases c54 : x11_3 < (x5_2.length : Int)
              ·rw [if_pos c54] at H
               have c54b0 : decide (x11_3 < (x5_2.length : Int)) = true := decide_eq_true c54
               clear c54
               by_cases c55 : 0 ≤ x11_3
               ·rw [if_pos c55] at H
                have c55b0 : decide (0 ≤ x11_3) = true := decide_eq_true c55
                clear c55
                by_cases c56 : x11_3 < (x9_3.length : Int)
                ·rw [if_pos c56] at H
                 have c56b0 : decide (x11_3 < (x9_3.length : Int)) = true := decide_eq_true c56
                 clear c56
                 obtain ⟨y256, hy256⟩ : ∃ y_ : List Int, y_ = (x9_3.set (x11_3 : Int).toNat x10_3) := ⟨_, rfl⟩
                 replace H : (if rdOf false x5_2 x11_3 = true then (recoupref21_Trim.l3 k3 (l0_0.length : Int) x5_2 y256 (wrap64 (x10_3 + 1)) (wrap64 (x11_3 + 1)) l0_0 l0_1 l0_2) else (recoupref21_Trim.l3 k3 (l0_0.length : Int) x5_2 y256 x10_3 (wrap64 (x11_3 + 1)) l0_0 l0_1 l0_2)) = some (r1, r2, r3, r4) := by first | (rw [hy256]; with_reducible exact H) | (have H2_ := (Option.bind_some _ _).symm.trans H; rw [hy256]; with_reducible exact H2_) | (have H2_ := (Option.bind_some _ _).symm.trans H; with_reducible exact H2_) | with_reducible exact H | (rw [hy256]; exact H) | exact H
                 have Ny256 := Aside0.mk hy256
                 clear hy256
                 obtain ⟨bq58, hbq58⟩ : ∃ b_ : Bool, b_ = (rdOf false x5_2 x11_3) := ⟨_, rfl⟩
                 replace H : (if bq58 = true then (recoupref21_Trim.l3 k3 (l0_0.length : Int) x5_2 y256 (wrap64 (x10_3 + 1)) (wrap64 (x11_3 + 1)) l0_0 l0_1 l0_2) else (recoupref21_Trim.l3 k3 (l0_0.length : Int) x5_2 y256 x10_3 (wrap64 (x11_3 + 1)) l0_0 l0_1 l0_2)) = some (r1, r2, r3, r4) := by rw [← hbq58] at H; exact H
                 have Nbq58 := Aside0.mk hbq58
                 clear hbq58
                 by_cases c59 : bq58 = true
                 ·subst c59
                  have H1 : (recoupref21_Trim.l3 k3 (l0_0.length : Int) x5_2 y256 (wrap64 (x10_3 + 1)) (wrap64 (x11_3 + 1)) l0_0 l0_1 l0_2) = some (r1, r2, r3, r4) := by rw [if_pos rfl] at H; exact H
                  clear H
                  have H := H1
                  clear H1
                  have H' := Aside0.mk H
                  clear H
                  have p57 : 0 ≤ (x11_3 : Int) := of_decide_eq_true (by first | (with_reducible assumption) | assumption)
                  have q57 : (x11_3 : Int) < ((x9_3.length : Int) : Int) := of_decide_eq_true (by first | (with_reducible assumption) | assumption)
                  obtain ⟨go57, co57, eo57, gb57, gl57, cl57, HG57⟩ := Kd.R_form HO_9.out (by omega)
                  (first | cases eo57 | (injection eo57 with ea_ en_ ec_; (first | subst ea_ | (injection ea_ with ea_; subst ea_)); subst ec_; clear en_))
                  have GB57 := Aside0.mk gb57
                  have GG57 := Aside0.mk HG57
                  clear gb57 gl57 HG57
                  obtain ⟨hx57_0, hf57_0⟩ := Kd.R_celln 0 HO_9.out (x11_3 : Int) p57 q57
                  replace p57 := eq_true p57
                  replace q57 := eq_true q57
                  have HP60 := Kd.R_putg HO_9.out (x11_3 : Int) x10_3
                  go_wp2_with (first | ((with_reducible refine gate_store (t := 3) (p := 94) rfl ?_); refine store_event (t := 3) (p := 94) (v := ?vo_w61) (w1 := (wr.setCell ⟨go57, (x11_3 : Int).toNat, none⟩ (.int .i64 x10_3))) ?hg ?ho ?hn ?hr ?_; (case ho => rfl); (case hg => rfl); (case hn => rfl); (case hr => first | (go_simp; done) | (go_simp; rfl)); intro w61 hw; have hg : wr.grownBy w61 (some go57) := (by rw [hw]; exact HP60.2); have hp_ : Kd.R (Kd.int .i64) 3 w61 w.heap.size (fun _ => True) (.slice (some ⟨go57, 0, none⟩) x9_3.length co57) y256 := (by rw [hw, Ny256.out]; exact HP60.1); clear HP60; have n0_ := Aside0.mk (Kd.R_over' (v := (.slice (some ⟨go57, 0, none⟩) x9_3.length co57)) (by (with_reducible repeat (first | apply Kd.R_alloc | apply Kd.R_drewN | apply Kd.R_drew)); exact HO_5.out) (Kd.R_typed HO_9.out) (by decide) hg); have n1_ := Aside0.mk (hp_); have n2_ := Aside0.mk (blk_grown (g := gb240) (o := .cells #[.slice A0_0 l0_0.length c0_0, .slice A0_1 l0_1.length c0_1, .slice A0_2 l0_2.length c0_2] 25 (0, 0)) (by (with_reducible repeat (first | refine blk_drewN ?_ _ | refine blk_drew ?_ | refine blk_alloc ?_ _)); exact BK240.out) hg (Kd.R_ne HO_9.out BK240.out (by decide))); have n3_ := Aside0.mk (blk_grown (g := gb241) (o := .cells #[.slice none 0 0, .slice none 0 0, .slice none 0 0] 25 (0, 0)) (by (with_reducible repeat (first | refine blk_drewN ?_ _ | refine blk_drew ?_ | refine blk_alloc ?_ _)); exact BK241.out) hg (Kd.R_ne HO_9.out BK241.out (by decide))); have n4_ := Aside0.mk ((by rw [hw]; exact below_set (HB.out) GB57.out : Below w.heap.size w w61)); clear HO_5; clear HO_9; clear BK240; clear BK241; clear HB; have HO_5 := n0_; have HO_9 := n1_; have BK240 := n2_; have BK241 := n3_; have HB := n4_; clear n0_ n1_ n2_ n3_ n4_; clear hg hw hp_; have p257 : 0 ≤ (x11_3 : Int) := of_decide_eq_true (by first | (with_reducible assumption) | assumption); have q257 : x11_3 < (x5_2.length : Int) := of_decide_eq_true (by first | (with_reducible assumption) | assumption); obtain ⟨ad257, e257, hx257_0⟩ := Kd.at_bool (Kd.R_reads' HO_5.out).2.2 x11_3 p257 q257; (try rw [← Nbq58.out] at hx257_0); cases e257; replace p257 := eq_true p257; replace q257 := eq_true q257))
                  go_roundg k3
                  case measure => have := HK1.out; have := HK2.out; have := HK3.out; omega
                  case rel => exact ⟨(y256), (wrap64 (x10_3 + 1)), (wrap64 (x11_3 + 1)), (by first | rfl | (simp; done) | (simp [*]; done)), (by first | rfl | (simp; done) | (simp [*]; done)), H', ⟨by have := HK1.out; have := HK2.out; have := HK3.out; omega⟩, ⟨by (with_reducible repeat (first | apply Kd.R_alloc | apply Kd.R_drewN | apply Kd.R_drew)); exact HO_5.out⟩, ⟨by (with_reducible repeat (first | apply Kd.R_alloc | apply Kd.R_drewN | apply Kd.R_drew)); exact HO_9.out⟩, ⟨by (with_reducible repeat (first | refine blk_drewN ?_ _ | refine blk_drew ?_ | refine blk_alloc ?_ _)); exact BK240.out⟩, ⟨by (with_reducible repeat (first | refine blk_drewN ?_ _ | refine blk_drew ?_ | refine blk_alloc ?_ _)); exact BK241.out⟩, ⟨by repeat (first | (with_reducible first | exact HB.out | apply below_alloc | apply pw_below_drewN | apply below_drew1 | refine below_set ?_ GE240.out | refine below_set ?_ GE241.out) | exact HB.out)⟩⟩
                 ·replace c59 := Bool.eq_false_iff.mpr c59
                  subst c59
                  have H1 : (recoupref21_Trim.l3 k3 (l0_0.length : Int) x5_2 y256 x10_3 (wrap64 (x11_3 + 1)) l0_0 l0_1 l0_2) = some (r1, r2, r3, r4) := by rw [if_neg (show ¬ (false = true) by decide)] at H; exact H
                  clear H
                  have H := H1
                  clear H1
                  have H' := Aside0.mk H
                  clear H
                  have p57 : 0 ≤ (x11_3 : Int) := of_decide_eq_true (by first | (with_reducible assumption) | assumption)
                  have q57 : (x11_3 : Int) < ((x9_3.length : Int) : Int) := of_decide_eq_true (by first | (with_reducible assumption) | assumption)
                  obtain ⟨go57, co57, eo57, gb57, gl57, cl57, HG57⟩ := Kd.R_form HO_9.out (by omega)
                  (first | cases eo57 | (injection eo57 with ea_ en_ ec_; (first | subst ea_ | (injection ea_ with ea_; subst ea_)); subst ec_; clear en_))
                  have GB57 := Aside0.mk gb57
                  have GG57 := Aside0.mk HG57
                  clear gb57 gl57 HG57
                  obtain ⟨hx57_0, hf57_0⟩ := Kd.R_celln 0 HO_9.out (x11_3 : Int) p57 q57
                  replace p57 := eq_true p57
                  replace q57 := eq_true q57
                  have HP62 := Kd.R_putg HO_9.out (x11_3 : Int) x10_3
                  go_wp2_with (first | ((with_reducible refine gate_store (t := 3) (p := 94) rfl ?_); refine store_event (t := 3) (p := 94) (v := ?vo_w63) (w1 := (wr.setCell ⟨go57, (x11_3 : Int).toNat, none⟩ (.int .i64 x10_3))) ?hg ?ho ?hn ?hr ?_; (case ho => rfl); (case hg => rfl); (case hn => rfl); (case hr => first | (go_simp; done) | (go_simp; rfl)); intro w63 hw; have hg : wr.grownBy w63 (some go57) := (by rw [hw]; exact HP62.2); have hp_ : Kd.R (Kd.int .i64) 3 w63 w.heap.size (fun _ => True) (.slice (some ⟨go57, 0, none⟩) x9_3.length co57) y256 := (by rw [hw, Ny256.out]; exact HP62.1); clear HP62; have n0_ := Aside0.mk (Kd.R_over' (v := (.slice (some ⟨go57, 0, none⟩) x9_3.length co57)) (by (with_reducible repeat (first | apply Kd.R_alloc | apply Kd.R_drewN | apply Kd.R_drew)); exact HO_5.out) (Kd.R_typed HO_9.out) (by decide) hg); have n1_ := Aside0.mk (hp_); have n2_ := Aside0.mk (blk_grown (g := gb240) (o := .cells #[.slice A0_0 l0_0.length c0_0, .slice A0_1 l0_1.length c0_1, .slice A0_2 l0_2.length c0_2] 25 (0, 0)) (by (with_reducible repeat (first | refine blk_drewN ?_ _ | refine blk_drew ?_ | refine blk_alloc ?_ _)); exact BK240.out) hg (Kd.R_ne HO_9.out BK240.out (by decide))); have n3_ := Aside0.mk (blk_grown (g := gb241) (o := .cells #[.slice none 0 0, .slice none 0 0, .slice none 0 0] 25 (0, 0)) (by (with_reducible repeat (first | refine blk_drewN ?_ _ | refine blk_drew ?_ | refine blk_alloc ?_ _)); exact BK241.out) hg (Kd.R_ne HO_9.out BK241.out (by decide))); have n4_ := Aside0.mk ((by rw [hw]; exact below_set (HB.out) GB57.out : Below w.heap.size w w63)); clear HO_5; clear HO_9; clear BK240; clear BK241; clear HB; have HO_5 := n0_; have HO_9 := n1_; have BK240 := n2_; have BK241 := n3_; have HB := n4_; clear n0_ n1_ n2_ n3_ n4_; clear hg hw hp_; have p257 : 0 ≤ (x11_3 : Int) := of_decide_eq_true (by first | (with_reducible assumption) | assumption); have q257 : x11_3 < (x5_2.length : Int) := of_decide_eq_true (by first | (with_reducible assumption) | assumption); obtain ⟨ad257, e257, hx257_0⟩ := Kd.at_bool (Kd.R_reads' HO_5.out).2.2 x11_3 p257 q257; (try rw [← Nbq58.out] at hx257_0); cases e257; replace p257 := eq_true p257; replace q257 := eq_true q257))
                  go_roundg k3
                  case measure => have := HK1.out; have := HK2.out; have := HK3.out; omega
                  case rel => exact ⟨(y256), (x10_3), (wrap64 (x11_3 + 1)), (by first | rfl | (simp; done) | (simp [*]; done)), (by first | rfl | (simp; done) | (simp [*]; done)), H', ⟨by have := HK1.out; have := HK2.out; have := HK3.out; omega⟩, ⟨by (with_reducible repeat (first | apply Kd.R_alloc | apply Kd.R_drewN | apply Kd.R_drew)); exact HO_5.out⟩, ⟨by (with_reducible repeat (first | apply Kd.R_alloc | apply Kd.R_drewN | apply Kd.R_drew)); exact HO_9.out⟩, ⟨by (with_reducible repeat (first | refine blk_drewN ?_ _ | refine blk_drew ?_ | refine blk_alloc ?_ _)); exact BK240.out⟩, ⟨by (with_reducible repeat (first | refine blk_drewN ?_ _ | refine blk_drew ?_ | refine blk_alloc ?_ _)); exact BK241.out⟩, ⟨by repeat (first | (with_reducible first | exact HB.out | apply below_alloc | apply pw_below_drewN | apply below_drew1 | refine below_set ?_ GE240.out | refine below_set ?_ GE241.out) | exact HB.out)⟩⟩
                ·rw [if_neg c56] at H
                 exact absurd H (by simp)
               ·rw [if_neg c55] at H
                exact absurd H (by simp)
              ·rw [if_neg c54] at H
               have c54b0 : decide (x11_3 < (x5_2.length : Int)) = false := decide_eq_false c54
               clear c54
               have H' := Aside0.mk H
               clear H
               go_wp2_with (first | ((with_reducible refine gate_dst (N := 12) rfl ?_); refine box_event ?hg (N := 12) ?hd (cs := #[.slice none 0 0, .slice none 0 0, .slice none 0 0]) (t := 25) ?hr ?_; (case hd => rfl); (case hg => rfl); (case hr => first | (go_simp; done) | (go_simp; rfl)); intro gb258 hg w64 hbox hb; have n0_ := Aside0.mk (Kd.R_below (by (with_reducible repeat (first | apply Kd.R_alloc | apply Kd.R_drewN | apply Kd.R_drew)); exact HO_5.out) hb); have n1_ := Aside0.mk (Kd.R_below (by (with_reducible repeat (first | apply Kd.R_alloc | apply Kd.R_drewN | apply Kd.R_drew)); exact HO_9.out) hb); have n2_ := Aside0.mk (blk_below (g := gb240) (o := .cells #[.slice A0_0 l0_0.length c0_0, .slice A0_1 l0_1.length c0_1, .slice A0_2 l0_2.length c0_2] 25 (0, 0)) (by (with_reducible repeat (first | refine blk_drewN ?_ _ | refine blk_drew ?_ | refine blk_alloc ?_ _)); exact BK240.out) hb); have n3_ := Aside0.mk (blk_below (g := gb241) (o := .cells #[.slice none 0 0, .slice none 0 0, .slice none 0 0] 25 (0, 0)) (by (with_reducible repeat (first | refine blk_drewN ?_ _ | refine blk_drew ?_ | refine blk_alloc ?_ _)); exact BK241.out) hb); have n4_ := Aside0.mk (below_step (by repeat (first | (with_reducible first | exact HB.out | apply below_alloc | apply pw_below_drewN | apply below_drew1 | refine below_set ?_ GE240.out | refine below_set ?_ GE241.out) | exact HB.out)) hb); have n5_ := Aside0.mk (hbox); have n6_ := Aside0.mk ((by rw [hg]; exact (below_size (by repeat (first | (with_reducible first | exact HB.out | apply below_alloc | apply pw_below_drewN | apply below_drew1 | refine below_set ?_ GE240.out | refine below_set ?_ GE241.out) | exact HB.out))) : w.heap.size ≤ gb258)); have n7_ := Aside0.mk ((by rw [hg]; exact (below_size (by repeat (first | (with_reducible first | exact HB.out | apply below_alloc | apply pw_below_drewN | apply below_drew1 | refine below_set ?_ GE240.out | refine below_set ?_ GE241.out) | exact HB.out))) : w.heap.size ≤ gb258)); have n8_ := Aside0.mk ((by rw [hg]; exact Nat.ne_of_lt (blk_lt (g := gb240) (o := .cells #[.slice A0_0 l0_0.length c0_0, .slice A0_1 l0_1.length c0_1, .slice A0_2 l0_2.length c0_2] 25 (0, 0)) (by (with_reducible repeat (first | refine blk_drewN ?_ _ | refine blk_drew ?_ | refine blk_alloc ?_ _)); exact BK240.out)) : gb240 ≠ gb258)); have n9_ := Aside0.mk ((by rw [hg]; exact Nat.ne_of_gt (blk_lt (g := gb240) (o := .cells #[.slice A0_0 l0_0.length c0_0, .slice A0_1 l0_1.length c0_1, .slice A0_2 l0_2.length c0_2] 25 (0, 0)) (by (with_reducible repeat (first | refine blk_drewN ?_ _ | refine blk_drew ?_ | refine blk_alloc ?_ _)); exact BK240.out)) : gb258 ≠ gb240)); have n10_ := Aside0.mk ((by rw [hg]; exact Nat.ne_of_lt (blk_lt (g := gb241) (o := .cells #[.slice none 0 0, .slice none 0 0, .slice none 0 0] 25 (0, 0)) (by (with_reducible repeat (first | refine blk_drewN ?_ _ | refine blk_drew ?_ | refine blk_alloc ?_ _)); exact BK241.out)) : gb241 ≠ gb258)); have n11_ := Aside0.mk ((by rw [hg]; exact Nat.ne_of_gt (blk_lt (g := gb241) (o := .cells #[.slice none 0 0, .slice none 0 0, .slice none 0 0] 25 (0, 0)) (by (with_reducible repeat (first | refine blk_drewN ?_ _ | refine blk_drew ?_ | refine blk_alloc ?_ _)); exact BK241.out)) : gb258 ≠ gb241)); clear HO_5; clear HO_9; clear BK240; clear BK241; clear HB; have HO_5 := n0_; have HO_9 := n1_; have BK240 := n2_; have BK241 := n3_; have HB := n4_; have BK258 := n5_; have GW258 := n6_; have GE258 := n7_; have NB240_258 := n8_; have NB258_240 := n9_; have NB241_258 := n10_; have NB258_241 := n11_; clear n0_ n1_ n2_ n3_ n4_ n5_ n6_ n7_ n8_ n9_ n10_ n11_; clear hb hbox hg))
               go_loopg [13] k3 (fun kq v13 w' => ∃ (x13_4 : Int) (x259000_4 : List Int) (u259000 : Value), v13 = .int .i64 x13_4 ∧ Aside0 (recoupref21_Trim.l4 kq (l0_0.length : Int) x5_2 x9_3 x13_4 l0_0 l0_1 l0_2 x259000_4 = some (r1, r2, r3, r4)) ∧ Aside0 (kq ≤ k3) ∧ Aside0 (Kd.R Kd.bool 4 w' w.heap.size (fun _ => True) (.slice Ao51 x5_2.length co51) x5_2) ∧ Aside0 (Kd.R (Kd.int .i64) 3 w' w.heap.size (fun k_ => some k_ ≠ (u259000 : Value).ownBlock) v254 x9_3) ∧ Aside0 (Kd.R (Kd.int .i64) 3 w' w.heap.size (fun k_ => some k_ ≠ (v254 : Value).ownBlock) u259000 x259000_4) ∧ Aside0 (w'.heap[gb240]? = some (.cells #[(.slice A0_0 l0_0.length c0_0), (.slice A0_1 l0_1.length c0_1), (.slice A0_2 l0_2.length c0_2)] 25 (0, 0))) ∧ Aside0 (w'.heap[gb241]? = some (.cells #[(.slice none 0 0), (.slice none 0 0), (.slice none 0 0)] 25 (0, 0))) ∧ Aside0 (w'.heap[gb258]? = some (.cells #[u259000, (.slice none 0 0), (.slice none 0 0)] 25 (0, 0))) ∧ Aside0 (Below w.heap.size w w'))
               case atStart => exact ⟨(0), (([] : List Int)), (.slice none 0 0), (by first | rfl | (simp; done) | (simp [*]; done)), H', ⟨Nat.le_refl _⟩, ⟨by (with_reducible repeat (first | apply Kd.R_alloc | apply Kd.R_drewN | apply Kd.R_drew)); exact HO_5.out⟩, ⟨by (with_reducible repeat (first | apply Kd.R_alloc | apply Kd.R_drewN | apply Kd.R_drew)); exact Kd.R_mono HO_9.out (fun _ hk => (by simp [Value.ownBlock]))⟩, ⟨by first | exact Kd.R_nil _ _ _ _ _ | exact Kd.N_nil _ _ _ _ _ | exact Kd.V_nil _ _ _ _ _ | exact Kd.Q_nil _ _ _ _ _ | exact Kd.S_nil _ _ _ _ _⟩, ⟨by (with_reducible repeat (first | refine blk_drewN ?_ _ | refine blk_drew ?_ | refine blk_alloc ?_ _)); exact BK240.out⟩, ⟨by (with_reducible repeat (first | refine blk_drewN ?_ _ | refine blk_drew ?_ | refine blk_alloc ?_ _)); exact BK241.out⟩, ⟨by (with_reducible repeat (first | refine blk_drewN ?_ _ | refine blk_drew ?_ | refine blk_alloc ?_ _)); exact BK258.out⟩, ⟨by repeat (first | (with_reducible first | exact HB.out | apply below_alloc | apply pw_below_drewN | apply below_drew1 | refine below_set ?_ GE240.out | refine below_set ?_ GE241.out | refine below_set ?_ GE258.out) | exact HB.out)⟩⟩
               case round =>
                clear H'
                try clear c1
                try clear p1
                try clear q1
                try clear hx1
                try clear hf1
                try clear c2
                try clear p2
                try clear q2
                try clear hx2
                try clear c3
                try clear p3
                try clear q3
                try clear hx3
                try clear hf3
                try clear c4
                try clear c5
                try clear c5b0
                try clear c5b1
                try clear p5
                try clear q5
                try clear hx5
                try clear hf5
                try clear c6
                try clear c6b0
                try clear c6b1
                try clear p6
                try clear c9
                try clear c12
                try clear c15
                try clear c15b0
                try clear c16
                try clear c16b0
                try clear c17
                try clear c17b0
                try clear c18
                try clear c18b0
                try clear c19
                try clear p19
                try clear q19
                try clear hx19
                try clear hf19
                try clear c20
                try clear c24
                try clear p24
                try clear q24
                try clear hx24
                try clear c25
                try clear p25
                try clear q25
                try clear hx25
                try clear c26
                try clear c26b0
                try clear c27
                try clear c27b0
                try clear c28
                try clear c28b0
                try clear c29
                try clear c29b0
                try clear c31
                try clear c31b0
                try clear c32
                try clear c32b0
                try clear q33
                try clear c34
                try clear c35
                try clear c35b0
                try clear c36
                try clear c36b0
                try clear c37
                try clear c37b0
                try clear p38
                try clear q38
                try clear hx38
                try clear hf38
                try clear c39
                try clear c44
                try clear c47
                try clear c49
                try clear c49b0
                try clear c49b1
                try clear c50
                try clear c50b0
                try clear c50b1
                try clear c54
                try clear c54b0
                try clear c55
                try clear c55b0
                try clear c56
                try clear c56b0
                try clear p57
                try clear q57
                try clear hx57
                try clear hf57
                try clear q58
                try clear c59
                try clear p64
                try clear hcz10_0
                try clear hcz10_1
                try clear hcz10_2
                try clear hcz12_0
                try clear hcz12_1
                try clear hcz12_2
                try clear hcz21_0
                try clear hcz21_1
                try clear hcz21_2
                try clear hcz25_0
                try clear hcz25_1
                try clear hcz25_2
                try clear hcz40_0
                try clear hcz40_1
                try clear hcz40_2
                try clear hcz45_0
                try clear hcz45_1
                try clear hcz45_2
                try clear hcz48_0
                try clear hcz48_1
                try clear hcz48_2
                try clear hfz10_0
                try clear hfz10_1
                try clear hfz10_2
                try clear hfz12_0
                try clear hfz12_1
                try clear hfz12_2
                try clear hfz21_0
                try clear hfz21_1
                try clear hfz21_2
                try clear hfz25_0
                try clear hfz25_1
                try clear hfz25_2
                try clear hfz40_0
                try clear hfz40_1
                try clear hfz40_2
                try clear hfz45_0
                try clear hfz45_1
                try clear hfz45_2
                try clear hfz48_0
                try clear hfz48_1
                try clear hfz48_2
                try clear hx19_0
                try clear hx246_0
                try clear hx248_0
                try clear hx249_0
                try clear hx250_0
                try clear hx251_0
                try clear hx251_1
                try clear hx257_0
                try clear hx38_0
                try clear hx57_0
                try clear p1
                try clear p19
                try clear p2
                try clear p24
                try clear p246
                try clear p248
                try clear p249
                try clear p25
                try clear p250
                try clear p251
                try clear p257
                try clear p3
                try clear p38
                try clear p57
                try clear p6
                try clear q1
                try clear q19
                try clear q2
                try clear q24
                try clear q246
                try clear q248
                try clear q249
                try clear q25
                try clear q250
                try clear q251
                try clear q257
                try clear q3
                try clear q33
                try clear q38
                try clear q57
                obtain ⟨x13_4, x259000_4, u259000, rfl, HA, HK4, HO_5, HO_9, HO_259000, BK240, BK241, BK258, HB⟩ := hrel
                cases gk with
                | zero => exact absurd HA.out (by simp [recoupref21_Trim.l4])
                | succ k4 =>
                 have H := HA.out
                 clear HA
                 simp only [recoupref21_Trim.l4] at H
                 by_cases c65 : x13_4 < (l0_0.length : Int)
                 ·rw [if_pos c65] at H
                  have c65b0 : decide (x13_4 < (l0_0.length : Int)) = true := decide_eq_true c65
                  clear c65
                  by_cases c66 : 0 ≤ x13_4
                  ·rw [if_pos c66] at H
                   have c66b0 : decide (0 ≤ x13_4) = true := decide_eq_true c66
                   clear c66
                   by_cases c67 : x13_4 < (x5_2.length : Int)
                   ·rw [if_pos c67] at H
                    have c67b0 : decide (x13_4 < (x5_2.length : Int)) = true := decide_eq_true c67
                    clear c67
                    obtain ⟨bq68, hbq68⟩ : ∃ b_ : Bool, b_ = (rdOf false x5_2 x13_4) := ⟨_, rfl⟩
                    replace H : (if bq68 = true then (if x13_4 < (l0_0.length : Int) then (if x259000_4.length < 17592186044416 then (recoupref21_Trim.l4 k4 (l0_0.length : Int) x5_2 x9_3 (wrap64 (x13_4 + 1)) l0_0 l0_1 l0_2 (x259000_4 ++ [rd l0_0 x13_4])) else (none)) else (none)) else (recoupref21_Trim.l4 k4 (l0_0.length : Int) x5_2 x9_3 (wrap64 (x13_4 + 1)) l0_0 l0_1 l0_2 x259000_4)) = some (r1, r2, r3, r4) := by rw [← hbq68] at H; exact H
                    have Nbq68 := Aside0.mk hbq68
                    clear hbq68
                    by_cases c69 : bq68 = true
                    ·subst c69
                     have H1 : (if x13_4 < (l0_0.length : Int) then (if x259000_4.length < 17592186044416 then (recoupref21_Trim.l4 k4 (l0_0.length : Int) x5_2 x9_3 (wrap64 (x13_4 + 1)) l0_0 l0_1 l0_2 (x259000_4 ++ [rd l0_0 x13_4])) else (none)) else (none)) = some (r1, r2, r3, r4) := by rw [if_pos rfl] at H; exact H
                     clear H
                     have H := H1
                     clear H1
                     by_cases c70 : x13_4 < (l0_0.length : Int)
                     ·rw [if_pos c70] at H
                      have c70b0 : decide (x13_4 < (l0_0.length : Int)) = true := decide_eq_true c70
                      clear c70
                      by_cases c71 : x259000_4.length < 17592186044416
                      ·rw [if_pos c71] at H
                       have LMc71 := Aside0.mk c71
                       clear c71
                       obtain ⟨y261, hy261⟩ : ∃ y_ : List Int, y_ = (x259000_4 ++ [rd l0_0 x13_4]) := ⟨_, rfl⟩
                       replace H : (recoupref21_Trim.l4 k4 (l0_0.length : Int) x5_2 x9_3 (wrap64 (x13_4 + 1)) l0_0 l0_1 l0_2 y261) = some (r1, r2, r3, r4) := by first | (rw [hy261]; with_reducible exact H) | (have H2_ := (Option.bind_some _ _).symm.trans H; rw [hy261]; with_reducible exact H2_) | (have H2_ := (Option.bind_some _ _).symm.trans H; with_reducible exact H2_) | with_reducible exact H | (rw [hy261]; exact H) | exact H
                       have Ny261 := Aside0.mk hy261
                       clear hy261
                       have H' := Aside0.mk H
                       clear H
                       have p259 : 0 ≤ (x13_4 : Int) := of_decide_eq_true (by first | (with_reducible assumption) | assumption)
                       have q259 : x13_4 < (x5_2.length : Int) := of_decide_eq_true (by first | (with_reducible assumption) | assumption)
                       obtain ⟨ad259, e259, hx259_0⟩ := Kd.at_bool (Kd.R_reads' HO_5.out).2.2 x13_4 p259 q259
                       (try rw [← Nbq68.out] at hx259_0)
                       cases e259
                       replace p259 := eq_true p259
                       replace q259 := eq_true q259
                       try go_wp2
                       have n0_ := Aside0.mk (Kd.R_drew HO_5.out)
                       have n1_ := Aside0.mk (Kd.R_drew HO_9.out)
                       have n2_ := Aside0.mk (Kd.R_drew HO_259000.out)
                       have n3_ := Aside0.mk (blk_drew BK240.out)
                       have n4_ := Aside0.mk (blk_drew BK241.out)
                       have n5_ := Aside0.mk (blk_drew BK258.out)
                       have n6_ := Aside0.mk (below_drew1 HB.out)
                       clear HO_5
                       clear HO_9
                       clear HO_259000
                       clear BK240
                       clear BK241
                       clear BK258
                       clear HB
                       have HO_5 := n0_
                       have HO_9 := n1_
                       have HO_259000 := n2_
                       have BK240 := n3_
                       have BK241 := n4_
                       have BK258 := n5_
                       have HB := n6_
                       clear n0_ n1_ n2_ n3_ n4_ n5_ n6_
                       have p260 : 0 ≤ (x13_4 : Int) := of_decide_eq_true (by first | (with_reducible assumption) | assumption)
                       have q260 : x13_4 < (l0_0.length : Int) := of_decide_eq_true (by first | (with_reducible assumption) | assumption)
                       obtain ⟨ad260, e260, hx260_0⟩ := Kd.at_int HR0_0.out x13_4 p260 q260
                       have hw260_0 := hx260_0
                       cases e260
                       replace hx260_0 := (HB.out.cell (World.block_lt_of_cell? w _ hx260_0)).trans hx260_0
                       replace p260 := eq_true p260
                       replace q260 := eq_true q260
                       refine start_ (n := 11) (S := fun w' => w'.cell? ⟨gb258, 0, none⟩ = some (u259000) ∧ w'.cell? ⟨gb258, 1, none⟩ = some (.slice none 0 0) ∧ w'.cell? ⟨gb258, 2, none⟩ = some (.slice none 0 0) ∧ w'.cell? ⟨gb240, 0, none⟩ = some (.slice (some ad260) l0_0.length c0_0) ∧ w'.cell? ⟨gb240, 1, none⟩ = some (.slice A0_1 l0_1.length c0_1) ∧ w'.cell? ⟨gb240, 2, none⟩ = some (.slice A0_2 l0_2.length c0_2) ∧ w'.cell? (ad260.add (x13_4).toNat) = some (.int .i64 (rd l0_0 x13_4))) (ds := [10]) #[false, false, false, false, false, false, false, false, false, false, false] (by kernel_rfl) rfl rfl ⟨(blk_cell BK258.out 0).trans rfl, (blk_cell BK258.out 1).trans rfl, (blk_cell BK258.out 2).trans rfl, (blk_cell BK240.out 0).trans rfl, (blk_cell BK240.out 1).trans rfl, (blk_cell BK240.out 2).trans rfl, ((HB.out.cell (World.block_lt_of_cell? w _ hw260_0)).trans hw260_0)⟩ (fun hHeld => ?_); refine with_tabW recoupref21_Trim.tab29 recoupref21_Trim.bits29 (fun HT_ HW_ => ?_)
                       generalize wr.drew = w72 at HO_5 HO_9 HO_259000 BK240 BK241 BK258 HB hx260_0 hHeld ⊢
                       refine pure_ (i := 0) (N := some 110) (v := ?_) (a' := ?_) #[true, false, false, false, false, false, false, false, false, false, false] rfl rfl (any_of HT_.out (by kernel_rfl)) (fun _ _ _ h => h) (Or.inl ⟨by rfl, ?_⟩) ?_ ?_
                       rotate_left
                       ·intro w'
                        go_simp
                        with_reducible rfl
                       rotate_left
                       ·simp only [Act.put, List.setIfInBounds_toArray, List.set_cons_zero, List.set_cons_succ, i64_w, i32_w]
                        rfl
                       refine pure_ (i := 2) (N := some 112) (v := ?_) (a' := ?_) #[true, false, true, false, false, false, false, false, false, false, false] rfl rfl (any_of HT_.out (by kernel_rfl)) (fun _ _ _ h => h) (Or.inl ⟨by rfl, ?_⟩) ?_ ?_
                       rotate_left
                       ·intro w'
                        go_simp
                        with_reducible rfl
                       rotate_left
                       ·simp only [Act.put, List.setIfInBounds_toArray, List.set_cons_zero, List.set_cons_succ, i64_w, i32_w]
                        rfl
                       refine pure_ (i := 4) (N := some 114) (v := ?_) (a' := ?_) #[true, false, true, false, true, false, false, false, false, false, false] rfl rfl (any_of HT_.out (by kernel_rfl)) (fun _ _ _ h => h) (Or.inl ⟨by rfl, ?_⟩) ?_ ?_
                       rotate_left
                       ·intro w'
                        go_simp
                        with_reducible rfl
                       rotate_left
                       ·simp only [Act.put, List.setIfInBounds_toArray, List.set_cons_zero, List.set_cons_succ, i64_w, i32_w]
                        rfl
                       refine take_ (i := 1) (N := some 111) (v := ?_) (a' := ?_) #[true, true, true, false, true, false, false, false, false, false, false] rfl rfl (take_ofW HT_.out HW_.out (by kernel_rfl)) (fun _ _ _ h => h) (Or.inl ⟨by rfl, ?_⟩) hHeld ?_ ?_
                       rotate_left
                       ·rintro w' ⟨s0, s1, s2, s3, s4, s5, s6⟩
                        go_simp
                        with_reducible rfl
                       rotate_left
                       ·simp only [Act.put, List.setIfInBounds_toArray, List.set_cons_zero, List.set_cons_succ, i64_w, i32_w]
                        rfl
                       refine take_ (i := 3) (N := some 113) (v := ?_) (a' := ?_) #[true, true, true, true, true, false, false, false, false, false, false] rfl rfl (take_ofW HT_.out HW_.out (by kernel_rfl)) (fun _ _ _ h => h) (Or.inl ⟨by rfl, ?_⟩) hHeld ?_ ?_
                       rotate_left
                       ·rintro w' ⟨s0, s1, s2, s3, s4, s5, s6⟩
                        go_simp
                        with_reducible rfl
                       rotate_left
                       ·simp only [Act.put, List.setIfInBounds_toArray, List.set_cons_zero, List.set_cons_succ, i64_w, i32_w]
                        rfl
                       refine pure_ (i := 5) (N := some 115) (v := ?_) (a' := ?_) #[true, true, true, true, true, true, false, false, false, false, false] rfl rfl (any_of HT_.out (by kernel_rfl)) (fun _ _ _ h => h) (Or.inl ⟨by rfl, ?_⟩) ?_ ?_
                       rotate_left
                       ·intro w'
                        go_simp
                        with_reducible rfl
                       rotate_left
                       ·simp only [Act.put, List.setIfInBounds_toArray, List.set_cons_zero, List.set_cons_succ, i64_w, i32_w]
                        rfl
                       refine take_ (i := 6) (N := some 116) (v := ?_) (a' := ?_) #[true, true, true, true, true, true, true, false, false, false, false] rfl rfl (take_ofW HT_.out HW_.out (by kernel_rfl)) (fun _ _ _ h => h) (Or.inl ⟨by rfl, ?_⟩) hHeld ?_ ?_
                       rotate_left
                       ·rintro w' ⟨s0, s1, s2, s3, s4, s5, s6⟩
                        go_simp
                        with_reducible rfl
                       rotate_left
                       ·simp only [Act.put, List.setIfInBounds_toArray, List.set_cons_zero, List.set_cons_succ, i64_w, i32_w]
                        rfl
                       refine one_ (i := 7) (N := some 117) #[true, true, true, true, true, true, true, true, false, false, false] rfl rfl (one_of HT_.out (by kernel_rfl)) (by decide) (fun K hK => ?_)
                       refine value_ (w1 := ?_) (v := ?_) (by rfl) rfl ?_ ?_
                       rotate_left 2
                       ·go_simp
                        constructor
                        ·rfl
                        ·rfl
                       refine hK.out _ _ ⟨(blk_cell (blk_alloc BK258.out _) 0).trans rfl, (blk_cell (blk_alloc BK258.out _) 1).trans rfl, (blk_cell (blk_alloc BK258.out _) 2).trans rfl, (blk_cell (blk_alloc BK240.out _) 0).trans rfl, (blk_cell (blk_alloc BK240.out _) 1).trans rfl, (blk_cell (blk_alloc BK240.out _) 2).trans rfl, (World.cell?_alloc_lt _ _ _ (World.block_lt_of_cell? _ _ (((HB.out.cell (World.block_lt_of_cell? w _ hw260_0)).trans hw260_0)))).trans (((HB.out.cell (World.block_lt_of_cell? w _ hw260_0)).trans hw260_0))⟩ (fun hHeld => ?_)
                       clear hK K
                       refine norm_ (a' := ?_) ?_ ?_
                       rotate_left
                       ·show Act.put _ (some 117) _ = _
                        simp only [Act.put, List.setIfInBounds_toArray, List.set_cons_zero, List.set_cons_succ, i64_w, i32_w]
                        rfl
                       refine one_ (i := 8) (N := some 118) #[true, true, true, true, true, true, true, true, true, false, false] rfl rfl (one_of HT_.out (by kernel_rfl)) (by decide) (fun K hK => ?_)
                       refine Kd.R_append_step (Kd.int .i64) (w0 := w) w.heap.size (by rfl) (.tmp 111) (.tmp 117) 22 3 (.int .i64 0) 8 rfl Try.underlying22 info3 rfl (by decide) (by omega) u259000 x259000_4 (rd l0_0 x13_4) [.int .i64 (rd l0_0 x13_4)] (fun k_ => some k_ ≠ (v254 : Value).ownBlock) (fun _ => False) rfl rfl ?aP (fun _ hk => hk.elim) ?aF ?aO ?aB ?aS ?aL ?_
                       (case aP => exact rfl)
                       (case aB => exact (by repeat (first | (with_reducible first | exact HB.out | apply below_alloc | apply pw_below_drewN | apply below_drew1 | refine below_set ?_ GE240.out | refine below_set ?_ GE241.out | refine below_set ?_ GE258.out) | exact HB.out)))
                       (case aF => exact (fun k_ hk => Kd.fresh' (Kd.R_lt (by (with_reducible repeat (first | apply Kd.R_alloc | apply Kd.R_drewN | apply Kd.R_drew)); exact HO_9.out)) k_ hk))
                       (case aO => exact (by (with_reducible repeat (first | apply Kd.R_alloc | apply Kd.R_drewN | apply Kd.R_drew)); exact HO_259000.out))
                       (case aS => exact (below_size (by repeat (first | (with_reducible first | exact HB.out | apply below_alloc | apply pw_below_drewN | apply below_drew1 | refine below_set ?_ GE240.out | refine below_set ?_ GE241.out | refine below_set ?_ GE258.out) | exact HB.out))))
                       (case aL => have := LMc71.out; omega)
                       intro v262 w73 ho hb hg hat
                       rw [← Ny261.out] at ho
                       have n0_ := Aside0.mk (Kd.R_over' (by (with_reducible repeat (first | apply Kd.R_alloc | apply Kd.R_drewN | apply Kd.R_drew)); exact HO_5.out) (Kd.R_typed (by (with_reducible repeat (first | apply Kd.R_alloc | apply Kd.R_drewN | apply Kd.R_drew)); exact HO_259000.out)) (by decide) hg)
                       have n1_ := Aside0.mk (Kd.R_after (ok := (fun _ => True)) (by (with_reducible repeat (first | apply Kd.R_alloc | apply Kd.R_drewN | apply Kd.R_drew)); exact Kd.R_mono HO_9.out (fun _ hk => ⟨trivial, hk⟩)) hg hat)
                       have n2_ := Aside0.mk (blk_grown (g := gb240) (o := .cells #[.slice (some ad260) l0_0.length c0_0, .slice A0_1 l0_1.length c0_1, .slice A0_2 l0_2.length c0_2] 25 (0, 0)) (by (with_reducible repeat (first | refine blk_drewN ?_ _ | refine blk_drew ?_ | refine blk_alloc ?_ _)); exact BK240.out) hg (Kd.R_ne HO_259000.out BK240.out (by decide)))
                       have n3_ := Aside0.mk (blk_grown (g := gb241) (o := .cells #[.slice none 0 0, .slice none 0 0, .slice none 0 0] 25 (0, 0)) (by (with_reducible repeat (first | refine blk_drewN ?_ _ | refine blk_drew ?_ | refine blk_alloc ?_ _)); exact BK241.out) hg (Kd.R_ne HO_259000.out BK241.out (by decide)))
                       have n4_ := Aside0.mk (blk_grown (g := gb258) (o := .cells #[u259000, .slice none 0 0, .slice none 0 0] 25 (0, 0)) (by (with_reducible repeat (first | refine blk_drewN ?_ _ | refine blk_drew ?_ | refine blk_alloc ?_ _)); exact BK258.out) hg (Kd.R_ne HO_259000.out BK258.out (by decide)))
                       have n5_ := Aside0.mk (hb)
                       have n6_ := Aside0.mk (ho)
                       clear HO_5
                       clear HO_9
                       clear BK240
                       clear BK241
                       clear BK258
                       clear HB
                       clear HO_259000
                       have HO_5 := n0_
                       have HO_9 := n1_
                       have BK240 := n2_
                       have BK241 := n3_
                       have BK258 := n4_
                       have HB := n5_
                       have HO263 := n6_
                       clear n0_ n1_ n2_ n3_ n4_ n5_ n6_
                       clear ho hb hg hat
                       obtain ⟨Ao74, co74, eo74⟩ := Kd.R_slice HO263.out
                       (first | subst eo74 | (injection eo74 with f1_ f2_ f3_; have f4_ := f1_.symm; have f5_ := f3_.symm; clear f1_ f2_ f3_; subst f4_; subst f5_))
                       refine hK.out _ _ ⟨(blk_cell BK258.out 0).trans rfl, (blk_cell BK258.out 1).trans rfl, (blk_cell BK258.out 2).trans rfl, (blk_cell BK240.out 0).trans rfl, (blk_cell BK240.out 1).trans rfl, (blk_cell BK240.out 2).trans rfl, ((HB.out.cell (World.block_lt_of_cell? w _ hw260_0)).trans hw260_0)⟩ (fun hHeld => ?_)
                       clear hK K
                       refine norm_ (a' := ?_) ?_ ?_
                       rotate_left
                       ·show Act.put _ (some 118) _ = _
                        simp only [Act.put, List.setIfInBounds_toArray, List.set_cons_zero, List.set_cons_succ, i64_w, i32_w]
                        rfl
                       refine pure_ (i := 9) (N := some 119) (v := ?_) (a' := ?_) #[true, true, true, true, true, true, true, true, true, true, false] rfl rfl (any_of HT_.out (by kernel_rfl)) (fun _ _ _ h => h) (Or.inl ⟨by rfl, ?_⟩) ?_ ?_
                       rotate_left
                       ·intro w'
                        go_simp
                        with_reducible rfl
                       rotate_left
                       ·simp only [Act.put, List.setIfInBounds_toArray, List.set_cons_zero, List.set_cons_succ, i64_w, i32_w]
                        rfl
                       refine last_ (i := 10) (N := none) #[true, true, true, true, true, true, true, true, true, true, true] rfl rfl (one_of HT_.out (by kernel_rfl)) (by decide) (fun K hK => ?_)
                       have hs75 : w73.cell? ⟨gb258, 0, none⟩ = some (u259000) := (blk_cell BK258.out 0).trans rfl
                       have hfs75 := blk_frozen BK258.out 0
                       have hns75_0 := NB240_258.out
                       have hns75_1 := NB241_258.out
                       have hms75_0 := NB258_240.out
                       have hms75_1 := NB258_241.out
                       refine skip_ (w1 := ?_) (by rfl) rfl ?_ ?_
                       rotate_left
                       ·go_simp
                        rfl
                       refine hK.out _ _ ?_
                       clear hK K
                       refine done_ (done_of HT_.out (by kernel_rfl)) ?_
                       try go_wp2
                       go_roundg k4
                       case measure => have := HK1.out; have := HK2.out; have := HK3.out; have := HK4.out; omega
                       case rel => exact ⟨(wrap64 (x13_4 + 1)), (y261), (.slice Ao74 y261.length co74), (by first | rfl | (simp; done) | (simp [*]; done)), H', ⟨by have := HK1.out; have := HK2.out; have := HK3.out; have := HK4.out; omega⟩, ⟨by (with_reducible repeat (first | apply Kd.R_alloc | apply Kd.R_drewN | apply Kd.R_drew)); exact Kd.R_mono (Kd.R_far (p := ⟨gb258, 0, none⟩) (Kd.R_types HO_5.out BK258.out (by decide)) (fun _ hk => hk.2) (.slice Ao74 y261.length co74)) (fun _ hk => trivial)⟩, ⟨by (with_reducible repeat (first | apply Kd.R_alloc | apply Kd.R_drewN | apply Kd.R_drew)); exact Kd.R_mono (Kd.R_far (p := ⟨gb258, 0, none⟩) (Kd.R_types HO_9.out BK258.out (by decide)) (fun _ hk => hk.2) (.slice Ao74 y261.length co74)) (fun _ hk => hk.1.2)⟩, ⟨by (with_reducible repeat (first | apply Kd.R_alloc | apply Kd.R_drewN | apply Kd.R_drew)); exact Kd.R_mono (Kd.R_far (p := ⟨gb258, 0, none⟩) (Kd.R_types HO263.out BK258.out (by decide)) (fun _ hk => hk.2) (.slice Ao74 y261.length co74)) (fun _ hk => hk.1)⟩, ⟨by (with_reducible repeat (first | refine blk_drewN ?_ _ | refine blk_drew ?_ | refine blk_alloc ?_ _)); refine blk_far ?_ NB240_258.out _; (with_reducible repeat (first | refine blk_drewN ?_ _ | refine blk_drew ?_ | refine blk_alloc ?_ _)); exact BK240.out⟩, ⟨by (with_reducible repeat (first | refine blk_drewN ?_ _ | refine blk_drew ?_ | refine blk_alloc ?_ _)); refine blk_far ?_ NB241_258.out _; (with_reducible repeat (first | refine blk_drewN ?_ _ | refine blk_drew ?_ | refine blk_alloc ?_ _)); exact BK241.out⟩, ⟨by (with_reducible repeat (first | refine blk_drewN ?_ _ | refine blk_drew ?_ | refine blk_alloc ?_ _)); refine blk_put (cs := #[u259000, .slice none 0 0, .slice none 0 0]) ?_ 0 _ rfl; (with_reducible repeat (first | refine blk_drewN ?_ _ | refine blk_drew ?_ | refine blk_alloc ?_ _)); exact BK258.out⟩, ⟨by repeat (first | (with_reducible first | exact HB.out | apply below_alloc | apply pw_below_drewN | apply below_drew1 | refine below_set ?_ GE240.out | refine below_set ?_ GE241.out | refine below_set ?_ GE258.out) | exact HB.out)⟩⟩
                      ·rw [if_neg c71] at H
                       exact absurd H (by simp)
                     ·rw [if_neg c70] at H
                      exact absurd H (by simp)
                    ·replace c69 := Bool.eq_false_iff.mpr c69
                     subst c69
                     have H1 : (recoupref21_Trim.l4 k4 (l0_0.length : Int) x5_2 x9_3 (wrap64 (x13_4 + 1)) l0_0 l0_1 l0_2 x259000_4) = some (r1, r2, r3, r4) := by rw [if_neg (show ¬ (false = true) by decide)] at H; exact H
                     clear H
                     have H := H1
                     clear H1
                     have H' := Aside0.mk H
                     clear H
                     have p259 : 0 ≤ (x13_4 : Int) := of_decide_eq_true (by first | (with_reducible assumption) | assumption)
                     have q259 : x13_4 < (x5_2.length : Int) := of_decide_eq_true (by first | (with_reducible assumption) | assumption)
                     obtain ⟨ad259, e259, hx259_0⟩ := Kd.at_bool (Kd.R_reads' HO_5.out).2.2 x13_4 p259 q259
                     (try rw [← Nbq68.out] at hx259_0)
                     cases e259
                     replace p259 := eq_true p259
                     replace q259 := eq_true q259
                     go_wp2
                     go_roundg k4
                     case measure => have := HK1.out; have := HK2.out; have := HK3.out; have := HK4.out; omega
                     case rel => exact ⟨(wrap64 (x13_4 + 1)), (x259000_4), (u259000), (by first | rfl | (simp; done) | (simp [*]; done)), H', ⟨by have := HK1.out; have := HK2.out; have := HK3.out; have := HK4.out; omega⟩, ⟨by (with_reducible repeat (first | apply Kd.R_alloc | apply Kd.R_drewN | apply Kd.R_drew)); exact HO_5.out⟩, ⟨by (with_reducible repeat (first | apply Kd.R_alloc | apply Kd.R_drewN | apply Kd.R_drew)); exact HO_9.out⟩, ⟨by (with_reducible repeat (first | apply Kd.R_alloc | apply Kd.R_drewN | apply Kd.R_drew)); exact HO_259000.out⟩, ⟨by (with_reducible repeat (first | refine blk_drewN ?_ _ | refine blk_drew ?_ | refine blk_alloc ?_ _)); exact BK240.out⟩, ⟨by (with_reducible repeat (first | refine blk_drewN ?_ _ | refine blk_drew ?_ | refine blk_alloc ?_ _)); exact BK241.out⟩, ⟨by (with_reducible repeat (first | refine blk_drewN ?_ _ | refine blk_drew ?_ | refine blk_alloc ?_ _)); exact BK258.out⟩, ⟨by repeat (first | (with_reducible first | exact HB.out | apply below_alloc | apply pw_below_drewN | apply below_drew1 | refine below_set ?_ GE240.out | refine below_set ?_ GE241.out | refine below_set ?_ GE258.out) | exact HB.out)⟩⟩
                   ·rw [if_neg c67] at H
                    exact absurd H (by simp)
                  ·rw [if_neg c66] at H
                   exact absurd H (by simp)
                 ·rw [if_neg c65] at H
                  have c65b0 : decide (x13_4 < (l0_0.length : Int)) = false := decide_eq_false c65
                  clear c65
                  have H' := Aside0.mk H
                  clear H
                  go_wp2
                  go_loopg [14] k4 (fun kq v14 w' => ∃ (x14_5 : Int) (x259001_5 : List (List (S64))) (u259001 : Value), v14 = .int .i64 x14_5 ∧ Aside0 (recoupref21_Trim.l5 kq (l0_0.length : Int) x5_2 x9_3 x14_5 l0_0 l0_1 l0_2 x259000_4 x259001_5 = some (r1, r2, r3, r4)) ∧ Aside0 (kq ≤ k4) ∧ Aside0 (Kd.R Kd.bool 4 w' w.heap.size (fun _ => True) (.slice Ao51 x5_2.length co51) x5_2) ∧ Aside0 (Kd.R (Kd.int .i64) 3 w' w.heap.size (fun k_ => some k_ ≠ (u259000 : Value).ownBlock) v254 x9_3) ∧ Aside0 (Kd.R (Kd.int .i64) 3 w' w.heap.size (fun k_ => some k_ ≠ (v254 : Value).ownBlock) u259000 x259000_4) ∧ Aside0 (Kd.S (Kd.slice 64 k64) 62 w' w.heap.size (fun _ => True) u259001 x259001_5) ∧ Aside0 (w'.heap[gb240]? = some (.cells #[(.slice A0_0 l0_0.length c0_0), (.slice A0_1 l0_1.length c0_1), (.slice A0_2 l0_2.length c0_2)] 25 (0, 0))) ∧ Aside0 (w'.heap[gb241]? = some (.cells #[(.slice none 0 0), (.slice none 0 0), (.slice none 0 0)] 25 (0, 0))) ∧ Aside0 (w'.heap[gb258]? = some (.cells #[u259000, u259001, (.slice none 0 0)] 25 (0, 0))) ∧ Aside0 (Below w.heap.size w w'))
                  case atStart => exact ⟨(0), (([] : List (List (S64)))), (.slice none 0 0), (by first | rfl | (simp; done) | (simp [*]; done)), H', ⟨Nat.le_refl _⟩, ⟨by (with_reducible repeat (first | apply Kd.R_alloc | apply Kd.R_drewN | apply Kd.R_drew)); exact HO_5.out⟩, ⟨by (with_reducible repeat (first | apply Kd.R_alloc | apply Kd.R_drewN | apply Kd.R_drew)); exact HO_9.out⟩, ⟨by (with_reducible repeat (first | apply Kd.R_alloc | apply Kd.R_drewN | apply Kd.R_drew)); exact HO_259000.out⟩, ⟨by first | exact Kd.S_nil _ _ _ _ _ | exact Kd.N_nil _ _ _ _ _ | exact Kd.V_nil _ _ _ _ _ | exact Kd.Q_nil _ _ _ _ _ | exact Kd.R_nil _ _ _ _ _⟩, ⟨by (with_reducible repeat (first | refine blk_drewN ?_ _ | refine blk_drew ?_ | refine blk_alloc ?_ _)); exact BK240.out⟩, ⟨by (with_reducible repeat (first | refine blk_drewN ?_ _ | refine blk_drew ?_ | refine blk_alloc ?_ _)); exact BK241.out⟩, ⟨by (with_reducible repeat (first | refine blk_drewN ?_ _ | refine blk_drew ?_ | refine blk_alloc ?_ _)); exact BK258.out⟩, ⟨by repeat (first | (with_reducible first | exact HB.out | apply below_alloc | apply pw_below_drewN | apply below_drew1 | refine below_set ?_ GE240.out | refine below_set ?_ GE241.out | refine below_set ?_ GE258.out) | exact HB.out)⟩⟩
                  case round =>
                   clear H'
                   try clear c1
                   try clear p1
                   try clear q1
                   try clear hx1
                   try clear hf1
                   try clear c2
                   try clear p2
                   try clear q2
                   try clear hx2
                   try clear c3
                   try clear p3
                   try clear q3
                   try clear hx3
                   try clear hf3
                   try clear c4
                   try clear c5
                   try clear c5b0
                   try clear c5b1
                   try clear p5
                   try clear q5
                   try clear hx5
                   try clear hf5
                   try clear c6
                   try clear c6b0
                   try clear c6b1
                   try clear p6
                   try clear q6
                   try clear c7
                   try clear c9
                   try clear c12
                   try clear c15
                   try clear c15b0
                   try clear c16
                   try clear c16b0
                   try clear c17
                   try clear c17b0
                   try clear c18
                   try clear c18b0
                   try clear c19
                   try clear p19
                   try clear q19
                   try clear hx19
                   try clear hf19
                   try clear c20
                   try clear c24
                   try clear p24
                   try clear q24
                   try clear hx24
                   try clear c25
                   try clear p25
                   try clear q25
                   try clear hx25
                   try clear c26
                   try clear c26b0
                   try clear p26
                   try clear q26
                   try clear hx26
                   try clear c27
                   try clear c27b0
                   try clear c28
                   try clear c28b0
                   try clear c29
                   try clear c29b0
                   try clear c31
                   try clear c31b0
                   try clear c32
                   try clear c32b0
                   try clear q33
                   try clear c34
                   try clear c35
                   try clear c35b0
                   try clear c36
                   try clear c36b0
                   try clear c37
                   try clear c37b0
                   try clear p38
                   try clear q38
                   try clear hx38
                   try clear hf38
                   try clear c39
                   try clear c44
                   try clear c47
                   try clear c49
                   try clear c49b0
                   try clear c49b1
                   try clear c50
                   try clear c50b0
                   try clear c50b1
                   try clear c54
                   try clear c54b0
                   try clear c55
                   try clear c55b0
                   try clear c56
                   try clear c56b0
                   try clear p57
                   try clear q57
                   try clear hx57
                   try clear hf57
                   try clear q58
                   try clear c59
                   try clear p64
                   try clear c65
                   try clear c65b0
                   try clear c66
                   try clear c66b0
                   try clear c67
                   try clear c67b0
                   try clear q68
                   try clear c69
                   try clear c70
                   try clear c70b0
                   try clear c71
                   try clear hcz10_0
                   try clear hcz10_1
                   try clear hcz10_2
                   try clear hcz12_0
                   try clear hcz12_1
                   try clear hcz12_2
                   try clear hcz21_0
                   try clear hcz21_1
                   try clear hcz21_2
                   try clear hcz25_0
                   try clear hcz25_1
                   try clear hcz25_2
                   try clear hcz40_0
                   try clear hcz40_1
                   try clear hcz40_2
                   try clear hcz45_0
                   try clear hcz45_1
                   try clear hcz45_2
                   try clear hcz48_0
                   try clear hcz48_1
                   try clear hcz48_2
                   try clear hfz10_0
                   try clear hfz10_1
                   try clear hfz10_2
                   try clear hfz12_0
                   try clear hfz12_1
                   try clear hfz12_2
                   try clear hfz21_0
                   try clear hfz21_1
                   try clear hfz21_2
                   try clear hfz25_0
                   try clear hfz25_1
                   try clear hfz25_2
                   try clear hfz40_0
                   try clear hfz40_1
                   try clear hfz40_2
                   try clear hfz45_0
                   try clear hfz45_1
                   try clear hfz45_2
                   try clear hfz48_0
                   try clear hfz48_1
                   try clear hfz48_2
                   try clear hx19_0
                   try clear hx246_0
                   try clear hx248_0
                   try clear hx249_0
                   try clear hx250_0
                   try clear hx251_0
                   try clear hx251_1
                   try clear hx257_0
                   try clear hx259_0
                   try clear hx260_0
                   try clear hx38_0
                   try clear hx57_0
                   try clear p1
                   try clear p19
                   try clear p2
                   try clear p24
                   try clear p246
                   try clear p248
                   try clear p249
                   try clear p25
                   try clear p250
                   try clear p251
                   try clear p257
                   try clear p259
                   try clear p260
                   try clear p3
                   try clear p38
                   try clear p5
                   try clear p57
                   try clear p6
                   try clear p64
                   try clear q1
                   try clear q19
                   try clear q2
                   try clear q24
                   try clear q246
                   try clear q248
                   try clear q249
                   try clear q25
                   try clear q250
                   try clear q251
                   try clear q257
                   try clear q259
                   try clear q260
                   try clear q3
                   try clear q33
                   try clear q38
                   try clear q5
                   try clear q57
                   try clear q58
                   obtain ⟨x14_5, x259001_5, u259001, rfl, HA, HK5, HO_5, HO_9, HO_259000, HO_259001, BK240, BK241, BK258, HB⟩ := hrel
                   cases gk with
                   | zero => exact absurd HA.out (by simp [recoupref21_Trim.l5])
                   | succ k5 =>
                    have H := HA.out
                    clear HA
                    simp only [recoupref21_Trim.l5] at H
                    by_cases c76 : x14_5 < (l0_1.length : Int)
                    ·rw [if_pos c76] at H
                     have c76b0 : decide (x14_5 < (l0_1.length : Int)) = true := decide_eq_true c76
                     clear c76
                     obtain ⟨ji77, hji77⟩ : ∃ j_ : Int, (wrap64 ((l0_0.length : Int) + x14_5)) = j_ := ⟨_, rfl⟩
                     replace H : (if 0 ≤ (ji77) then (if (ji77) < (x5_2.length : Int) then (if (rdOf false x5_2 (ji77) = true) then (recoupref21_Trim.l6 k5 (l0_0.length : Int) x5_2 x9_3 x14_5 ([] : List (S64)) 0 l0_0 l0_1 l0_2 x259000_4 x259001_5) else (recoupref21_Trim.l5 k5 (l0_0.length : Int) x5_2 x9_3 (wrap64 (x14_5 + 1)) l0_0 l0_1 l0_2 x259000_4 x259001_5)) else (none)) else (none)) = some (r1, r2, r3, r4) := by first | (rw [hji77] at H; exact H) | (simp only [hji77] at H ⊢; exact H)
                     have hji77w : (IntKind.i64.wrap ((l0_0.length : Int) + x14_5)) = ji77 := (i64_w _).trans hji77
                     by_cases c78 : 0 ≤ (ji77)
                     ·rw [if_pos c78] at H
                      have c78b0 : decide (0 ≤ (ji77)) = true := decide_eq_true c78
                      clear c78
                      by_cases c79 : (ji77) < (x5_2.length : Int)
                      ·rw [if_pos c79] at H
                       have c79b0 : decide ((ji77) < (x5_2.length : Int)) = true := decide_eq_true c79
                       clear c79
                       obtain ⟨bq80, hbq80⟩ : ∃ b_ : Bool, b_ = (rdOf false x5_2 (ji77)) := ⟨_, rfl⟩
                       replace H : (if (bq80 = true) then (recoupref21_Trim.l6 k5 (l0_0.length : Int) x5_2 x9_3 x14_5 ([] : List (S64)) 0 l0_0 l0_1 l0_2 x259000_4 x259001_5) else (recoupref21_Trim.l5 k5 (l0_0.length : Int) x5_2 x9_3 (wrap64 (x14_5 + 1)) l0_0 l0_1 l0_2 x259000_4 x259001_5)) = some (r1, r2, r3, r4) := by rw [← hbq80] at H; exact H
                       have Nbq80 := Aside0.mk hbq80
                       clear hbq80
                       by_cases c81 : (bq80 = true)
                       ·subst c81
                        have H1 : (recoupref21_Trim.l6 k5 (l0_0.length : Int) x5_2 x9_3 x14_5 ([] : List (S64)) 0 l0_0 l0_1 l0_2 x259000_4 x259001_5) = some (r1, r2, r3, r4) := by rw [if_pos rfl] at H; exact H
                        clear H
                        have H := H1
                        clear H1
                        have H' := Aside0.mk H
                        clear H
                        have hnb82 := NB240_241.out
                        have hnc82 := NB241_240.out
                        have hnb83 := NB240_258.out
                        have hnc83 := NB258_240.out
                        have hcz84_0 : wr.cell? ⟨gb240, 0, none⟩ = some (.slice A0_0 l0_0.length c0_0) := (blk_cell BK240.out 0).trans rfl
                        have hcz84_1 : wr.cell? ⟨gb240, 1, none⟩ = some (.slice A0_1 l0_1.length c0_1) := (blk_cell BK240.out 1).trans rfl
                        have hcz84_2 : wr.cell? ⟨gb240, 2, none⟩ = some (.slice A0_2 l0_2.length c0_2) := (blk_cell BK240.out 2).trans rfl
                        have hfz84_0 := blk_frozen BK240.out 0
                        have hfz84_1 := blk_frozen BK240.out 1
                        have hfz84_2 := blk_frozen BK240.out 2
                        have p264 : 0 ≤ ((ji77) : Int) := of_decide_eq_true (by first | (with_reducible assumption) | assumption)
                        have q264 : (ji77) < (x5_2.length : Int) := of_decide_eq_true (by first | (with_reducible assumption) | assumption)
                        obtain ⟨ad264, e264, hx264_0⟩ := Kd.at_bool (Kd.R_reads' HO_5.out).2.2 (ji77) p264 q264
                        (try rw [← Nbq80.out] at hx264_0)
                        cases e264
                        replace p264 := eq_true p264
                        replace q264 := eq_true q264
                        go_wp2
                        go_loopg [15, 16] k5 (fun kq v15 v16 w' => ∃ (x15_6 : List (S64)) (x16_6 : Int), v16 = .int .i64 x16_6 ∧ Aside0 (recoupref21_Trim.l6 kq (l0_0.length : Int) x5_2 x9_3 x14_5 x15_6 x16_6 l0_0 l0_1 l0_2 x259000_4 x259001_5 = some (r1, r2, r3, r4)) ∧ Aside0 (kq ≤ k5) ∧ Aside0 (Kd.R Kd.bool 4 w' w.heap.size (fun _ => True) (.slice (some ad264) x5_2.length co51) x5_2) ∧ Aside0 (Kd.R (Kd.int .i64) 3 w' w.heap.size (fun k_ => some k_ ≠ (u259000 : Value).ownBlock) v254 x9_3) ∧ Aside0 (Kd.R k64 64 w' w.heap.size (fun _ => True) v15 x15_6) ∧ Aside0 (Kd.R (Kd.int .i64) 3 w' w.heap.size (fun k_ => some k_ ≠ (v254 : Value).ownBlock) u259000 x259000_4) ∧ Aside0 (Kd.S (Kd.slice 64 k64) 62 w' w.heap.size (fun k_ => some k_ ≠ (v15 : Value).ownBlock) u259001 x259001_5) ∧ Aside0 (w'.heap[gb240]? = some (.cells #[(.slice A0_0 l0_0.length c0_0), (.slice A0_1 l0_1.length c0_1), (.slice A0_2 l0_2.length c0_2)] 25 (0, 0))) ∧ Aside0 (w'.heap[gb241]? = some (.cells #[(.slice none 0 0), (.slice none 0 0), (.slice none 0 0)] 25 (0, 0))) ∧ Aside0 (w'.heap[gb258]? = some (.cells #[u259000, u259001, (.slice none 0 0)] 25 (0, 0))) ∧ Aside0 (Below w.heap.size w w'))
                        case atStart => exact ⟨(([] : List (S64))), (0), (by first | rfl | (simp; done) | (simp [*]; done)), H', ⟨Nat.le_refl _⟩, ⟨by (with_reducible repeat (first | apply Kd.R_alloc | apply Kd.R_drewN | apply Kd.R_drew)); exact HO_5.out⟩, ⟨by (with_reducible repeat (first | apply Kd.R_alloc | apply Kd.R_drewN | apply Kd.R_drew)); exact HO_9.out⟩, ⟨by first | exact Kd.R_nil _ _ _ _ _ | exact Kd.N_nil _ _ _ _ _ | exact Kd.V_nil _ _ _ _ _ | exact Kd.Q_nil _ _ _ _ _ | exact Kd.S_nil _ _ _ _ _⟩, ⟨by (with_reducible repeat (first | apply Kd.R_alloc | apply Kd.R_drewN | apply Kd.R_drew)); exact HO_259000.out⟩, ⟨by (with_reducible repeat (first | apply Kd.S_alloc | apply Kd.S_drewN | apply Kd.S_drew)); exact Kd.S_mono HO_259001.out (fun _ hk => (by simp [Value.ownBlock]))⟩, ⟨by (with_reducible repeat (first | refine blk_drewN ?_ _ | refine blk_drew ?_ | refine blk_alloc ?_ _)); exact BK240.out⟩, ⟨by (with_reducible repeat (first | refine blk_drewN ?_ _ | refine blk_drew ?_ | refine blk_alloc ?_ _)); exact BK241.out⟩, ⟨by (with_reducible repeat (first | refine blk_drewN ?_ _ | refine blk_drew ?_ | refine blk_alloc ?_ _)); exact BK258.out⟩, ⟨by repeat (first | (with_reducible first | exact HB.out | apply below_alloc | apply pw_below_drewN | apply below_drew1 | refine below_set ?_ GE240.out | refine below_set ?_ GE241.out | refine below_set ?_ GE258.out) | exact HB.out)⟩⟩
                        case round =>
                         clear H'
                         try clear c1
                         try clear p1
                         try clear q1
                         try clear hx1
                         try clear hf1
                         try clear c2
                         try clear p2
                         try clear q2
                         try clear hx2
                         try clear c3
                         try clear p3
                         try clear q3
                         try clear hx3
                         try clear hf3
                         try clear c4
                         try clear c5
                         try clear c5b0
                         try clear c5b1
                         try clear p5
                         try clear q5
                         try clear hx5
                         try clear hf5
                         try clear c6
                         try clear c6b0
                         try clear c6b1
                         try clear p6
                         try clear q6
                         try clear c7
                         try clear c8
                         try clear q8
                         try clear c9
                         try clear c12
                         try clear c15
                         try clear c15b0
                         try clear c16
                         try clear c16b0
                         try clear c17
                         try clear c17b0
                         try clear c18
                         try clear c18b0
                         try clear c19
                         try clear p19
                         try clear q19
                         try clear hx19
                         try clear hf19
                         try clear c20
                         try clear c24
                         try clear p24
                         try clear q24
                         try clear hx24
                         try clear c25
                         try clear p25
                         try clear q25
                         try clear hx25
                         try clear c26
                         try clear c26b0
                         try clear p26
                         try clear q26
                         try clear hx26
                         try clear c27
                         try clear c27b0
                         try clear c28
                         try clear c28b0
                         try clear c29
                         try clear c29b0
                         try clear c31
                         try clear c31b0
                         try clear c32
                         try clear c32b0
                         try clear q33
                         try clear c34
                         try clear c35
                         try clear c35b0
                         try clear c36
                         try clear c36b0
                         try clear c37
                         try clear c37b0
                         try clear p38
                         try clear q38
                         try clear hx38
                         try clear hf38
                         try clear c39
                         try clear c44
                         try clear c47
                         try clear c49
                         try clear c49b0
                         try clear c49b1
                         try clear c50
                         try clear c50b0
                         try clear c50b1
                         try clear c54
                         try clear c54b0
                         try clear c55
                         try clear c55b0
                         try clear c56
                         try clear c56b0
                         try clear p57
                         try clear q57
                         try clear hx57
                         try clear hf57
                         try clear q58
                         try clear c59
                         try clear p64
                         try clear c65
                         try clear c65b0
                         try clear c66
                         try clear c66b0
                         try clear c67
                         try clear c67b0
                         try clear q68
                         try clear c69
                         try clear c70
                         try clear c70b0
                         try clear c71
                         try clear c76
                         try clear c76b0
                         try clear c78
                         try clear c78b0
                         try clear c79
                         try clear c79b0
                         try clear q80
                         try clear c81
                         try clear c82
                         try clear c83
                         try clear hcz10_0
                         try clear hcz10_1
                         try clear hcz10_2
                         try clear hcz12_0
                         try clear hcz12_1
                         try clear hcz12_2
                         try clear hcz21_0
                         try clear hcz21_1
                         try clear hcz21_2
                         try clear hcz25_0
                         try clear hcz25_1
                         try clear hcz25_2
                         try clear hcz40_0
                         try clear hcz40_1
                         try clear hcz40_2
                         try clear hcz45_0
                         try clear hcz45_1
                         try clear hcz45_2
                         try clear hcz48_0
                         try clear hcz48_1
                         try clear hcz48_2
                         try clear hcz84_0
                         try clear hcz84_1
                         try clear hcz84_2
                         try clear hfz10_0
                         try clear hfz10_1
                         try clear hfz10_2
                         try clear hfz12_0
                         try clear hfz12_1
                         try clear hfz12_2
                         try clear hfz21_0
                         try clear hfz21_1
                         try clear hfz21_2
                         try clear hfz25_0
                         try clear hfz25_1
                         try clear hfz25_2
                         try clear hfz40_0
                         try clear hfz40_1
                         try clear hfz40_2
                         try clear hfz45_0
                         try clear hfz45_1
                         try clear hfz45_2
                         try clear hfz48_0
                         try clear hfz48_1
                         try clear hfz48_2
                         try clear hfz84_0
                         try clear hfz84_1
                         try clear hfz84_2
                         try clear hx19_0
                         try clear hx246_0
                         try clear hx248_0
                         try clear hx249_0
                         try clear hx250_0
                         try clear hx251_0
                         try clear hx251_1
                         try clear hx257_0
                         try clear hx259_0
                         try clear hx260_0
                         try clear hx264_0
                         try clear hx38_0
                         try clear hx57_0
                         try clear p1
                         try clear p19
                         try clear p2
                         try clear p24
                         try clear p246
                         try clear p248
                         try clear p249
                         try clear p25
                         try clear p250
                         try clear p251
                         try clear p257
                         try clear p259
                         try clear p26
                         try clear p260
                         try clear p264
                         try clear p3
                         try clear p38
                         try clear p5
                         try clear p57
                         try clear p6
                         try clear p64
                         try clear q1
                         try clear q19
                         try clear q2
                         try clear q24
                         try clear q246
                         try clear q248
                         try clear q249
                         try clear q25
                         try clear q250
                         try clear q251
                         try clear q257
                         try clear q259
                         try clear q26
                         try clear q260
                         try clear q264
                         try clear q3
                         try clear q33
                         try clear q38
                         try clear q5
                         try clear q57
                         try clear q58
                         try clear q6
                         try clear q68
                         obtain ⟨x15_6, x16_6, rfl, HA, HK6, HO_5, HO_9, HO_15, HO_259000, HO_259001, BK240, BK241, BK258, HB⟩ := hrel
                         cases gk with
                         | zero => exact absurd HA.out (by simp [recoupref21_Trim.l6])
                         | succ k6 =>
                          have H := HA.out
                          clear HA
                          simp only [recoupref21_Trim.l6] at H
                          by_cases c85 : 0 ≤ x14_5
                          ·rw [if_pos c85] at H
                           have c85b0 : decide (0 ≤ x14_5) = true := decide_eq_true c85
                           clear c85
                           by_cases c86 : x14_5 < (l0_1.length : Int)
                           ·rw [if_pos c86] at H
                            have c86b0 : decide (x14_5 < (l0_1.length : Int)) = true := decide_eq_true c86
                            clear c86
                            by_cases c87 : x16_6 < ((rd_L4 l0_1 x14_5).length : Int)
                            ·rw [if_pos c87] at H
                             have c87b0 : decide (x16_6 < ((rd_L4 l0_1 x14_5).length : Int)) = true := decide_eq_true c87
                             clear c87
                             by_cases c88 : 0 ≤ x16_6
                             ·rw [if_pos c88] at H
                              have c88b0 : decide (0 ≤ x16_6) = true := decide_eq_true c88
                              clear c88
                              by_cases c89 : 0 ≤ ((rd_T64 (rd_L4 l0_1 x14_5) x16_6).f0)
                              ·rw [if_pos c89] at H
                               have c89b0 : decide (0 ≤ ((rd_T64 (rd_L4 l0_1 x14_5) x16_6).f0)) = true := decide_eq_true c89
                               clear c89
                               by_cases c90 : ((rd_T64 (rd_L4 l0_1 x14_5) x16_6).f0) < (x9_3.length : Int)
                               ·rw [if_pos c90] at H
                                have c90b0 : decide (((rd_T64 (rd_L4 l0_1 x14_5) x16_6).f0) < (x9_3.length : Int)) = true := decide_eq_true c90
                                clear c90
                                by_cases c91 : x15_6.length < 8796093022208
                                ·rw [if_pos c91] at H
                                 have LMc91 := Aside0.mk c91
                                 clear c91
                                 obtain ⟨y271, hy271⟩ : ∃ y_ : List (S64), y_ = (x15_6 ++ [(⟨rd x9_3 ((rd_T64 (rd_L4 l0_1 x14_5) x16_6).f0), (rd_T64 (rd_L4 l0_1 x14_5) x16_6).f1⟩ : S64)]) := ⟨_, rfl⟩
                                 replace H : (recoupref21_Trim.l6 k6 (l0_0.length : Int) x5_2 x9_3 x14_5 y271 (wrap64 (x16_6 + 1)) l0_0 l0_1 l0_2 x259000_4 x259001_5) = some (r1, r2, r3, r4) := by first | (rw [hy271]; with_reducible exact H) | (have H2_ := (Option.bind_some _ _).symm.trans H; rw [hy271]; with_reducible exact H2_) | (have H2_ := (Option.bind_some _ _).symm.trans H; with_reducible exact H2_) | with_reducible exact H | (rw [hy271]; exact H) | exact H
                                 have Ny271 := Aside0.mk hy271
                                 clear hy271
                                 have H' := Aside0.mk H
                                 clear H
                                 have hnb92 := NB240_241.out
                                 have hnc92 := NB241_240.out
                                 have hnb93 := NB240_258.out
                                 have hnc93 := NB258_240.out
                                 have hcz94_0 : wr.cell? ⟨gb240, 0, none⟩ = some (.slice A0_0 l0_0.length c0_0) := (blk_cell BK240.out 0).trans rfl
                                 have hcz94_1 : wr.cell? ⟨gb240, 1, none⟩ = some (.slice A0_1 l0_1.length c0_1) := (blk_cell BK240.out 1).trans rfl
                                 have hcz94_2 : wr.cell? ⟨gb240, 2, none⟩ = some (.slice A0_2 l0_2.length c0_2) := (blk_cell BK240.out 2).trans rfl
                                 have hfz94_0 := blk_frozen BK240.out 0
                                 have hfz94_1 := blk_frozen BK240.out 1
                                 have hfz94_2 := blk_frozen BK240.out 2
                                 have p265 : 0 ≤ (x14_5 : Int) := of_decide_eq_true (by first | (with_reducible assumption) | assumption)
                                 have q265 : x14_5 < (l0_1.length : Int) := of_decide_eq_true (by first | (with_reducible assumption) | assumption)
                                 obtain ⟨ad265, A265_0, c265_0, e265, hx265_0, hl265_0, hi265_0⟩ := at_L4 HR0_1.out x14_5 p265 q265
                                 cases e265
                                 replace hx265_0 := (HB.out.cell (World.block_lt_of_cell? w _ hx265_0)).trans hx265_0
                                 have HR265_0 := Aside0.mk hi265_0
                                 have HC265_0 := Aside0.mk hl265_0
                                 clear hi265_0 hl265_0
                                 replace p265 := eq_true p265
                                 replace q265 := eq_true q265
                                 try go_wp2
                                 have n0_ := Aside0.mk (Kd.R_drew HO_5.out)
                                 have n1_ := Aside0.mk (Kd.R_drew HO_9.out)
                                 have n2_ := Aside0.mk (Kd.R_drew HO_15.out)
                                 have n3_ := Aside0.mk (Kd.R_drew HO_259000.out)
                                 have n4_ := Aside0.mk (Kd.S_drew HO_259001.out)
                                 have n5_ := Aside0.mk (blk_drew BK240.out)
                                 have n6_ := Aside0.mk (blk_drew BK241.out)
                                 have n7_ := Aside0.mk (blk_drew BK258.out)
                                 have n8_ := Aside0.mk (below_drew1 HB.out)
                                 clear HO_5
                                 clear HO_9
                                 clear HO_15
                                 clear HO_259000
                                 clear HO_259001
                                 clear BK240
                                 clear BK241
                                 clear BK258
                                 clear HB
                                 have HO_5 := n0_
                                 have HO_9 := n1_
                                 have HO_15 := n2_
                                 have HO_259000 := n3_
                                 have HO_259001 := n4_
                                 have BK240 := n5_
                                 have BK241 := n6_
                                 have BK258 := n7_
                                 have HB := n8_
                                 clear n0_ n1_ n2_ n3_ n4_ n5_ n6_ n7_ n8_
                                 have p266 : 0 ≤ (x14_5 : Int) := of_decide_eq_true (by first | (with_reducible assumption) | assumption)
                                 have q266 : x14_5 < (l0_1.length : Int) := of_decide_eq_true (by first | (with_reducible assumption) | assumption)
                                 obtain ⟨ad266, A266_0, c266_0, e266, hx266_0, hl266_0, hi266_0⟩ := at_L4 HR0_1.out x14_5 p266 q266
                                 have hw266_0 := hx266_0
                                 obtain rfl : ad265 = ad266 := (by injection e266)
                                 replace hx266_0 := (HB.out.cell (World.block_lt_of_cell? w _ hx266_0)).trans hx266_0
                                 have HR266_0 := Aside0.mk hi266_0
                                 have HC266_0 := Aside0.mk hl266_0
                                 clear hi266_0 hl266_0
                                 replace p266 := eq_true p266
                                 replace q266 := eq_true q266
                                 have p267 : 0 ≤ (x16_6 : Int) := of_decide_eq_true (by first | (with_reducible assumption) | assumption)
                                 have q267 : x16_6 < ((rd_L4 l0_1 x14_5).length : Int) := of_decide_eq_true (by first | (with_reducible assumption) | assumption)
                                 obtain ⟨ad267, e267, hx267_0, hx267_1⟩ := at_T64 HR266_0.out x16_6 p267 q267
                                 have hw267_1 := hx267_1
                                 have hw267_0 := hx267_0
                                 cases e267
                                 replace hx267_0 := (HB.out.cell (World.block_lt_of_cell? w _ hx267_0)).trans hx267_0
                                 replace hx267_1 := (HB.out.cell (World.block_lt_of_cell? w _ hx267_1)).trans hx267_1
                                 replace p267 := eq_true p267
                                 replace q267 := eq_true q267
                                 obtain ⟨Ao96, co96, eo96⟩ := Kd.R_slice HO_9.out
                                 (first | subst eo96 | (injection eo96 with f1_ f2_ f3_; have f4_ := f1_.symm; have f5_ := f3_.symm; clear f1_ f2_ f3_; subst f4_; subst f5_))
                                 have p268 : 0 ≤ (((rd_T64 (rd_L4 l0_1 x14_5) x16_6).f0) : Int) := of_decide_eq_true (by first | (with_reducible assumption) | assumption)
                                 have q268 : ((rd_T64 (rd_L4 l0_1 x14_5) x16_6).f0) < (x9_3.length : Int) := of_decide_eq_true (by first | (with_reducible assumption) | assumption)
                                 obtain ⟨ad268, e268, hx268_0⟩ := Kd.at_int (Kd.R_reads' HO_9.out).2.2 ((rd_T64 (rd_L4 l0_1 x14_5) x16_6).f0) p268 q268
                                 cases e268
                                 replace p268 := eq_true p268
                                 replace q268 := eq_true q268
                                 have p269 : 0 ≤ (x14_5 : Int) := of_decide_eq_true (by first | (with_reducible assumption) | assumption)
                                 have q269 : x14_5 < (l0_1.length : Int) := of_decide_eq_true (by first | (with_reducible assumption) | assumption)
                                 obtain ⟨ad269, A269_0, c269_0, e269, hx269_0, hl269_0, hi269_0⟩ := at_L4 HR0_1.out x14_5 p269 q269
                                 have hw269_0 := hx269_0
                                 obtain rfl : ad265 = ad269 := (by injection e269)
                                 replace hx269_0 := (HB.out.cell (World.block_lt_of_cell? w _ hx269_0)).trans hx269_0
                                 have HR269_0 := Aside0.mk hi269_0
                                 have HC269_0 := Aside0.mk hl269_0
                                 clear hi269_0 hl269_0
                                 replace p269 := eq_true p269
                                 replace q269 := eq_true q269
                                 have ea_ := Option.some.inj (hx266_0.symm.trans hx269_0)
                                 injection ea_ with ea_ en_ ec_
                                 subst ea_
                                 subst ec_
                                 clear en_
                                 have p270 : 0 ≤ (x16_6 : Int) := of_decide_eq_true (by first | (with_reducible assumption) | assumption)
                                 have q270 : x16_6 < ((rd_L4 l0_1 x14_5).length : Int) := of_decide_eq_true (by first | (with_reducible assumption) | assumption)
                                 obtain ⟨ad270, e270, hx270_0, hx270_1⟩ := at_T64 HR269_0.out x16_6 p270 q270
                                 have hw270_1 := hx270_1
                                 have hw270_0 := hx270_0
                                 obtain rfl : ad267 = ad270 := (by injection e270)
                                 replace hx270_0 := (HB.out.cell (World.block_lt_of_cell? w _ hx270_0)).trans hx270_0
                                 replace hx270_1 := (HB.out.cell (World.block_lt_of_cell? w _ hx270_1)).trans hx270_1
                                 replace p270 := eq_true p270
                                 replace q270 := eq_true q270
                                 refine start_ (n := 26) (S := fun w' => w'.cell? ⟨gb240, 0, none⟩ = some (.slice A0_0 l0_0.length c0_0) ∧ w'.cell? ⟨gb240, 1, none⟩ = some (.slice (some ad265) l0_1.length c0_1) ∧ w'.cell? ⟨gb240, 2, none⟩ = some (.slice A0_2 l0_2.length c0_2) ∧ w'.cell? (ad265.add (x14_5).toNat) = some (.slice (some ad267) (rd_L4 l0_1 x14_5).length c266_0) ∧ w'.cell? (ad267.add ((x16_6).toNat * 2)) = some (.int .i64 ((rd_T64 (rd_L4 l0_1 x14_5) x16_6).f0)) ∧ w'.cell? ⟨(ad267.add ((x16_6).toNat * 2)).block, (ad267.add ((x16_6).toNat * 2)).off + 1, none⟩ = some (.int .u8 ((rd_T64 (rd_L4 l0_1 x14_5) x16_6).f1)) ∧ w'.cell? (ad268.add (((rd_T64 (rd_L4 l0_1 x14_5) x16_6).f0)).toNat) = some (.int .i64 (rd x9_3 ((rd_T64 (rd_L4 l0_1 x14_5) x16_6).f0))) ∧ w'.cell? (ad265.add (x14_5).toNat) = some (.slice (some ad267) (rd_L4 l0_1 x14_5).length c266_0) ∧ w'.cell? (ad267.add ((x16_6).toNat * 2)) = some (.int .i64 ((rd_T64 (rd_L4 l0_1 x14_5) x16_6).f0)) ∧ w'.cell? ⟨(ad267.add ((x16_6).toNat * 2)).block, (ad267.add ((x16_6).toNat * 2)).off + 1, none⟩ = some (.int .u8 ((rd_T64 (rd_L4 l0_1 x14_5) x16_6).f1))) (ds := [23, 24]) #[false, false, false, false, false, false, false, false, false, false, false, false, false, false, false, false, false, false, false, false, false, false, false, false, false, false] (by kernel_rfl) rfl rfl ⟨(blk_cell BK240.out 0).trans rfl, (blk_cell BK240.out 1).trans rfl, (blk_cell BK240.out 2).trans rfl, ((HB.out.cell (World.block_lt_of_cell? w _ hw266_0)).trans hw266_0), ((HB.out.cell (World.block_lt_of_cell? w _ hw267_0)).trans hw267_0), ((HB.out.cell (World.block_lt_of_cell? w _ hw267_1)).trans hw267_1), hx268_0, ((HB.out.cell (World.block_lt_of_cell? w _ hw269_0)).trans hw269_0), ((HB.out.cell (World.block_lt_of_cell? w _ hw270_0)).trans hw270_0), ((HB.out.cell (World.block_lt_of_cell? w _ hw270_1)).trans hw270_1)⟩ (fun hHeld => ?_); refine with_tabW recoupref21_Trim.tab38 recoupref21_Trim.bits38 (fun HT_ HW_ => ?_)
                                 generalize wr.drew = w95 at HO_5 HO_9 HO_15 HO_259000 HO_259001 BK240 BK241 BK258 HB HR266_0 HR269_0 hx266_0 hx267_0 hx267_1 hx268_0 hx269_0 hx270_0 hx270_1 hHeld ⊢
                                 refine pure_ (i := 0) (N := some 144) (v := ?_) (a' := ?_) #[true, false, false, false, false, false, false, false, false, false, false, false, false, false, false, false, false, false, false, false, false, false, false, false, false, false] rfl rfl (any_of HT_.out (by kernel_rfl)) (fun _ _ _ h => h) (Or.inl ⟨by rfl, ?_⟩) ?_ ?_
                                 rotate_left
                                 ·intro w'
                                  go_simp
                                  with_reducible rfl
                                 rotate_left
                                 ·simp only [Act.put, List.setIfInBounds_toArray, List.set_cons_zero, List.set_cons_succ, i64_w, i32_w]
                                  rfl
                                 refine pure_ (i := 1) (N := some 145) (v := ?_) (a' := ?_) #[true, true, false, false, false, false, false, false, false, false, false, false, false, false, false, false, false, false, false, false, false, false, false, false, false, false] rfl rfl (any_of HT_.out (by kernel_rfl)) (fun _ _ _ h => h) (Or.inl ⟨by rfl, ?_⟩) ?_ ?_
                                 rotate_left
                                 ·intro w'
                                  go_simp
                                  with_reducible rfl
                                 rotate_left
                                 ·simp only [Act.put, List.setIfInBounds_toArray, List.set_cons_zero, List.set_cons_succ, i64_w, i32_w]
                                  rfl
                                 refine pure_ (i := 2) (N := some 146) (v := ?_) (a' := ?_) #[true, true, true, false, false, false, false, false, false, false, false, false, false, false, false, false, false, false, false, false, false, false, false, false, false, false] rfl rfl (any_of HT_.out (by kernel_rfl)) (fun _ _ _ h => h) (Or.inl ⟨by rfl, ?_⟩) ?_ ?_
                                 rotate_left
                                 ·intro w'
                                  go_simp
                                  with_reducible rfl
                                 rotate_left
                                 ·simp only [Act.put, List.setIfInBounds_toArray, List.set_cons_zero, List.set_cons_succ, i64_w, i32_w]
                                  rfl
                                 refine pure_ (i := 4) (N := some 148) (v := ?_) (a' := ?_) #[true, true, true, false, true, false, false, false, false, false, false, false, false, false, false, false, false, false, false, false, false, false, false, false, false, false] rfl rfl (any_of HT_.out (by kernel_rfl)) (fun _ _ _ h => h) (Or.inl ⟨by rfl, ?_⟩) ?_ ?_
                                 rotate_left
                                 ·intro w'
                                  go_simp
                                  with_reducible rfl
                                 rotate_left
                                 ·simp only [Act.put, List.setIfInBounds_toArray, List.set_cons_zero, List.set_cons_succ, i64_w, i32_w]
                                  rfl
                                 refine pure_ (i := 7) (N := some 151) (v := ?_) (a' := ?_) #[true, true, true, false, true, false, false, true, false, false, false, false, false, false, false, false, false, false, false, false, false, false, false, false, false, false] rfl rfl (any_of HT_.out (by kernel_rfl)) (fun _ _ _ h => h) (Or.inl ⟨by rfl, ?_⟩) ?_ ?_
                                 rotate_left
                                 ·intro w'
                                  go_simp
                                  with_reducible rfl
                                 rotate_left
                                 ·simp only [Act.put, List.setIfInBounds_toArray, List.set_cons_zero, List.set_cons_succ, i64_w, i32_w]
                                  rfl
                                 refine pure_ (i := 13) (N := some 157) (v := ?_) (a' := ?_) #[true, true, true, false, true, false, false, true, false, false, false, false, false, true, false, false, false, false, false, false, false, false, false, false, false, false] rfl rfl (any_of HT_.out (by kernel_rfl)) (fun _ _ _ h => h) (Or.inl ⟨by rfl, ?_⟩) ?_ ?_
                                 rotate_left
                                 ·intro w'
                                  go_simp
                                  with_reducible rfl
                                 rotate_left
                                 ·simp only [Act.put, List.setIfInBounds_toArray, List.set_cons_zero, List.set_cons_succ, i64_w, i32_w]
                                  rfl
                                 refine pure_ (i := 15) (N := some 159) (v := ?_) (a' := ?_) #[true, true, true, false, true, false, false, true, false, false, false, false, false, true, false, true, false, false, false, false, false, false, false, false, false, false] rfl rfl (any_of HT_.out (by kernel_rfl)) (fun _ _ _ h => h) (Or.inl ⟨by rfl, ?_⟩) ?_ ?_
                                 rotate_left
                                 ·intro w'
                                  go_simp
                                  with_reducible rfl
                                 rotate_left
                                 ·simp only [Act.put, List.setIfInBounds_toArray, List.set_cons_zero, List.set_cons_succ, i64_w, i32_w]
                                  rfl
                                 refine pure_ (i := 18) (N := some 162) (v := ?_) (a' := ?_) #[true, true, true, false, true, false, false, true, false, false, false, false, false, true, false, true, false, false, true, false, false, false, false, false, false, false] rfl rfl (any_of HT_.out (by kernel_rfl)) (fun _ _ _ h => h) (Or.inl ⟨by rfl, ?_⟩) ?_ ?_
                                 rotate_left
                                 ·intro w'
                                  go_simp
                                  with_reducible rfl
                                 rotate_left
                                 ·simp only [Act.put, List.setIfInBounds_toArray, List.set_cons_zero, List.set_cons_succ, i64_w, i32_w]
                                  rfl
                                 refine take_ (i := 3) (N := some 147) (v := ?_) (a' := ?_) #[true, true, true, true, true, false, false, true, false, false, false, false, false, true, false, true, false, false, true, false, false, false, false, false, false, false] rfl rfl (take_ofW HT_.out HW_.out (by kernel_rfl)) (fun _ _ _ h => h) (Or.inl ⟨by rfl, ?_⟩) hHeld ?_ ?_
                                 rotate_left
                                 ·rintro w' ⟨s0, s1, s2, s3, s4, s5, s6, s7, s8, s9⟩
                                  go_simp
                                  with_reducible rfl
                                 rotate_left
                                 ·simp only [Act.put, List.setIfInBounds_toArray, List.set_cons_zero, List.set_cons_succ, i64_w, i32_w]
                                  rfl
                                 refine pure_ (i := 5) (N := some 149) (v := ?_) (a' := ?_) #[true, true, true, true, true, true, false, true, false, false, false, false, false, true, false, true, false, false, true, false, false, false, false, false, false, false] rfl rfl (any_of HT_.out (by kernel_rfl)) (fun _ _ _ h => h) (Or.inl ⟨by rfl, ?_⟩) ?_ ?_
                                 rotate_left
                                 ·intro w'
                                  go_simp
                                  with_reducible rfl
                                 rotate_left
                                 ·simp only [Act.put, List.setIfInBounds_toArray, List.set_cons_zero, List.set_cons_succ, i64_w, i32_w]
                                  rfl
                                 refine take_ (i := 6) (N := some 150) (v := ?_) (a' := ?_) #[true, true, true, true, true, true, true, true, false, false, false, false, false, true, false, true, false, false, true, false, false, false, false, false, false, false] rfl rfl (take_ofW HT_.out HW_.out (by kernel_rfl)) (fun _ _ _ h => h) (Or.inl ⟨by rfl, ?_⟩) hHeld ?_ ?_
                                 rotate_left
                                 ·rintro w' ⟨s0, s1, s2, s3, s4, s5, s6, s7, s8, s9⟩
                                  go_simp
                                  with_reducible rfl
                                 rotate_left
                                 ·simp only [Act.put, List.setIfInBounds_toArray, List.set_cons_zero, List.set_cons_succ, i64_w, i32_w]
                                  rfl
                                 refine pure_ (i := 8) (N := some 152) (v := ?_) (a' := ?_) #[true, true, true, true, true, true, true, true, true, false, false, false, false, true, false, true, false, false, true, false, false, false, false, false, false, false] rfl rfl (any_of HT_.out (by kernel_rfl)) (fun _ _ _ h => h) (Or.inl ⟨by rfl, ?_⟩) ?_ ?_
                                 rotate_left
                                 ·intro w'
                                  go_simp
                                  with_reducible rfl
                                 rotate_left
                                 ·simp only [Act.put, List.setIfInBounds_toArray, List.set_cons_zero, List.set_cons_succ, i64_w, i32_w]
                                  rfl
                                 refine pure_ (i := 9) (N := some 153) (v := ?_) (a' := ?_) #[true, true, true, true, true, true, true, true, true, true, false, false, false, true, false, true, false, false, true, false, false, false, false, false, false, false] rfl rfl (any_of HT_.out (by kernel_rfl)) (fun _ _ _ h => h) (Or.inl ⟨by rfl, ?_⟩) ?_ ?_
                                 rotate_left
                                 ·intro w'
                                  go_simp
                                  with_reducible rfl
                                 rotate_left
                                 ·simp only [Act.put, List.setIfInBounds_toArray, List.set_cons_zero, List.set_cons_succ, i64_w, i32_w]
                                  rfl
                                 refine take_ (i := 10) (N := some 154) (v := ?_) (a' := ?_) #[true, true, true, true, true, true, true, true, true, true, true, false, false, true, false, true, false, false, true, false, false, false, false, false, false, false] rfl rfl (take_ofW HT_.out HW_.out (by kernel_rfl)) (fun _ _ _ h => h) (Or.inl ⟨by rfl, ?_⟩) hHeld ?_ ?_
                                 rotate_left
                                 ·rintro w' ⟨s0, s1, s2, s3, s4, s5, s6, s7, s8, s9⟩
                                  go_simp
                                  with_reducible rfl
                                 rotate_left
                                 ·simp only [Act.put, List.setIfInBounds_toArray, List.set_cons_zero, List.set_cons_succ, i64_w, i32_w]
                                  rfl
                                 refine pure_ (i := 11) (N := some 155) (v := ?_) (a' := ?_) #[true, true, true, true, true, true, true, true, true, true, true, true, false, true, false, true, false, false, true, false, false, false, false, false, false, false] rfl rfl (any_of HT_.out (by kernel_rfl)) (fun _ _ _ h => h) (Or.inl ⟨by rfl, ?_⟩) ?_ ?_
                                 rotate_left
                                 ·intro w'
                                  go_simp
                                  with_reducible rfl
                                 rotate_left
                                 ·simp only [Act.put, List.setIfInBounds_toArray, List.set_cons_zero, List.set_cons_succ, i64_w, i32_w]
                                  rfl
                                 refine take_ (i := 12) (N := some 156) (v := ?_) (a' := ?_) #[true, true, true, true, true, true, true, true, true, true, true, true, true, true, false, true, false, false, true, false, false, false, false, false, false, false] rfl rfl (take_ofW HT_.out HW_.out (by kernel_rfl)) (fun _ _ _ h => h) (Or.inl ⟨by rfl, ?_⟩) hHeld ?_ ?_
                                 rotate_left
                                 ·rintro w' ⟨s0, s1, s2, s3, s4, s5, s6, s7, s8, s9⟩
                                  go_simp
                                  with_reducible rfl
                                 rotate_left
                                 ·simp only [Act.put, List.setIfInBounds_toArray, List.set_cons_zero, List.set_cons_succ, i64_w, i32_w]
                                  rfl
                                 refine take_ (i := 14) (N := some 158) (v := ?_) (a' := ?_) #[true, true, true, true, true, true, true, true, true, true, true, true, true, true, true, true, false, false, true, false, false, false, false, false, false, false] rfl rfl (take_ofW HT_.out HW_.out (by kernel_rfl)) (fun _ _ _ h => h) (Or.inl ⟨by rfl, ?_⟩) hHeld ?_ ?_
                                 rotate_left
                                 ·rintro w' ⟨s0, s1, s2, s3, s4, s5, s6, s7, s8, s9⟩
                                  go_simp
                                  with_reducible rfl
                                 rotate_left
                                 ·simp only [Act.put, List.setIfInBounds_toArray, List.set_cons_zero, List.set_cons_succ, i64_w, i32_w]
                                  rfl
                                 refine pure_ (i := 16) (N := some 160) (v := ?_) (a' := ?_) #[true, true, true, true, true, true, true, true, true, true, true, true, true, true, true, true, true, false, true, false, false, false, false, false, false, false] rfl rfl (any_of HT_.out (by kernel_rfl)) (fun _ _ _ h => h) (Or.inl ⟨by rfl, ?_⟩) ?_ ?_
                                 rotate_left
                                 ·intro w'
                                  go_simp
                                  with_reducible rfl
                                 rotate_left
                                 ·simp only [Act.put, List.setIfInBounds_toArray, List.set_cons_zero, List.set_cons_succ, i64_w, i32_w]
                                  rfl
                                 refine take_ (i := 17) (N := some 161) (v := ?_) (a' := ?_) #[true, true, true, true, true, true, true, true, true, true, true, true, true, true, true, true, true, true, true, false, false, false, false, false, false, false] rfl rfl (take_ofW HT_.out HW_.out (by kernel_rfl)) (fun _ _ _ h => h) (Or.inl ⟨by rfl, ?_⟩) hHeld ?_ ?_
                                 rotate_left
                                 ·rintro w' ⟨s0, s1, s2, s3, s4, s5, s6, s7, s8, s9⟩
                                  go_simp
                                  with_reducible rfl
                                 rotate_left
                                 ·simp only [Act.put, List.setIfInBounds_toArray, List.set_cons_zero, List.set_cons_succ, i64_w, i32_w]
                                  rfl
                                 refine pure_ (i := 19) (N := some 163) (v := ?_) (a' := ?_) #[true, true, true, true, true, true, true, true, true, true, true, true, true, true, true, true, true, true, true, true, false, false, false, false, false, false] rfl rfl (any_of HT_.out (by kernel_rfl)) (fun _ _ _ h => h) (Or.inl ⟨by rfl, ?_⟩) ?_ ?_
                                 rotate_left
                                 ·intro w'
                                  go_simp
                                  with_reducible rfl
                                 rotate_left
                                 ·simp only [Act.put, List.setIfInBounds_toArray, List.set_cons_zero, List.set_cons_succ, i64_w, i32_w]
                                  rfl
                                 refine pure_ (i := 20) (N := some 164) (v := ?_) (a' := ?_) #[true, true, true, true, true, true, true, true, true, true, true, true, true, true, true, true, true, true, true, true, true, false, false, false, false, false] rfl rfl (any_of HT_.out (by kernel_rfl)) (fun _ _ _ h => h) (Or.inl ⟨by rfl, ?_⟩) ?_ ?_
                                 rotate_left
                                 ·intro w'
                                  go_simp
                                  with_reducible rfl
                                 rotate_left
                                 ·simp only [Act.put, List.setIfInBounds_toArray, List.set_cons_zero, List.set_cons_succ, i64_w, i32_w]
                                  rfl
                                 refine take_ (i := 21) (N := some 165) (v := ?_) (a' := ?_) #[true, true, true, true, true, true, true, true, true, true, true, true, true, true, true, true, true, true, true, true, true, true, false, false, false, false] rfl rfl (take_ofW HT_.out HW_.out (by kernel_rfl)) (fun _ _ _ h => h) (Or.inl ⟨by rfl, ?_⟩) hHeld ?_ ?_
                                 rotate_left
                                 ·rintro w' ⟨s0, s1, s2, s3, s4, s5, s6, s7, s8, s9⟩
                                  go_simp
                                  with_reducible rfl
                                 rotate_left
                                 ·simp only [Act.put, List.setIfInBounds_toArray, List.set_cons_zero, List.set_cons_succ, i64_w, i32_w]
                                  rfl
                                 refine pure_ (i := 22) (N := some 166) (v := ?_) (a' := ?_) #[true, true, true, true, true, true, true, true, true, true, true, true, true, true, true, true, true, true, true, true, true, true, true, false, false, false] rfl rfl (any_of HT_.out (by kernel_rfl)) (fun _ _ _ h => h) (Or.inl ⟨by rfl, ?_⟩) ?_ ?_
                                 rotate_left
                                 ·intro w'
                                  go_simp
                                  with_reducible rfl
                                 rotate_left
                                 ·simp only [Act.put, List.setIfInBounds_toArray, List.set_cons_zero, List.set_cons_succ, i64_w, i32_w]
                                  rfl
                                 refine last_ (i := 23) (N := some 167) #[true, true, true, true, true, true, true, true, true, true, true, true, true, true, true, true, true, true, true, true, true, true, true, true, false, false] rfl rfl (one_of HT_.out (by kernel_rfl)) (by decide) (fun K hK => ?_)
                                 refine value_ (w1 := ?_) (v := ?_) (by rfl) rfl ?_ ?_
                                 rotate_left 2
                                 ·go_simp
                                  constructor
                                  ·rfl
                                  ·rfl
                                 refine hK.out _ _ ?_
                                 clear hK K
                                 refine norm_ (a' := ?_) ?_ ?_
                                 rotate_left
                                 ·show Act.put _ (some 167) _ = _
                                  simp only [Act.put, List.setIfInBounds_toArray, List.set_cons_zero, List.set_cons_succ, i64_w, i32_w]
                                  rfl
                                 refine last_ (i := 24) (N := some 168) #[true, true, true, true, true, true, true, true, true, true, true, true, true, true, true, true, true, true, true, true, true, true, true, true, true, false] rfl rfl (one_of HT_.out (by kernel_rfl)) (by decide) (fun K hK => ?_)
                                 refine Kd.R_append_step k64 (w0 := w) w.heap.size (by rfl) (.tmp 144) (.tmp 167) 62 64 (.agg #[(.int .i64 0), (.int .u8 0)]) 16 rfl Try.underlying62 info64 rfl (by decide) (by omega) u15 x15_6 (⟨rd x9_3 ((rd_T64 (rd_L4 l0_1 x14_5) x16_6).f0), (rd_T64 (rd_L4 l0_1 x14_5) x16_6).f1⟩ : S64) [.int .i64 (rd x9_3 ((rd_T64 (rd_L4 l0_1 x14_5) x16_6).f0)), .int .u8 ((rd_T64 (rd_L4 l0_1 x14_5) x16_6).f1)] (fun _ => True) (fun _ => False) rfl rfl ?aP (fun _ hk => hk.elim) ?aF ?aO ?aB ?aS ?aL ?_
                                 (case aP => exact k64_mkM _ _ _ (⟨rd x9_3 ((rd_T64 (rd_L4 l0_1 x14_5) x16_6).f0), (rd_T64 (rd_L4 l0_1 x14_5) x16_6).f1⟩ : S64))
                                 (case aB => exact (by repeat (first | (with_reducible first | exact HB.out | apply below_alloc | apply pw_below_drewN | apply below_drew1 | refine below_set ?_ GE240.out | refine below_set ?_ GE241.out | refine below_set ?_ GE258.out) | exact HB.out)))
                                 (case aF => exact (fun _ _ => trivial))
                                 (case aO => exact (by (with_reducible repeat (first | apply Kd.R_alloc | apply Kd.R_drewN | apply Kd.R_drew)); exact HO_15.out))
                                 (case aS => exact (below_size (by repeat (first | (with_reducible first | exact HB.out | apply below_alloc | apply pw_below_drewN | apply below_drew1 | refine below_set ?_ GE240.out | refine below_set ?_ GE241.out | refine below_set ?_ GE258.out) | exact HB.out))))
                                 (case aL => have := LMc91.out; omega)
                                 intro v272 w97 ho hb hg hat
                                 rw [← Ny271.out] at ho
                                 have n0_ := Aside0.mk (Kd.R_over' (by (with_reducible repeat (first | apply Kd.R_alloc | apply Kd.R_drewN | apply Kd.R_drew)); exact HO_5.out) (Kd.R_typed (by (with_reducible repeat (first | apply Kd.R_alloc | apply Kd.R_drewN | apply Kd.R_drew)); exact HO_15.out)) (by decide) hg)
                                 have n1_ := Aside0.mk (Kd.R_over' (by (with_reducible repeat (first | apply Kd.R_alloc | apply Kd.R_drewN | apply Kd.R_drew)); exact HO_9.out) (Kd.R_typed (by (with_reducible repeat (first | apply Kd.R_alloc | apply Kd.R_drewN | apply Kd.R_drew)); exact HO_15.out)) (by decide) hg)
                                 have n2_ := Aside0.mk (Kd.R_over' (by (with_reducible repeat (first | apply Kd.R_alloc | apply Kd.R_drewN | apply Kd.R_drew)); exact HO_259000.out) (Kd.R_typed (by (with_reducible repeat (first | apply Kd.R_alloc | apply Kd.R_drewN | apply Kd.R_drew)); exact HO_15.out)) (by decide) hg)
                                 have n3_ := Aside0.mk (Kd.S_after (ok := (fun _ => True)) (by (with_reducible repeat (first | apply Kd.S_alloc | apply Kd.S_drewN | apply Kd.S_drew)); exact Kd.S_mono HO_259001.out (fun _ hk => ⟨trivial, hk⟩)) hg hat)
                                 have n4_ := Aside0.mk (blk_grown (g := gb240) (o := .cells #[.slice A0_0 l0_0.length c0_0, .slice (some ad265) l0_1.length c0_1, .slice A0_2 l0_2.length c0_2] 25 (0, 0)) (by (with_reducible repeat (first | refine blk_drewN ?_ _ | refine blk_drew ?_ | refine blk_alloc ?_ _)); exact BK240.out) hg (Kd.R_ne HO_15.out BK240.out (by decide)))
                                 have n5_ := Aside0.mk (blk_grown (g := gb241) (o := .cells #[.slice none 0 0, .slice none 0 0, .slice none 0 0] 25 (0, 0)) (by (with_reducible repeat (first | refine blk_drewN ?_ _ | refine blk_drew ?_ | refine blk_alloc ?_ _)); exact BK241.out) hg (Kd.R_ne HO_15.out BK241.out (by decide)))
                                 have n6_ := Aside0.mk (blk_grown (g := gb258) (o := .cells #[u259000, u259001, .slice none 0 0] 25 (0, 0)) (by (with_reducible repeat (first | refine blk_drewN ?_ _ | refine blk_drew ?_ | refine blk_alloc ?_ _)); exact BK258.out) hg (Kd.R_ne HO_15.out BK258.out (by decide)))
                                 have n7_ := Aside0.mk (hb)
                                 have n8_ := Aside0.mk (ho)
                                 clear HO_5
                                 clear HO_9
                                 clear HO_259000
                                 clear HO_259001
                                 clear BK240
                                 clear BK241
                                 clear BK258
                                 clear HB
                                 clear HO_15
                                 have HO_5 := n0_
                                 have HO_9 := n1_
                                 have HO_259000 := n2_
                                 have HO_259001 := n3_
                                 have BK240 := n4_
                                 have BK241 := n5_
                                 have BK258 := n6_
                                 have HB := n7_
                                 have HO273 := n8_
                                 clear n0_ n1_ n2_ n3_ n4_ n5_ n6_ n7_ n8_
                                 clear ho hb hg hat
                                 refine hK.out _ _ ?_
                                 clear hK K
                                 refine norm_ (a' := ?_) ?_ ?_
                                 rotate_left
                                 ·show Act.put _ (some 168) _ = _
                                  simp only [Act.put, List.setIfInBounds_toArray, List.set_cons_zero, List.set_cons_succ, i64_w, i32_w]
                                  rfl
                                 refine pure_ (i := 25) (N := some 15) (v := ?_) (a' := ?_) #[true, true, true, true, true, true, true, true, true, true, true, true, true, true, true, true, true, true, true, true, true, true, true, true, true, true] rfl rfl (any_of HT_.out (by kernel_rfl)) (fun _ _ _ h => h) (Or.inl ⟨by rfl, ?_⟩) ?_ ?_
                                 rotate_left
                                 ·intro w'
                                  go_simp
                                  with_reducible rfl
                                 rotate_left
                                 ·simp only [Act.put, List.setIfInBounds_toArray, List.set_cons_zero, List.set_cons_succ, i64_w, i32_w]
                                  rfl
                                 refine done_ (done_of HT_.out (by kernel_rfl)) ?_
                                 try go_wp2
                                 go_roundg k6
                                 case measure => have := HK1.out; have := HK2.out; have := HK3.out; have := HK4.out; have := HK5.out; have := HK6.out; omega
                                 case rel => exact ⟨(y271), (wrap64 (x16_6 + 1)), (by first | rfl | (simp; done) | (simp [*]; done)), H', ⟨by have := HK1.out; have := HK2.out; have := HK3.out; have := HK4.out; have := HK5.out; have := HK6.out; omega⟩, ⟨by (with_reducible repeat (first | apply Kd.R_alloc | apply Kd.R_drewN | apply Kd.R_drew)); exact HO_5.out⟩, ⟨by (with_reducible repeat (first | apply Kd.R_alloc | apply Kd.R_drewN | apply Kd.R_drew)); exact HO_9.out⟩, ⟨by (with_reducible repeat (first | apply Kd.R_alloc | apply Kd.R_drewN | apply Kd.R_drew)); exact HO273.out⟩, ⟨by (with_reducible repeat (first | apply Kd.R_alloc | apply Kd.R_drewN | apply Kd.R_drew)); exact HO_259000.out⟩, ⟨by (with_reducible repeat (first | apply Kd.S_alloc | apply Kd.S_drewN | apply Kd.S_drew)); exact Kd.S_mono HO_259001.out (fun _ hk => hk.2)⟩, ⟨by (with_reducible repeat (first | refine blk_drewN ?_ _ | refine blk_drew ?_ | refine blk_alloc ?_ _)); exact BK240.out⟩, ⟨by (with_reducible repeat (first | refine blk_drewN ?_ _ | refine blk_drew ?_ | refine blk_alloc ?_ _)); exact BK241.out⟩, ⟨by (with_reducible repeat (first | refine blk_drewN ?_ _ | refine blk_drew ?_ | refine blk_alloc ?_ _)); exact BK258.out⟩, ⟨by repeat (first | (with_reducible first | exact HB.out | apply below_alloc | apply pw_below_drewN | apply below_drew1 | refine below_set ?_ GE240.out | refine below_set ?_ GE241.out | refine below_set ?_ GE258.out) | exact HB.out)⟩⟩
                                ·rw [if_neg c91] at H
                                 exact absurd H (by simp)
                               ·rw [if_neg c90] at H
                                exact absurd H (by simp)
                              ·rw [if_neg c89] at H
                               exact absurd H (by simp)
                             ·rw [if_neg c88] at H
                              exact absurd H (by simp)
                            ·rw [if_neg c87] at H
                             have c87b0 : decide (x16_6 < ((rd_L4 l0_1 x14_5).length : Int)) = false := decide_eq_false c87
                             clear c87
                             by_cases c98 : x259001_5.length < 5864062014805
                             ·rw [if_pos c98] at H
                              have LMc98 := Aside0.mk c98
                              clear c98
                              obtain ⟨y274, hy274⟩ : ∃ y_ : List (List (S64)), y_ = (x259001_5 ++ [x15_6]) := ⟨_, rfl⟩
                              replace H : (recoupref21_Trim.l5 k6 (l0_0.length : Int) x5_2 x9_3 (wrap64 (x14_5 + 1)) l0_0 l0_1 l0_2 x259000_4 y274) = some (r1, r2, r3, r4) := by first | (rw [hy274]; with_reducible exact H) | (have H2_ := (Option.bind_some _ _).symm.trans H; rw [hy274]; with_reducible exact H2_) | (have H2_ := (Option.bind_some _ _).symm.trans H; with_reducible exact H2_) | with_reducible exact H | (rw [hy274]; exact H) | exact H
                              have Ny274 := Aside0.mk hy274
                              clear hy274
                              have H' := Aside0.mk H
                              clear H
                              have hnb99 := NB240_241.out
                              have hnc99 := NB241_240.out
                              have hnb100 := NB240_258.out
                              have hnc100 := NB258_240.out
                              have hcz101_0 : wr.cell? ⟨gb240, 0, none⟩ = some (.slice A0_0 l0_0.length c0_0) := (blk_cell BK240.out 0).trans rfl
                              have hcz101_1 : wr.cell? ⟨gb240, 1, none⟩ = some (.slice A0_1 l0_1.length c0_1) := (blk_cell BK240.out 1).trans rfl
                              have hcz101_2 : wr.cell? ⟨gb240, 2, none⟩ = some (.slice A0_2 l0_2.length c0_2) := (blk_cell BK240.out 2).trans rfl
                              have hfz101_0 := blk_frozen BK240.out 0
                              have hfz101_1 := blk_frozen BK240.out 1
                              have hfz101_2 := blk_frozen BK240.out 2
                              have p265 : 0 ≤ (x14_5 : Int) := of_decide_eq_true (by first | (with_reducible assumption) | assumption)
                              have q265 : x14_5 < (l0_1.length : Int) := of_decide_eq_true (by first | (with_reducible assumption) | assumption)
                              obtain ⟨ad265, A265_0, c265_0, e265, hx265_0, hl265_0, hi265_0⟩ := at_L4 HR0_1.out x14_5 p265 q265
                              cases e265
                              replace hx265_0 := (HB.out.cell (World.block_lt_of_cell? w _ hx265_0)).trans hx265_0
                              have HR265_0 := Aside0.mk hi265_0
                              have HC265_0 := Aside0.mk hl265_0
                              clear hi265_0 hl265_0
                              replace p265 := eq_true p265
                              replace q265 := eq_true q265
                              have hnb102 := NB258_241.out
                              have hnc102 := NB241_258.out
                              have hcz103_0 : wr.cell? ⟨gb258, 0, none⟩ = some (u259000) := (blk_cell BK258.out 0).trans rfl
                              have hcz103_1 : wr.cell? ⟨gb258, 1, none⟩ = some (u259001) := (blk_cell BK258.out 1).trans rfl
                              have hcz103_2 : wr.cell? ⟨gb258, 2, none⟩ = some (.slice none 0 0) := (blk_cell BK258.out 2).trans rfl
                              have hfz103_0 := blk_frozen BK258.out 0
                              have hfz103_1 := blk_frozen BK258.out 1
                              have hfz103_2 := blk_frozen BK258.out 2
                              obtain ⟨Ao105, co105, eo105⟩ := Kd.R_slice HO_15.out
                              subst eo105
                              go_wp2_with (first | ((with_reducible refine gate_builtin (b := .append) (xs := #[.tmp 170, .tmp 172]) rfl ?_); at_builtin; refine Kd.S_append (Kd.slice 64 k64) (w0 := w) w.heap.size rfl (.tmp 170) (.tmp 172) 23 62 (.slice none 0 0) 24 rfl Try.underlying23 info62 rfl (by decide) (by omega) u259001 x259001_5 x15_6 [.slice Ao105 x15_6.length co105] (fun _ => True) (fun k_ => some k_ = (.slice Ao105 x15_6.length co105 : Value).ownBlock) rfl rfl ?aP (fun k_ hk_ => ((Kd.R_mono (ok' := fun k_ => ((fun _ => True)) k_ ∧ some k_ ≠ (u259001 : Value).ownBlock) (Kd.R_apart' (HO_15.out) (Kd.S_typed HO_259001.out) (by decide)) (fun k_ hk => ⟨trivial, hk.2⟩))).1 k_ hk_.symm) ?aF ?aO ?aB ?aS ?aL ?_; (case aP => exact Kd.M_row (Kd.R_mono (Kd.R_tight rfl (Kd.R_mono (ok' := fun k_ => ((fun _ => True)) k_ ∧ some k_ ≠ (u259001 : Value).ownBlock) (Kd.R_apart' (HO_15.out) (Kd.S_typed HO_259001.out) (by decide)) (fun k_ hk => ⟨trivial, hk.2⟩))) (fun _ h_ => h_))); (case aB => exact (by repeat (first | (with_reducible first | exact HB.out | apply below_alloc | apply pw_below_drewN | apply below_drew1 | refine below_set ?_ GE240.out | refine below_set ?_ GE241.out | refine below_set ?_ GE258.out) | exact HB.out))); (case aF => exact (fun _ _ => trivial)); (case aO => exact (by (with_reducible repeat (first | apply Kd.S_alloc | apply Kd.S_drewN | apply Kd.S_drew)); exact Kd.S_mono HO_259001.out (fun k_ hk => ⟨trivial, fun e_ => hk e_⟩))); (case aS => exact (below_size (by repeat (first | (with_reducible first | exact HB.out | apply below_alloc | apply pw_below_drewN | apply below_drew1 | refine below_set ?_ GE240.out | refine below_set ?_ GE241.out | refine below_set ?_ GE258.out) | exact HB.out)))); (case aL => have := LMc98.out; omega); intro v275 w104 ho hb hg hat; rw [← Ny274.out] at ho; have n0_ := Aside0.mk (Kd.R_over' (by (with_reducible repeat (first | apply Kd.R_alloc | apply Kd.R_drewN | apply Kd.R_drew)); exact HO_5.out) (Kd.S_typed (by (with_reducible repeat (first | apply Kd.S_alloc | apply Kd.S_drewN | apply Kd.S_drew)); exact HO_259001.out)) (by decide) hg); have n1_ := Aside0.mk (Kd.R_over' (by (with_reducible repeat (first | apply Kd.R_alloc | apply Kd.R_drewN | apply Kd.R_drew)); exact HO_9.out) (Kd.S_typed (by (with_reducible repeat (first | apply Kd.S_alloc | apply Kd.S_drewN | apply Kd.S_drew)); exact HO_259001.out)) (by decide) hg); have n2_ := Aside0.mk (Kd.R_over' (by (with_reducible repeat (first | apply Kd.R_alloc | apply Kd.R_drewN | apply Kd.R_drew)); exact HO_259000.out) (Kd.S_typed (by (with_reducible repeat (first | apply Kd.S_alloc | apply Kd.S_drewN | apply Kd.S_drew)); exact HO_259001.out)) (by decide) hg); have n3_ := Aside0.mk (blk_grown (g := gb240) (o := .cells #[.slice A0_0 l0_0.length c0_0, .slice (some ad265) l0_1.length c0_1, .slice A0_2 l0_2.length c0_2] 25 (0, 0)) (by (with_reducible repeat (first | refine blk_drewN ?_ _ | refine blk_drew ?_ | refine blk_alloc ?_ _)); exact BK240.out) hg (Kd.S_ne HO_259001.out BK240.out (by decide))); have n4_ := Aside0.mk (blk_grown (g := gb241) (o := .cells #[.slice none 0 0, .slice none 0 0, .slice none 0 0] 25 (0, 0)) (by (with_reducible repeat (first | refine blk_drewN ?_ _ | refine blk_drew ?_ | refine blk_alloc ?_ _)); exact BK241.out) hg (Kd.S_ne HO_259001.out BK241.out (by decide))); have n5_ := Aside0.mk (blk_grown (g := gb258) (o := .cells #[u259000, u259001, .slice none 0 0] 25 (0, 0)) (by (with_reducible repeat (first | refine blk_drewN ?_ _ | refine blk_drew ?_ | refine blk_alloc ?_ _)); exact BK258.out) hg (Kd.S_ne HO_259001.out BK258.out (by decide))); have n6_ := Aside0.mk (hb); have n7_ := Aside0.mk (ho); clear HO_5; clear HO_9; clear HO_259000; clear BK240; clear BK241; clear BK258; clear HB; clear HO_259001; clear HO_15; have HO_5 := n0_; have HO_9 := n1_; have HO_259000 := n2_; have BK240 := n3_; have BK241 := n4_; have BK258 := n5_; have HB := n6_; have HO276 := n7_; clear n0_ n1_ n2_ n3_ n4_ n5_ n6_ n7_; clear ho hb hg hat; obtain ⟨Ao106, co106, eo106⟩ := Kd.S_slice HO276.out; subst eo106; have hcz107_0 : w104.cell? ⟨gb258, 0, none⟩ = some (u259000) := (blk_cell BK258.out 0).trans rfl; have hcz107_1 : w104.cell? ⟨gb258, 1, none⟩ = some (u259001) := (blk_cell BK258.out 1).trans rfl; have hcz107_2 : w104.cell? ⟨gb258, 2, none⟩ = some (.slice none 0 0) := (blk_cell BK258.out 2).trans rfl; have hfz107_0 := blk_frozen BK258.out 0; have hfz107_1 := blk_frozen BK258.out 1; have hfz107_2 := blk_frozen BK258.out 2))
                              go_roundg k6
                              case measure => have := HK1.out; have := HK2.out; have := HK3.out; have := HK4.out; have := HK5.out; have := HK6.out; omega
                              case rel => exact ⟨(wrap64 (x14_5 + 1)), (y274), (.slice Ao106 y274.length co106), (by first | rfl | (simp; done) | (simp [*]; done)), H', ⟨by have := HK1.out; have := HK2.out; have := HK3.out; have := HK4.out; have := HK5.out; have := HK6.out; omega⟩, ⟨by (with_reducible repeat (first | apply Kd.R_alloc | apply Kd.R_drewN | apply Kd.R_drew)); exact Kd.R_mono (Kd.R_far (p := ⟨gb258, 1, none⟩) (Kd.R_types HO_5.out BK258.out (by decide)) (fun _ hk => hk.2) (.slice Ao106 y274.length co106)) (fun _ hk => trivial)⟩, ⟨by (with_reducible repeat (first | apply Kd.R_alloc | apply Kd.R_drewN | apply Kd.R_drew)); exact Kd.R_mono (Kd.R_far (p := ⟨gb258, 1, none⟩) (Kd.R_types HO_9.out BK258.out (by decide)) (fun _ hk => hk.2) (.slice Ao106 y274.length co106)) (fun _ hk => hk.1)⟩, ⟨by (with_reducible repeat (first | apply Kd.R_alloc | apply Kd.R_drewN | apply Kd.R_drew)); exact Kd.R_mono (Kd.R_far (p := ⟨gb258, 1, none⟩) (Kd.R_types HO_259000.out BK258.out (by decide)) (fun _ hk => hk.2) (.slice Ao106 y274.length co106)) (fun _ hk => hk.1)⟩, ⟨by (with_reducible repeat (first | apply Kd.S_alloc | apply Kd.S_drewN | apply Kd.S_drew)); exact Kd.S_mono (Kd.S_far (p := ⟨gb258, 1, none⟩) (Kd.S_types HO276.out BK258.out (by decide)) (fun _ hk => hk.2) (.slice Ao106 y274.length co106)) (fun _ hk => trivial)⟩, ⟨by (with_reducible repeat (first | refine blk_drewN ?_ _ | refine blk_drew ?_ | refine blk_alloc ?_ _)); refine blk_far ?_ NB240_258.out _; (with_reducible repeat (first | refine blk_drewN ?_ _ | refine blk_drew ?_ | refine blk_alloc ?_ _)); exact BK240.out⟩, ⟨by (with_reducible repeat (first | refine blk_drewN ?_ _ | refine blk_drew ?_ | refine blk_alloc ?_ _)); refine blk_far ?_ NB241_258.out _; (with_reducible repeat (first | refine blk_drewN ?_ _ | refine blk_drew ?_ | refine blk_alloc ?_ _)); exact BK241.out⟩, ⟨by (with_reducible repeat (first | refine blk_drewN ?_ _ | refine blk_drew ?_ | refine blk_alloc ?_ _)); refine blk_put (cs := #[u259000, u259001, .slice none 0 0]) ?_ 1 _ rfl; (with_reducible repeat (first | refine blk_drewN ?_ _ | refine blk_drew ?_ | refine blk_alloc ?_ _)); exact BK258.out⟩, ⟨by repeat (first | (with_reducible first | exact HB.out | apply below_alloc | apply pw_below_drewN | apply below_drew1 | refine below_set ?_ GE240.out | refine below_set ?_ GE241.out | refine below_set ?_ GE258.out) | exact HB.out)⟩⟩
                             ·rw [if_neg c98] at H
                              exact absurd H (by simp)
                           ·rw [if_neg c86] at H
                            exact absurd H (by simp)
                          ·rw [if_neg c85] at H
                           exact absurd H (by simp)
                       ·replace c81 := Bool.eq_false_iff.mpr c81
                        subst c81
                        have H1 : (recoupref21_Trim.l5 k5 (l0_0.length : Int) x5_2 x9_3 (wrap64 (x14_5 + 1)) l0_0 l0_1 l0_2 x259000_4 x259001_5) = some (r1, r2, r3, r4) := by rw [if_neg (show ¬ (false = true) by decide)] at H; exact H
                        clear H
                        have H := H1
                        clear H1
                        have H' := Aside0.mk H
                        clear H
                        have hnb108 := NB240_241.out
                        have hnc108 := NB241_240.out
                        have hnb109 := NB240_258.out
                        have hnc109 := NB258_240.out
                        have hcz110_0 : wr.cell? ⟨gb240, 0, none⟩ = some (.slice A0_0 l0_0.length c0_0) := (blk_cell BK240.out 0).trans rfl
                        have hcz110_1 : wr.cell? ⟨gb240, 1, none⟩ = some (.slice A0_1 l0_1.length c0_1) := (blk_cell BK240.out 1).trans rfl
                        have hcz110_2 : wr.cell? ⟨gb240, 2, none⟩ = some (.slice A0_2 l0_2.length c0_2) := (blk_cell BK240.out 2).trans rfl
                        have hfz110_0 := blk_frozen BK240.out 0
                        have hfz110_1 := blk_frozen BK240.out 1
                        have hfz110_2 := blk_frozen BK240.out 2
                        have p264 : 0 ≤ ((ji77) : Int) := of_decide_eq_true (by first | (with_reducible assumption) | assumption)
                        have q264 : (ji77) < (x5_2.length : Int) := of_decide_eq_true (by first | (with_reducible assumption) | assumption)
                        obtain ⟨ad264, e264, hx264_0⟩ := Kd.at_bool (Kd.R_reads' HO_5.out).2.2 (ji77) p264 q264
                        (try rw [← Nbq80.out] at hx264_0)
                        cases e264
                        replace p264 := eq_true p264
                        replace q264 := eq_true q264
                        go_wp2
                        go_roundg k5
                        case measure => have := HK1.out; have := HK2.out; have := HK3.out; have := HK4.out; have := HK5.out; omega
                        case rel => exact ⟨(wrap64 (x14_5 + 1)), (x259001_5), (u259001), (by first | rfl | (simp; done) | (simp [*]; done)), H', ⟨by have := HK1.out; have := HK2.out; have := HK3.out; have := HK4.out; have := HK5.out; omega⟩, ⟨by (with_reducible repeat (first | apply Kd.R_alloc | apply Kd.R_drewN | apply Kd.R_drew)); exact HO_5.out⟩, ⟨by (with_reducible repeat (first | apply Kd.R_alloc | apply Kd.R_drewN | apply Kd.R_drew)); exact HO_9.out⟩, ⟨by (with_reducible repeat (first | apply Kd.R_alloc | apply Kd.R_drewN | apply Kd.R_drew)); exact HO_259000.out⟩, ⟨by (with_reducible repeat (first | apply Kd.S_alloc | apply Kd.S_drewN | apply Kd.S_drew)); exact HO_259001.out⟩, ⟨by (with_reducible repeat (first | refine blk_drewN ?_ _ | refine blk_drew ?_ | refine blk_alloc ?_ _)); exact BK240.out⟩, ⟨by (with_reducible repeat (first | refine blk_drewN ?_ _ | refine blk_drew ?_ | refine blk_alloc ?_ _)); exact BK241.out⟩, ⟨by (with_reducible repeat (first | refine blk_drewN ?_ _ | refine blk_drew ?_ | refine blk_alloc ?_ _)); exact BK258.out⟩, ⟨by repeat (first | (with_reducible first | exact HB.out | apply below_alloc | apply pw_below_drewN | apply below_drew1 | refine below_set ?_ GE240.out | refine below_set ?_ GE241.out | refine below_set ?_ GE258.out) | exact HB.out)⟩⟩
                      ·rw [if_neg c79] at H
                       exact absurd H (by simp)
                     ·rw [if_neg c78] at H
                      exact absurd H (by simp)
                    ·rw [if_neg c76] at H
                     have c76b0 : decide (x14_5 < (l0_1.length : Int)) = false := decide_eq_false c76
                     clear c76
                     have H' := Aside0.mk H
                     clear H
                     have hnb111 := NB240_241.out
                     have hnc111 := NB241_240.out
                     have hnb112 := NB240_258.out
                     have hnc112 := NB258_240.out
                     have hcz113_0 : wr.cell? ⟨gb240, 0, none⟩ = some (.slice A0_0 l0_0.length c0_0) := (blk_cell BK240.out 0).trans rfl
                     have hcz113_1 : wr.cell? ⟨gb240, 1, none⟩ = some (.slice A0_1 l0_1.length c0_1) := (blk_cell BK240.out 1).trans rfl
                     have hcz113_2 : wr.cell? ⟨gb240, 2, none⟩ = some (.slice A0_2 l0_2.length c0_2) := (blk_cell BK240.out 2).trans rfl
                     have hfz113_0 := blk_frozen BK240.out 0
                     have hfz113_1 := blk_frozen BK240.out 1
                     have hfz113_2 := blk_frozen BK240.out 2
                     go_wp2
                     go_loopg [17] k5 (fun kq v17 w' => ∃ (x17_6 : Int) (x259002_6 : List Int) (u259002 : Value), v17 = .int .i64 x17_6 ∧ Aside0 (recoupref21_Trim.l7 kq x9_3 x17_6 l0_0 l0_1 l0_2 x259000_4 x259001_5 x259002_6 = some (r1, r2, r3, r4)) ∧ Aside0 (kq ≤ k5) ∧ Aside0 (Kd.R (Kd.int .i64) 3 w' w.heap.size (fun k_ => some k_ ≠ (u259000 : Value).ownBlock ∧ some k_ ≠ (u259002 : Value).ownBlock) v254 x9_3) ∧ Aside0 (Kd.R (Kd.int .i64) 3 w' w.heap.size (fun k_ => some k_ ≠ (v254 : Value).ownBlock ∧ some k_ ≠ (u259002 : Value).ownBlock) u259000 x259000_4) ∧ Aside0 (Kd.S (Kd.slice 64 k64) 62 w' w.heap.size (fun _ => True) u259001 x259001_5) ∧ Aside0 (Kd.R (Kd.int .i64) 3 w' w.heap.size (fun k_ => some k_ ≠ (v254 : Value).ownBlock ∧ some k_ ≠ (u259000 : Value).ownBlock) u259002 x259002_6) ∧ Aside0 (w'.heap[gb240]? = some (.cells #[(.slice A0_0 l0_0.length c0_0), (.slice A0_1 l0_1.length c0_1), (.slice A0_2 l0_2.length c0_2)] 25 (0, 0))) ∧ Aside0 (w'.heap[gb241]? = some (.cells #[(.slice none 0 0), (.slice none 0 0), (.slice none 0 0)] 25 (0, 0))) ∧ Aside0 (w'.heap[gb258]? = some (.cells #[u259000, u259001, u259002] 25 (0, 0))) ∧ Aside0 (Below w.heap.size w w'))
                     case atStart => exact ⟨(0), (([] : List Int)), (.slice none 0 0), (by first | rfl | (simp; done) | (simp [*]; done)), H', ⟨Nat.le_refl _⟩, ⟨by (with_reducible repeat (first | apply Kd.R_alloc | apply Kd.R_drewN | apply Kd.R_drew)); exact Kd.R_mono HO_9.out (fun _ hk => ⟨hk, (by simp [Value.ownBlock])⟩)⟩, ⟨by (with_reducible repeat (first | apply Kd.R_alloc | apply Kd.R_drewN | apply Kd.R_drew)); exact Kd.R_mono HO_259000.out (fun _ hk => ⟨hk, (by simp [Value.ownBlock])⟩)⟩, ⟨by (with_reducible repeat (first | apply Kd.S_alloc | apply Kd.S_drewN | apply Kd.S_drew)); exact HO_259001.out⟩, ⟨by first | exact Kd.R_nil _ _ _ _ _ | exact Kd.N_nil _ _ _ _ _ | exact Kd.V_nil _ _ _ _ _ | exact Kd.Q_nil _ _ _ _ _ | exact Kd.S_nil _ _ _ _ _⟩, ⟨by (with_reducible repeat (first | refine blk_drewN ?_ _ | refine blk_drew ?_ | refine blk_alloc ?_ _)); exact BK240.out⟩, ⟨by (with_reducible repeat (first | refine blk_drewN ?_ _ | refine blk_drew ?_ | refine blk_alloc ?_ _)); exact BK241.out⟩, ⟨by (with_reducible repeat (first | refine blk_drewN ?_ _ | refine blk_drew ?_ | refine blk_alloc ?_ _)); exact BK258.out⟩, ⟨by repeat (first | (with_reducible first | exact HB.out | apply below_alloc | apply pw_below_drewN | apply below_drew1 | refine below_set ?_ GE240.out | refine below_set ?_ GE241.out | refine below_set ?_ GE258.out) | exact HB.out)⟩⟩
                     case round =>
                      clear H'
                      try clear c1
                      try clear p1
                      try clear q1
                      try clear hx1
                      try clear c2
                      try clear p2
                      try clear q2
                      try clear hx2
                      try clear p3
                      try clear q3
                      try clear hx3
                      try clear p5
                      try clear q5
                      try clear hx5
                      try clear p6
                      try clear q6
                      try clear c7
                      try clear c8
                      try clear q8
                      try clear c9
                      try clear c10
                      try clear c11
                      try clear p19
                      try clear q19
                      try clear hx19
                      try clear p24
                      try clear q24
                      try clear hx24
                      try clear p25
                      try clear q25
                      try clear hx25
                      try clear c26
                      try clear p26
                      try clear q26
                      try clear hx26
                      try clear p27
                      try clear q27
                      try clear hx27
                      try clear q33
                      try clear p38
                      try clear q38
                      try clear hx38
                      try clear p57
                      try clear q57
                      try clear hx57
                      try clear q58
                      try clear p64
                      try clear q68
                      try clear c76
                      try clear c76b0
                      try clear c78
                      try clear c79
                      try clear q80
                      try clear c81
                      try clear c85
                      try clear c85b0
                      try clear c86
                      try clear c86b0
                      try clear c87
                      try clear c87b0
                      try clear c88
                      try clear c88b0
                      try clear c89
                      try clear c89b0
                      try clear c90
                      try clear c90b0
                      try clear c91
                      try clear c92
                      try clear c93
                      try clear c98
                      try clear c99
                      try clear c100
                      try clear c102
                      try clear c108
                      try clear c109
                      try clear c111
                      try clear c112
                      try clear hcz101_0
                      try clear hcz101_1
                      try clear hcz101_2
                      try clear hcz103_0
                      try clear hcz103_1
                      try clear hcz103_2
                      try clear hcz107_0
                      try clear hcz107_1
                      try clear hcz107_2
                      try clear hcz110_0
                      try clear hcz110_1
                      try clear hcz110_2
                      try clear hcz113_0
                      try clear hcz113_1
                      try clear hcz113_2
                      try clear hcz84_2
                      try clear hcz94_0
                      try clear hcz94_1
                      try clear hcz94_2
                      try clear hfz101_0
                      try clear hfz101_1
                      try clear hfz101_2
                      try clear hfz103_0
                      try clear hfz103_1
                      try clear hfz103_2
                      try clear hfz107_0
                      try clear hfz107_1
                      try clear hfz107_2
                      try clear hfz10_0
                      try clear hfz10_1
                      try clear hfz10_2
                      try clear hfz110_0
                      try clear hfz110_1
                      try clear hfz110_2
                      try clear hfz113_0
                      try clear hfz113_1
                      try clear hfz113_2
                      try clear hfz12_0
                      try clear hfz12_1
                      try clear hfz12_2
                      try clear hfz21_0
                      try clear hfz21_1
                      try clear hfz21_2
                      try clear hfz25_0
                      try clear hfz25_1
                      try clear hfz25_2
                      try clear hfz40_0
                      try clear hfz40_1
                      try clear hfz40_2
                      try clear hfz45_0
                      try clear hfz45_1
                      try clear hfz45_2
                      try clear hfz48_0
                      try clear hfz48_1
                      try clear hfz48_2
                      try clear hfz84_0
                      try clear hfz84_1
                      try clear hfz84_2
                      try clear hfz94_0
                      try clear hfz94_1
                      try clear hfz94_2
                      try clear hx19_0
                      try clear hx246_0
                      try clear hx248_0
                      try clear hx249_0
                      try clear hx250_0
                      try clear hx251_0
                      try clear hx251_1
                      try clear hx257_0
                      try clear hx259_0
                      try clear hx260_0
                      try clear hx264_0
                      try clear hx265_0
                      try clear hx266_0
                      try clear hx267_0
                      try clear hx267_1
                      try clear hx268_0
                      try clear hx269_0
                      try clear hx270_0
                      try clear hx270_1
                      try clear hx38_0
                      try clear hx57_0
                      try clear p1
                      try clear p19
                      try clear p2
                      try clear p24
                      try clear p246
                      try clear p248
                      try clear p249
                      try clear p25
                      try clear p250
                      try clear p251
                      try clear p257
                      try clear p259
                      try clear p26
                      try clear p260
                      try clear p264
                      try clear p265
                      try clear p266
                      try clear p267
                      try clear p268
                      try clear p269
                      try clear p270
                      try clear p3
                      try clear p38
                      try clear p5
                      try clear p57
                      try clear p6
                      try clear p64
                      try clear q1
                      try clear q19
                      try clear q2
                      try clear q24
                      try clear q246
                      try clear q248
                      try clear q249
                      try clear q25
                      try clear q250
                      try clear q251
                      try clear q257
                      try clear q259
                      try clear q26
                      try clear q260
                      try clear q264
                      try clear q265
                      try clear q266
                      try clear q267
                      try clear q268
                      try clear q269
                      try clear q270
                      try clear q3
                      try clear q33
                      try clear q38
                      try clear q5
                      try clear q57
                      try clear q58
                      try clear q6
                      try clear q68
                      obtain ⟨x17_6, x259002_6, u259002, rfl, HA, HK6, HO_9, HO_259000, HO_259001, HO_259002, BK240, BK241, BK258, HB⟩ := hrel
                      cases gk with
                      | zero => exact absurd HA.out (by simp [recoupref21_Trim.l7])
                      | succ k6 =>
                       have H := HA.out
                       clear HA
                       simp only [recoupref21_Trim.l7] at H
                       by_cases c114 : x17_6 < (l0_2.length : Int)
                       ·rw [if_pos c114] at H
                        have c114b0 : decide (x17_6 < (l0_2.length : Int)) = true := decide_eq_true c114
                        clear c114
                        by_cases c115 : 0 ≤ x17_6
                        ·rw [if_pos c115] at H
                         have c115b0 : decide (0 ≤ x17_6) = true := decide_eq_true c115
                         clear c115
                         by_cases c116 : 0 ≤ (rd l0_2 x17_6)
                         ·rw [if_pos c116] at H
                          have c116b0 : decide (0 ≤ (rd l0_2 x17_6)) = true := decide_eq_true c116
                          clear c116
                          by_cases c117 : (rd l0_2 x17_6) < (x9_3.length : Int)
                          ·rw [if_pos c117] at H
                           have c117b0 : decide ((rd l0_2 x17_6) < (x9_3.length : Int)) = true := decide_eq_true c117
                           clear c117
                           by_cases c118 : x259002_6.length < 17592186044416
                           ·rw [if_pos c118] at H
                            have LMc118 := Aside0.mk c118
                            clear c118
                            obtain ⟨y279, hy279⟩ : ∃ y_ : List Int, y_ = (x259002_6 ++ [rd x9_3 (rd l0_2 x17_6)]) := ⟨_, rfl⟩
                            replace H : (recoupref21_Trim.l7 k6 x9_3 (wrap64 (x17_6 + 1)) l0_0 l0_1 l0_2 x259000_4 x259001_5 y279) = some (r1, r2, r3, r4) := by first | (rw [hy279]; with_reducible exact H) | (have H2_ := (Option.bind_some _ _).symm.trans H; rw [hy279]; with_reducible exact H2_) | (have H2_ := (Option.bind_some _ _).symm.trans H; with_reducible exact H2_) | with_reducible exact H | (rw [hy279]; exact H) | exact H
                            have Ny279 := Aside0.mk hy279
                            clear hy279
                            have H' := Aside0.mk H
                            clear H
                            have hnb119 := NB240_241.out
                            have hnc119 := NB241_240.out
                            have hnb120 := NB240_258.out
                            have hnc120 := NB258_240.out
                            have hcz121_0 : wr.cell? ⟨gb240, 0, none⟩ = some (.slice A0_0 l0_0.length c0_0) := (blk_cell BK240.out 0).trans rfl
                            have hcz121_1 : wr.cell? ⟨gb240, 1, none⟩ = some (.slice A0_1 l0_1.length c0_1) := (blk_cell BK240.out 1).trans rfl
                            have hcz121_2 : wr.cell? ⟨gb240, 2, none⟩ = some (.slice A0_2 l0_2.length c0_2) := (blk_cell BK240.out 2).trans rfl
                            have hfz121_0 := blk_frozen BK240.out 0
                            have hfz121_1 := blk_frozen BK240.out 1
                            have hfz121_2 := blk_frozen BK240.out 2
                            try go_wp2
                            have n0_ := Aside0.mk (Kd.R_drew HO_9.out)
                            have n1_ := Aside0.mk (Kd.R_drew HO_259000.out)
                            have n2_ := Aside0.mk (Kd.S_drew HO_259001.out)
                            have n3_ := Aside0.mk (Kd.R_drew HO_259002.out)
                            have n4_ := Aside0.mk (blk_drew BK240.out)
                            have n5_ := Aside0.mk (blk_drew BK241.out)
                            have n6_ := Aside0.mk (blk_drew BK258.out)
                            have n7_ := Aside0.mk (below_drew1 HB.out)
                            clear HO_9
                            clear HO_259000
                            clear HO_259001
                            clear HO_259002
                            clear BK240
                            clear BK241
                            clear BK258
                            clear HB
                            have HO_9 := n0_
                            have HO_259000 := n1_
                            have HO_259001 := n2_
                            have HO_259002 := n3_
                            have BK240 := n4_
                            have BK241 := n5_
                            have BK258 := n6_
                            have HB := n7_
                            clear n0_ n1_ n2_ n3_ n4_ n5_ n6_ n7_
                            have p277 : 0 ≤ (x17_6 : Int) := of_decide_eq_true (by first | (with_reducible assumption) | assumption)
                            have q277 : x17_6 < (l0_2.length : Int) := of_decide_eq_true (by first | (with_reducible assumption) | assumption)
                            obtain ⟨ad277, e277, hx277_0⟩ := Kd.at_int HR0_2.out x17_6 p277 q277
                            have hw277_0 := hx277_0
                            cases e277
                            replace hx277_0 := (HB.out.cell (World.block_lt_of_cell? w _ hx277_0)).trans hx277_0
                            replace p277 := eq_true p277
                            replace q277 := eq_true q277
                            obtain ⟨Ao123, co123, eo123⟩ := Kd.R_slice HO_9.out
                            (first | subst eo123 | (injection eo123 with f1_ f2_ f3_; have f4_ := f1_.symm; have f5_ := f3_.symm; clear f1_ f2_ f3_; subst f4_; subst f5_))
                            have p278 : 0 ≤ ((rd l0_2 x17_6) : Int) := of_decide_eq_true (by first | (with_reducible assumption) | assumption)
                            have q278 : (rd l0_2 x17_6) < (x9_3.length : Int) := of_decide_eq_true (by first | (with_reducible assumption) | assumption)
                            obtain ⟨ad278, e278, hx278_0⟩ := Kd.at_int (Kd.R_reads' HO_9.out).2.2 (rd l0_2 x17_6) p278 q278
                            cases e278
                            replace p278 := eq_true p278
                            replace q278 := eq_true q278
                            refine start_ (n := 14) (S := fun w' => w'.cell? ⟨gb258, 0, none⟩ = some (u259000) ∧ w'.cell? ⟨gb258, 1, none⟩ = some (u259001) ∧ w'.cell? ⟨gb258, 2, none⟩ = some (u259002) ∧ w'.cell? ⟨gb240, 0, none⟩ = some (.slice A0_0 l0_0.length c0_0) ∧ w'.cell? ⟨gb240, 1, none⟩ = some (.slice A0_1 l0_1.length c0_1) ∧ w'.cell? ⟨gb240, 2, none⟩ = some (.slice (some ad277) l0_2.length c0_2) ∧ w'.cell? (ad277.add (x17_6).toNat) = some (.int .i64 (rd l0_2 x17_6)) ∧ w'.cell? (ad278.add ((rd l0_2 x17_6)).toNat) = some (.int .i64 (rd x9_3 (rd l0_2 x17_6)))) (ds := [11, 13]) #[false, false, false, false, false, false, false, false, false, false, false, false, false, false] (by kernel_rfl) rfl rfl ⟨(blk_cell BK258.out 0).trans rfl, (blk_cell BK258.out 1).trans rfl, (blk_cell BK258.out 2).trans rfl, (blk_cell BK240.out 0).trans rfl, (blk_cell BK240.out 1).trans rfl, (blk_cell BK240.out 2).trans rfl, ((HB.out.cell (World.block_lt_of_cell? w _ hw277_0)).trans hw277_0), hx278_0⟩ (fun hHeld => ?_); refine with_tabW recoupref21_Trim.tab43 recoupref21_Trim.bits43 (fun HT_ HW_ => ?_)
                            generalize wr.drew = w122 at HO_9 HO_259000 HO_259001 HO_259002 BK240 BK241 BK258 HB hx277_0 hx278_0 hHeld ⊢
                            refine pure_ (i := 0) (N := some 182) (v := ?_) (a' := ?_) #[true, false, false, false, false, false, false, false, false, false, false, false, false, false] rfl rfl (any_of HT_.out (by kernel_rfl)) (fun _ _ _ h => h) (Or.inl ⟨by rfl, ?_⟩) ?_ ?_
                            rotate_left
                            ·intro w'
                             go_simp
                             with_reducible rfl
                            rotate_left
                            ·simp only [Act.put, List.setIfInBounds_toArray, List.set_cons_zero, List.set_cons_succ, i64_w, i32_w]
                             rfl
                            refine pure_ (i := 2) (N := some 184) (v := ?_) (a' := ?_) #[true, false, true, false, false, false, false, false, false, false, false, false, false, false] rfl rfl (any_of HT_.out (by kernel_rfl)) (fun _ _ _ h => h) (Or.inl ⟨by rfl, ?_⟩) ?_ ?_
                            rotate_left
                            ·intro w'
                             go_simp
                             with_reducible rfl
                            rotate_left
                            ·simp only [Act.put, List.setIfInBounds_toArray, List.set_cons_zero, List.set_cons_succ, i64_w, i32_w]
                             rfl
                            refine pure_ (i := 3) (N := some 185) (v := ?_) (a' := ?_) #[true, false, true, true, false, false, false, false, false, false, false, false, false, false] rfl rfl (any_of HT_.out (by kernel_rfl)) (fun _ _ _ h => h) (Or.inl ⟨by rfl, ?_⟩) ?_ ?_
                            rotate_left
                            ·intro w'
                             go_simp
                             with_reducible rfl
                            rotate_left
                            ·simp only [Act.put, List.setIfInBounds_toArray, List.set_cons_zero, List.set_cons_succ, i64_w, i32_w]
                             rfl
                            refine pure_ (i := 5) (N := some 187) (v := ?_) (a' := ?_) #[true, false, true, true, false, true, false, false, false, false, false, false, false, false] rfl rfl (any_of HT_.out (by kernel_rfl)) (fun _ _ _ h => h) (Or.inl ⟨by rfl, ?_⟩) ?_ ?_
                            rotate_left
                            ·intro w'
                             go_simp
                             with_reducible rfl
                            rotate_left
                            ·simp only [Act.put, List.setIfInBounds_toArray, List.set_cons_zero, List.set_cons_succ, i64_w, i32_w]
                             rfl
                            refine take_ (i := 1) (N := some 183) (v := ?_) (a' := ?_) #[true, true, true, true, false, true, false, false, false, false, false, false, false, false] rfl rfl (take_ofW HT_.out HW_.out (by kernel_rfl)) (fun _ _ _ h => h) (Or.inl ⟨by rfl, ?_⟩) hHeld ?_ ?_
                            rotate_left
                            ·rintro w' ⟨s0, s1, s2, s3, s4, s5, s6, s7⟩
                             go_simp
                             with_reducible rfl
                            rotate_left
                            ·simp only [Act.put, List.setIfInBounds_toArray, List.set_cons_zero, List.set_cons_succ, i64_w, i32_w]
                             rfl
                            refine take_ (i := 4) (N := some 186) (v := ?_) (a' := ?_) #[true, true, true, true, true, true, false, false, false, false, false, false, false, false] rfl rfl (take_ofW HT_.out HW_.out (by kernel_rfl)) (fun _ _ _ h => h) (Or.inl ⟨by rfl, ?_⟩) hHeld ?_ ?_
                            rotate_left
                            ·rintro w' ⟨s0, s1, s2, s3, s4, s5, s6, s7⟩
                             go_simp
                             with_reducible rfl
                            rotate_left
                            ·simp only [Act.put, List.setIfInBounds_toArray, List.set_cons_zero, List.set_cons_succ, i64_w, i32_w]
                             rfl
                            refine pure_ (i := 6) (N := some 188) (v := ?_) (a' := ?_) #[true, true, true, true, true, true, true, false, false, false, false, false, false, false] rfl rfl (any_of HT_.out (by kernel_rfl)) (fun _ _ _ h => h) (Or.inl ⟨by rfl, ?_⟩) ?_ ?_
                            rotate_left
                            ·intro w'
                             go_simp
                             with_reducible rfl
                            rotate_left
                            ·simp only [Act.put, List.setIfInBounds_toArray, List.set_cons_zero, List.set_cons_succ, i64_w, i32_w]
                             rfl
                            refine take_ (i := 7) (N := some 189) (v := ?_) (a' := ?_) #[true, true, true, true, true, true, true, true, false, false, false, false, false, false] rfl rfl (take_ofW HT_.out HW_.out (by kernel_rfl)) (fun _ _ _ h => h) (Or.inl ⟨by rfl, ?_⟩) hHeld ?_ ?_
                            rotate_left
                            ·rintro w' ⟨s0, s1, s2, s3, s4, s5, s6, s7⟩
                             go_simp
                             with_reducible rfl
                            rotate_left
                            ·simp only [Act.put, List.setIfInBounds_toArray, List.set_cons_zero, List.set_cons_succ, i64_w, i32_w]
                             rfl
                            refine pure_ (i := 8) (N := some 190) (v := ?_) (a' := ?_) #[true, true, true, true, true, true, true, true, true, false, false, false, false, false] rfl rfl (any_of HT_.out (by kernel_rfl)) (fun _ _ _ h => h) (Or.inl ⟨by rfl, ?_⟩) ?_ ?_
                            rotate_left
                            ·intro w'
                             go_simp
                             with_reducible rfl
                            rotate_left
                            ·simp only [Act.put, List.setIfInBounds_toArray, List.set_cons_zero, List.set_cons_succ, i64_w, i32_w]
                             rfl
                            refine take_ (i := 9) (N := some 191) (v := ?_) (a' := ?_) #[true, true, true, true, true, true, true, true, true, true, false, false, false, false] rfl rfl (take_ofW HT_.out HW_.out (by kernel_rfl)) (fun _ _ _ h => h) (Or.inl ⟨by rfl, ?_⟩) hHeld ?_ ?_
                            rotate_left
                            ·rintro w' ⟨s0, s1, s2, s3, s4, s5, s6, s7⟩
                             go_simp
                             with_reducible rfl
                            rotate_left
                            ·simp only [Act.put, List.setIfInBounds_toArray, List.set_cons_zero, List.set_cons_succ, i64_w, i32_w]
                             rfl
                            refine one_ (i := 10) (N := some 192) #[true, true, true, true, true, true, true, true, true, true, true, false, false, false] rfl rfl (one_of HT_.out (by kernel_rfl)) (by decide) (fun K hK => ?_)
                            refine value_ (w1 := ?_) (v := ?_) (by rfl) rfl ?_ ?_
                            rotate_left 2
                            ·go_simp
                             constructor
                             ·rfl
                             ·rfl
                            refine hK.out _ _ ⟨(blk_cell (blk_alloc BK258.out _) 0).trans rfl, (blk_cell (blk_alloc BK258.out _) 1).trans rfl, (blk_cell (blk_alloc BK258.out _) 2).trans rfl, (blk_cell (blk_alloc BK240.out _) 0).trans rfl, (blk_cell (blk_alloc BK240.out _) 1).trans rfl, (blk_cell (blk_alloc BK240.out _) 2).trans rfl, (World.cell?_alloc_lt _ _ _ (World.block_lt_of_cell? _ _ (((HB.out.cell (World.block_lt_of_cell? w _ hw277_0)).trans hw277_0)))).trans (((HB.out.cell (World.block_lt_of_cell? w _ hw277_0)).trans hw277_0)), (World.cell?_alloc_lt _ _ _ (World.block_lt_of_cell? _ _ (hHeld.2.2.2.2.2.2.2))).trans (hHeld.2.2.2.2.2.2.2)⟩ (fun hHeld => ?_)
                            clear hK K
                            refine norm_ (a' := ?_) ?_ ?_
                            rotate_left
                            ·show Act.put _ (some 192) _ = _
                             simp only [Act.put, List.setIfInBounds_toArray, List.set_cons_zero, List.set_cons_succ, i64_w, i32_w]
                             rfl
                            refine last_ (i := 11) (N := some 193) #[true, true, true, true, true, true, true, true, true, true, true, true, false, false] rfl rfl (one_of HT_.out (by kernel_rfl)) (by decide) (fun K hK => ?_)
                            refine Kd.R_append_step (Kd.int .i64) (w0 := w) w.heap.size (by rfl) (.tmp 183) (.tmp 192) 22 3 (.int .i64 0) 8 rfl Try.underlying22 info3 rfl (by decide) (by omega) u259002 x259002_6 (rd x9_3 (rd l0_2 x17_6)) [.int .i64 (rd x9_3 (rd l0_2 x17_6))] (fun k_ => some k_ ≠ (.slice (some ad278) x9_3.length co123 : Value).ownBlock ∧ some k_ ≠ (u259000 : Value).ownBlock) (fun _ => False) rfl rfl ?aP (fun _ hk => hk.elim) ?aF ?aO ?aB ?aS ?aL ?_
                            (case aP => exact rfl)
                            (case aB => exact (by repeat (first | (with_reducible first | exact HB.out | apply below_alloc | apply pw_below_drewN | apply below_drew1 | refine below_set ?_ GE240.out | refine below_set ?_ GE241.out | refine below_set ?_ GE258.out) | exact HB.out)))
                            (case aF => exact (fun k_ hk => ⟨Kd.fresh' (Kd.R_lt (by (with_reducible repeat (first | apply Kd.R_alloc | apply Kd.R_drewN | apply Kd.R_drew)); exact HO_9.out)) k_ hk, Kd.fresh' (Kd.R_lt (by (with_reducible repeat (first | apply Kd.R_alloc | apply Kd.R_drewN | apply Kd.R_drew)); exact HO_259000.out)) k_ hk⟩))
                            (case aO => exact (by (with_reducible repeat (first | apply Kd.R_alloc | apply Kd.R_drewN | apply Kd.R_drew)); exact HO_259002.out))
                            (case aS => exact (below_size (by repeat (first | (with_reducible first | exact HB.out | apply below_alloc | apply pw_below_drewN | apply below_drew1 | refine below_set ?_ GE240.out | refine below_set ?_ GE241.out | refine below_set ?_ GE258.out) | exact HB.out))))
                            (case aL => have := LMc118.out; omega)
                            intro v280 w124 ho hb hg hat
                            rw [← Ny279.out] at ho
                            have n0_ := Aside0.mk (Kd.R_after (ok := (fun k_ => some k_ ≠ (u259000 : Value).ownBlock)) (by (with_reducible repeat (first | apply Kd.R_alloc | apply Kd.R_drewN | apply Kd.R_drew)); exact HO_9.out) hg hat)
                            have n1_ := Aside0.mk (Kd.R_after (ok := (fun k_ => some k_ ≠ (.slice (some ad278) x9_3.length co123 : Value).ownBlock)) (by (with_reducible repeat (first | apply Kd.R_alloc | apply Kd.R_drewN | apply Kd.R_drew)); exact HO_259000.out) hg hat)
                            have n2_ := Aside0.mk (Kd.S_over' (by (with_reducible repeat (first | apply Kd.S_alloc | apply Kd.S_drewN | apply Kd.S_drew)); exact HO_259001.out) (Kd.R_typed (by (with_reducible repeat (first | apply Kd.R_alloc | apply Kd.R_drewN | apply Kd.R_drew)); exact HO_259002.out)) (by decide) hg)
                            have n3_ := Aside0.mk (blk_grown (g := gb240) (o := .cells #[.slice A0_0 l0_0.length c0_0, .slice A0_1 l0_1.length c0_1, .slice (some ad277) l0_2.length c0_2] 25 (0, 0)) (by (with_reducible repeat (first | refine blk_drewN ?_ _ | refine blk_drew ?_ | refine blk_alloc ?_ _)); exact BK240.out) hg (Kd.R_ne HO_259002.out BK240.out (by decide)))
                            have n4_ := Aside0.mk (blk_grown (g := gb241) (o := .cells #[.slice none 0 0, .slice none 0 0, .slice none 0 0] 25 (0, 0)) (by (with_reducible repeat (first | refine blk_drewN ?_ _ | refine blk_drew ?_ | refine blk_alloc ?_ _)); exact BK241.out) hg (Kd.R_ne HO_259002.out BK241.out (by decide)))
                            have n5_ := Aside0.mk (blk_grown (g := gb258) (o := .cells #[u259000, u259001, u259002] 25 (0, 0)) (by (with_reducible repeat (first | refine blk_drewN ?_ _ | refine blk_drew ?_ | refine blk_alloc ?_ _)); exact BK258.out) hg (Kd.R_ne HO_259002.out BK258.out (by decide)))
                            have n6_ := Aside0.mk (hb)
                            have n7_ := Aside0.mk (ho)
                            clear HO_9
                            clear HO_259000
                            clear HO_259001
                            clear BK240
                            clear BK241
                            clear BK258
                            clear HB
                            clear HO_259002
                            have HO_9 := n0_
                            have HO_259000 := n1_
                            have HO_259001 := n2_
                            have BK240 := n3_
                            have BK241 := n4_
                            have BK258 := n5_
                            have HB := n6_
                            have HO281 := n7_
                            clear n0_ n1_ n2_ n3_ n4_ n5_ n6_ n7_
                            clear ho hb hg hat
                            obtain ⟨Ao125, co125, eo125⟩ := Kd.R_slice HO281.out
                            (first | subst eo125 | (injection eo125 with f1_ f2_ f3_; have f4_ := f1_.symm; have f5_ := f3_.symm; clear f1_ f2_ f3_; subst f4_; subst f5_))
                            refine hK.out _ _ ?_
                            clear hK K
                            refine norm_ (a' := ?_) ?_ ?_
                            rotate_left
                            ·show Act.put _ (some 193) _ = _
                             simp only [Act.put, List.setIfInBounds_toArray, List.set_cons_zero, List.set_cons_succ, i64_w, i32_w]
                             rfl
                            refine pure_ (i := 12) (N := some 194) (v := ?_) (a' := ?_) #[true, true, true, true, true, true, true, true, true, true, true, true, true, false] rfl rfl (any_of HT_.out (by kernel_rfl)) (fun _ _ _ h => h) (Or.inl ⟨by rfl, ?_⟩) ?_ ?_
                            rotate_left
                            ·intro w'
                             go_simp
                             with_reducible rfl
                            rotate_left
                            ·simp only [Act.put, List.setIfInBounds_toArray, List.set_cons_zero, List.set_cons_succ, i64_w, i32_w]
                             rfl
                            refine last_ (i := 13) (N := none) #[true, true, true, true, true, true, true, true, true, true, true, true, true, true] rfl rfl (one_of HT_.out (by kernel_rfl)) (by decide) (fun K hK => ?_)
                            have hs126 : w124.cell? ⟨gb258, 2, none⟩ = some (u259002) := (blk_cell BK258.out 2).trans rfl
                            have hfs126 := blk_frozen BK258.out 2
                            have hns126_0 := NB240_258.out
                            have hns126_1 := NB241_258.out
                            have hms126_0 := NB258_240.out
                            have hms126_1 := NB258_241.out
                            refine skip_ (w1 := ?_) (by rfl) rfl ?_ ?_
                            rotate_left
                            ·go_simp
                             rfl
                            refine hK.out _ _ ?_
                            clear hK K
                            refine done_ (done_of HT_.out (by kernel_rfl)) ?_
                            try go_wp2
                            go_roundg k6
                            case measure => have := HK1.out; have := HK2.out; have := HK3.out; have := HK4.out; have := HK5.out; have := HK6.out; omega
                            case rel => exact ⟨(wrap64 (x17_6 + 1)), (y279), (.slice Ao125 y279.length co125), (by first | rfl | (simp; done) | (simp [*]; done)), H', ⟨by have := HK1.out; have := HK2.out; have := HK3.out; have := HK4.out; have := HK5.out; have := HK6.out; omega⟩, ⟨by (with_reducible repeat (first | apply Kd.R_alloc | apply Kd.R_drewN | apply Kd.R_drew)); exact Kd.R_mono (Kd.R_far (p := ⟨gb258, 2, none⟩) (Kd.R_types HO_9.out BK258.out (by decide)) (fun _ hk => hk.2) (.slice Ao125 y279.length co125)) (fun _ hk => ⟨hk.1.1, hk.1.2⟩)⟩, ⟨by (with_reducible repeat (first | apply Kd.R_alloc | apply Kd.R_drewN | apply Kd.R_drew)); exact Kd.R_mono (Kd.R_far (p := ⟨gb258, 2, none⟩) (Kd.R_types HO_259000.out BK258.out (by decide)) (fun _ hk => hk.2) (.slice Ao125 y279.length co125)) (fun _ hk => ⟨hk.1.1, hk.1.2⟩)⟩, ⟨by (with_reducible repeat (first | apply Kd.S_alloc | apply Kd.S_drewN | apply Kd.S_drew)); exact Kd.S_mono (Kd.S_far (p := ⟨gb258, 2, none⟩) (Kd.S_types HO_259001.out BK258.out (by decide)) (fun _ hk => hk.2) (.slice Ao125 y279.length co125)) (fun _ hk => trivial)⟩, ⟨by (with_reducible repeat (first | apply Kd.R_alloc | apply Kd.R_drewN | apply Kd.R_drew)); exact Kd.R_mono (Kd.R_far (p := ⟨gb258, 2, none⟩) (Kd.R_types HO281.out BK258.out (by decide)) (fun _ hk => hk.2) (.slice Ao125 y279.length co125)) (fun _ hk => ⟨hk.1.1, hk.1.2⟩)⟩, ⟨by (with_reducible repeat (first | refine blk_drewN ?_ _ | refine blk_drew ?_ | refine blk_alloc ?_ _)); refine blk_far ?_ NB240_258.out _; (with_reducible repeat (first | refine blk_drewN ?_ _ | refine blk_drew ?_ | refine blk_alloc ?_ _)); exact BK240.out⟩, ⟨by (with_reducible repeat (first | refine blk_drewN ?_ _ | refine blk_drew ?_ | refine blk_alloc ?_ _)); refine blk_far ?_ NB241_258.out _; (with_reducible repeat (first | refine blk_drewN ?_ _ | refine blk_drew ?_ | refine blk_alloc ?_ _)); exact BK241.out⟩, ⟨by (with_reducible repeat (first | refine blk_drewN ?_ _ | refine blk_drew ?_ | refine blk_alloc ?_ _)); refine blk_put (cs := #[u259000, u259001, u259002]) ?_ 2 _ rfl; (with_reducible repeat (first | refine blk_drewN ?_ _ | refine blk_drew ?_ | refine blk_alloc ?_ _)); exact BK258.out⟩, ⟨by repeat (first | (with_reducible first | exact HB.out | apply below_alloc | apply pw_below_drewN | apply below_drew1 | refine below_set ?_ GE240.out | refine below_set ?_ GE241.out | refine below_set ?_ GE258.out) | exact HB.out)⟩⟩
                           ·rw [if_neg c118] at H
                            exact absurd H (by simp)
                          ·rw [if_neg c117] at H
                           exact absurd H (by simp)
                         ·rw [if_neg c116] at H
                          exact absurd H (by simp)
                        ·rw [if_neg c115] at H
                         exact absurd H (by simp)
                       ·rw [if_neg c114] at H
                        have c114b0 : decide (x17_6 < (l0_2.length : Int)) = false := decide_eq_false c114
                        clear c114
                        simp only [Option.some.injEq, Prod.mk.injEq] at H
                        obtain ⟨rfl, rfl, rfl, rfl⟩ := H
                        have hnb127 := NB240_241.out
                        have hnc127 := NB241_240.out
                        have hnb128 := NB240_258.out
                        have hnc128 := NB258_240.out
                        have hcz129_0 : wr.cell? ⟨gb240, 0, none⟩ = some (.slice A0_0 l0_0.length c0_0) := (blk_cell BK240.out 0).trans rfl
                        have hcz129_1 : wr.cell? ⟨gb240, 1, none⟩ = some (.slice A0_1 l0_1.length c0_1) := (blk_cell BK240.out 1).trans rfl
                        have hcz129_2 : wr.cell? ⟨gb240, 2, none⟩ = some (.slice A0_2 l0_2.length c0_2) := (blk_cell BK240.out 2).trans rfl
                        have hfz129_0 := blk_frozen BK240.out 0
                        have hfz129_1 := blk_frozen BK240.out 1
                        have hfz129_2 := blk_frozen BK240.out 2
                        have hnb130 := NB258_241.out
                        have hnc130 := NB241_258.out
                        have hcz131_0 : wr.cell? ⟨gb258, 0, none⟩ = some (u259000) := (blk_cell BK258.out 0).trans rfl
                        have hcz131_1 : wr.cell? ⟨gb258, 1, none⟩ = some (u259001) := (blk_cell BK258.out 1).trans rfl
                        have hcz131_2 : wr.cell? ⟨gb258, 2, none⟩ = some (u259002) := (blk_cell BK258.out 2).trans rfl
                        have hfz131_0 := blk_frozen BK258.out 0
                        have hfz131_1 := blk_frozen BK258.out 1
                        have hfz131_2 := blk_frozen BK258.out 2
                        obtain ⟨Ao132, co132, eo132⟩ := Kd.R_slice HO_259000.out
                        subst eo132
                        have hcz133_0 : wr.cell? ⟨gb241, 0, none⟩ = some (.slice none 0 0) := (blk_cell BK241.out 0).trans rfl
                        have hcz133_1 : wr.cell? ⟨gb241, 1, none⟩ = some (.slice none 0 0) := (blk_cell BK241.out 1).trans rfl
                        have hcz133_2 : wr.cell? ⟨gb241, 2, none⟩ = some (.slice none 0 0) := (blk_cell BK241.out 2).trans rfl
                        have hfz133_0 := blk_frozen BK241.out 0
                        have hfz133_1 := blk_frozen BK241.out 1
                        have hfz133_2 := blk_frozen BK241.out 2
                        obtain ⟨Ao134, co134, eo134⟩ := Kd.S_slice HO_259001.out
                        subst eo134
                        obtain ⟨Ao135, co135, eo135⟩ := Kd.R_slice HO_259002.out
                        subst eo135
                        go_wp2
                        refine bodyPost_ret (results_ct rfl _ _ gb241 25 #[.slice Ao132 x259000_4.length co132, .slice Ao134 x259001_5.length co134, .slice Ao135 x259002_6.length co135] (0, 0) _ rfl (by (with_reducible repeat (first | refine blk_drewN ?_ _ | refine blk_drew ?_ | refine blk_alloc ?_ _)); refine blk_put (cs := #[.slice Ao132 x259000_4.length co132, .slice Ao134 x259001_5.length co134, .slice none 0 0]) ?_ 2 _ rfl; (with_reducible repeat (first | refine blk_drewN ?_ _ | refine blk_drew ?_ | refine blk_alloc ?_ _)); refine blk_put (cs := #[.slice Ao132 x259000_4.length co132, .slice none 0 0, .slice none 0 0]) ?_ 1 _ rfl; (with_reducible repeat (first | refine blk_drewN ?_ _ | refine blk_drew ?_ | refine blk_alloc ?_ _)); refine blk_put (cs := #[.slice none 0 0, .slice none 0 0, .slice none 0 0]) ?_ 0 _ rfl; (with_reducible repeat (first | refine blk_drewN ?_ _ | refine blk_drew ?_ | refine blk_alloc ?_ _)); exact BK241.out) Try.underlying25 rfl (by kernel_rfl)) rfl ?_
                        exact ⟨_, _, _, by first | rfl | (simp [errW_none, errW_some] <;> rfl) | (simp only [← hji4]; first | rfl | (simp [errW_none, errW_some] <;> rfl)) | (simp [*, errW_none, errW_some] <;> rfl), by (with_reducible repeat (first | apply Kd.R_alloc | apply Kd.R_drewN | apply Kd.R_drew)); exact Kd.R_mono (Kd.R_far (p := ⟨gb241, 2, none⟩) (Kd.R_far (p := ⟨gb241, 1, none⟩) (Kd.R_far (p := ⟨gb241, 0, none⟩) (Kd.R_types HO_259000.out BK241.out (by decide)) (fun _ hk => hk.2) (.slice Ao132 x259000_4.length co132)) (fun _ hk => hk.2) (.slice Ao134 x259001_5.length co134)) (fun _ hk => hk.2) (.slice Ao135 x259002_6.length co135)) (fun _ hk => hk.1.2), by (with_reducible repeat (first | apply Kd.S_alloc | apply Kd.S_drewN | apply Kd.S_drew)); exact Kd.S_mono (Kd.S_far (p := ⟨gb241, 2, none⟩) (Kd.S_far (p := ⟨gb241, 1, none⟩) (Kd.S_far (p := ⟨gb241, 0, none⟩) (Kd.S_types HO_259001.out BK241.out (by decide)) (fun _ hk => hk.2) (.slice Ao132 x259000_4.length co132)) (fun _ hk => hk.2) (.slice Ao134 x259001_5.length co134)) (fun _ hk => hk.2) (.slice Ao135 x259002_6.length co135)) (fun _ hk => trivial), by (with_reducible repeat (first | apply Kd.R_alloc | apply Kd.R_drewN | apply Kd.R_drew)); exact Kd.R_mono (Kd.R_far (p := ⟨gb241, 2, none⟩) (Kd.R_far (p := ⟨gb241, 1, none⟩) (Kd.R_far (p := ⟨gb241, 0, none⟩) (Kd.R_types HO_259002.out BK241.out (by decide)) (fun _ hk => hk.2) (.slice Ao132 x259000_4.length co132)) (fun _ hk => hk.2) (.slice Ao134 x259001_5.length co134)) (fun _ hk => hk.2) (.slice Ao135 x259002_6.length co135)) (fun _ hk => hk.1.2), by repeat (first | (with_reducible first | exact HB.out | apply below_alloc | apply pw_below_drewN | apply below_drew1 | refine below_set ?_ GE240.out | refine below_set ?_ GE241.out | refine below_set ?_ GE258.out) | exact HB.out)⟩
           ·rw [if_neg c50] at H
            exact absurd H (by simp)
          ·rw [if_neg c49] at H
           exact absurd H (by simp)
   ·rw [if_neg c6] at H
    exact absurd H (by simp)
  ·rw [if_neg c5] at H
   exact absurd H (by simp)
 ·replace c3 := Bool.eq_false_iff.mpr c3
  subst c3
  have H1 : (some (([] : List Int), ([] : List (List (S64))), ([] : List Int), 2)) = some (r1, r2, r3, r4) := by rw [if_neg (show ¬ (false = true) by decide)] at H; exact H
  clear H
  have H := H1
  clear H1
  simp only [Option.some.injEq, Prod.mk.injEq] at H
  obtain ⟨rfl, rfl, rfl, rfl⟩ := H
  go_enter Try.func19, Try.ntmps19
  go_wp2_with (first | ((with_reducible refine gate_dst (N := 1) rfl ?_); refine box_event ?hg (N := 1) ?hd (cs := #[.slice A0_0 l0_0.length c0_0, .slice A0_1 l0_1.length c0_1, .slice A0_2 l0_2.length c0_2]) (t := 25) ?hr ?_; (case hd => rfl); (case hg => rfl); (case hr => first | (go_simp; done) | (go_simp; rfl)); intro gb240 hg w136 hbox hb; have n0_ := Aside0.mk (below_step (by repeat (first | (with_reducible first | exact HB.out | apply below_alloc | apply pw_below_drewN | apply below_drew1) | exact HB.out)) hb); have n1_ := Aside0.mk (hbox); have n2_ := Aside0.mk ((by rw [hg]; exact (below_size (by repeat (first | (with_reducible first | exact HB.out | apply below_alloc | apply pw_below_drewN | apply below_drew1) | exact HB.out))) : w.heap.size ≤ gb240)); have n3_ := Aside0.mk ((by rw [hg]; exact (below_size (by repeat (first | (with_reducible first | exact HB.out | apply below_alloc | apply pw_below_drewN | apply below_drew1) | exact HB.out))) : w.heap.size ≤ gb240)); clear HB; have HB := n0_; have BK240 := n1_; have GW240 := n2_; have GE240 := n3_; clear n0_ n1_ n2_ n3_; clear hb hbox hg) | ((with_reducible refine gate_dst (N := 2) rfl ?_); refine box_event ?hg (N := 2) ?hd (cs := #[.slice none 0 0, .slice none 0 0, .slice none 0 0]) (t := 25) ?hr ?_; (case hd => rfl); (case hg => rfl); (case hr => first | (go_simp; done) | (go_simp; rfl)); intro gb241 hg w137 hbox hb; have n0_ := Aside0.mk (blk_below (g := gb240) (o := .cells #[.slice A0_0 l0_0.length c0_0, .slice A0_1 l0_1.length c0_1, .slice A0_2 l0_2.length c0_2] 25 (0, 0)) (by (with_reducible repeat (first | refine blk_drewN ?_ _ | refine blk_drew ?_ | refine blk_alloc ?_ _)); exact BK240.out) hb); have n1_ := Aside0.mk (below_step (by repeat (first | (with_reducible first | exact HB.out | apply below_alloc | apply pw_below_drewN | apply below_drew1 | refine below_set ?_ GE240.out) | exact HB.out)) hb); have n2_ := Aside0.mk (hbox); have n3_ := Aside0.mk ((by rw [hg]; exact (below_size (by repeat (first | (with_reducible first | exact HB.out | apply below_alloc | apply pw_below_drewN | apply below_drew1 | refine below_set ?_ GE240.out) | exact HB.out))) : w.heap.size ≤ gb241)); have n4_ := Aside0.mk ((by rw [hg]; exact (below_size (by repeat (first | (with_reducible first | exact HB.out | apply below_alloc | apply pw_below_drewN | apply below_drew1 | refine below_set ?_ GE240.out) | exact HB.out))) : w.heap.size ≤ gb241)); have n5_ := Aside0.mk ((by rw [hg]; exact Nat.ne_of_lt (blk_lt (g := gb240) (o := .cells #[.slice A0_0 l0_0.length c0_0, .slice A0_1 l0_1.length c0_1, .slice A0_2 l0_2.length c0_2] 25 (0, 0)) (by (with_reducible repeat (first | refine blk_drewN ?_ _ | refine blk_drew ?_ | refine blk_alloc ?_ _)); exact BK240.out)) : gb240 ≠ gb241)); have n6_ := Aside0.mk ((by rw [hg]; exact Nat.ne_of_gt (blk_lt (g := gb240) (o := .cells #[.slice A0_0 l0_0.length c0_0, .slice A0_1 l0_1.length c0_1, .slice A0_2 l0_2.length c0_2] 25 (0, 0)) (by (with_reducible repeat (first | refine blk_drewN ?_ _ | refine blk_drew ?_ | refine blk_alloc ?_ _)); exact BK240.out)) : gb241 ≠ gb240)); clear BK240; clear HB; have BK240 := n0_; have HB := n1_; have BK241 := n2_; have GW241 := n3_; have GE241 := n4_; have NB240_241 := n5_; have NB241_240 := n6_; clear n0_ n1_ n2_ n3_ n4_ n5_ n6_; clear hb hbox hg; have hnb138 := NB240_241.out; have hnc138 := NB241_240.out; have hcz139_0 : w137.cell? ⟨gb240, 0, none⟩ = some (.slice A0_0 l0_0.length c0_0) := (blk_cell BK240.out 0).trans rfl; have hcz139_1 : w137.cell? ⟨gb240, 1, none⟩ = some (.slice A0_1 l0_1.length c0_1) := (blk_cell BK240.out 1).trans rfl; have hcz139_2 : w137.cell? ⟨gb240, 2, none⟩ = some (.slice A0_2 l0_2.length c0_2) := (blk_cell BK240.out 2).trans rfl; have hfz139_0 := blk_frozen BK240.out 0; have hfz139_1 := blk_frozen BK240.out 1; have hfz139_2 := blk_frozen BK240.out 2) | ((with_reducible refine gate_callee (f := 12) rfl ?_); refine goesL_ (some 19) rfl rfl Try.func12 (by kernel_rfl) rfl #[.agg #[.slice A0_0 l0_0.length c0_0, .slice A0_1 l0_1.length c0_1, .slice A0_2 l0_2.length c0_2]] rfl (by (try simp only [List.map_toArray, List.map_cons, List.map_nil]); first | done | rfl | (simp only [List.length_drop, List.length_take]; rfl)) ?_; (with_reducible refine (recoupref21_May.calls k _ _ l0_0 _ _ l0_1 _ _ l0_2 false _ ?side1 ?side2 ?side3 ?side4 ?side5 ?side6 A2.out).mono ?_); (case side1 => repeat (first | exact (Kd.C_below HR0_0.out HB.out) | (with_reducible refine Kd.C_alloc ?_ _) | (with_reducible refine Kd.C_drewN ?_ _) | (with_reducible refine Kd.C_drew ?_))); (case side2 => exact HC0_0.out); (case side3 => repeat (first | exact (Kd.C_below HR0_1.out HB.out) | (with_reducible refine Kd.C_alloc ?_ _) | (with_reducible refine Kd.C_drewN ?_ _) | (with_reducible refine Kd.C_drew ?_))); (case side4 => exact HC0_1.out); (case side5 => repeat (first | exact (Kd.C_below HR0_2.out HB.out) | (with_reducible refine Kd.C_alloc ?_ _) | (with_reducible refine Kd.C_drewN ?_ _) | (with_reducible refine Kd.C_drew ?_))); (case side6 => exact HC0_2.out); rintro e w140 ⟨rfl, hb⟩; refine ⟨_, rfl, ?_⟩; have n0_ := Aside0.mk (blk_below (g := gb240) (o := .cells #[.slice A0_0 l0_0.length c0_0, .slice A0_1 l0_1.length c0_1, .slice A0_2 l0_2.length c0_2] 25 (0, 0)) (by (with_reducible repeat (first | refine blk_drewN ?_ _ | refine blk_drew ?_ | refine blk_alloc ?_ _)); exact BK240.out) hb); have n1_ := Aside0.mk (blk_below (g := gb241) (o := .cells #[.slice none 0 0, .slice none 0 0, .slice none 0 0] 25 (0, 0)) (by (with_reducible repeat (first | refine blk_drewN ?_ _ | refine blk_drew ?_ | refine blk_alloc ?_ _)); exact BK241.out) hb); have n2_ := Aside0.mk (below_step (by repeat (first | (with_reducible first | exact HB.out | apply below_alloc | apply pw_below_drewN | apply below_drew1 | refine below_set ?_ GE240.out | refine below_set ?_ GE241.out) | exact HB.out)) hb); clear BK240; clear BK241; clear HB; have BK240 := n0_; have BK241 := n1_; have HB := n2_; clear n0_ n1_ n2_; (try clear hb); (try clear hb2); (try clear hk); (try clear hi); have hcz141_0 : w140.cell? ⟨gb241, 0, none⟩ = some (.slice none 0 0) := (blk_cell BK241.out 0).trans rfl; have hcz141_1 : w140.cell? ⟨gb241, 1, none⟩ = some (.slice none 0 0) := (blk_cell BK241.out 1).trans rfl; have hcz141_2 : w140.cell? ⟨gb241, 2, none⟩ = some (.slice none 0 0) := (blk_cell BK241.out 2).trans rfl; have hfz141_0 := blk_frozen BK241.out 0; have hfz141_1 := blk_frozen BK241.out 1; have hfz141_2 := blk_frozen BK241.out 2))
  refine bodyPost_ret (results_ct rfl _ _ gb241 25 #[.slice none 0 0, .slice none 0 0, .slice none 0 0] (0, 0) _ rfl (by (with_reducible repeat (first | refine blk_drewN ?_ _ | refine blk_drew ?_ | refine blk_alloc ?_ _)); refine blk_put (cs := #[.slice none 0 0, .slice none 0 0, .slice none 0 0]) ?_ 2 _ rfl; (with_reducible repeat (first | refine blk_drewN ?_ _ | refine blk_drew ?_ | refine blk_alloc ?_ _)); refine blk_put (cs := #[.slice none 0 0, .slice none 0 0, .slice none 0 0]) ?_ 1 _ rfl; (with_reducible repeat (first | refine blk_drewN ?_ _ | refine blk_drew ?_ | refine blk_alloc ?_ _)); refine blk_put (cs := #[.slice none 0 0, .slice none 0 0, .slice none 0 0]) ?_ 0 _ rfl; (with_reducible repeat (first | refine blk_drewN ?_ _ | refine blk_drew ?_ | refine blk_alloc ?_ _)); exact BK241.out) Try.underlying25 rfl (by kernel_rfl)) rfl ?_
  exact ⟨_, _, _, by first | rfl | (simp [errW_none, errW_some] <;> rfl) | (simp [*, errW_none, errW_some] <;> rfl), by first | exact Kd.R_nil _ _ _ _ _ | exact Kd.N_nil _ _ _ _ _ | exact Kd.V_nil _ _ _ _ _ | exact Kd.Q_nil _ _ _ _ _ | exact Kd.S_nil _ _ _ _ _, by first | exact Kd.S_nil _ _ _ _ _ | exact Kd.N_nil _ _ _ _ _ | exact Kd.V_nil _ _ _ _ _ | exact Kd.Q_nil _ _ _ _ _ | exact Kd.R_nil _ _ _ _ _, by first | exact Kd.R_nil _ _ _ _ _ | exact Kd.N_nil _ _ _ _ _ | exact Kd.V_nil _ _ _ _ _ | exact Kd.Q_nil _ _ _ _ _ | exact Kd.S_nil _ _ _ _ _, by repeat (first | (with_reducible first | exact HB.out | apply below_alloc | apply pw_below_drewN | apply below_drew1 | refine below_set ?_ GE240.out | refine below_set ?_ GE241.out) | exact HB.out)⟩

end Go.Proofs.Ytfnhnniecclleaa.PA
