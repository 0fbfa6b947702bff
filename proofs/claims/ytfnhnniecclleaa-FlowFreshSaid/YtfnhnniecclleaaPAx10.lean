-- Written by wip/tools/mp.py (the kit's print, run over several laws with some functions given by hand).
import Derived.Test.YtfnhnniecclleaaPAx0
import Derived.Test.YtfnhnniecclleaaPAx2
import Derived.Test.YtfnhnniecclleaaPAx9
import Derived.Test.YtfnhnniecclleaaShort
namespace Go.Proofs.Ytfnhnniecclleaa.PA
open Go.RowKit Go.Proofs.Ytfnhnniecclleaa.Sh Go.Proofs.YtfnhnniecclleaaW.PrintWords Go.Proofs.YtfnhnniecclleaaW.PrintLast Go.Proofs.YtfnhnniecclleaaW.PrintMore
attribute [local go_sem] max2_int min2_int max_two min_two max_three min_three max_four min_four   -- for this text's walks alone
set_option linter.unusedVariables false
set_option linter.unusedSimpArgs false

/-! ### flow_Trim: function 18 -/
mutual
def flow_Trim.l0 : Nat → List Bool → List Int → Int → Int → List Int → List (List (S64)) → List Int → Option (List Int × (List (List (S64))) × List Int × Int)
 | 0, _, _, _, _, _, _, _ => none
 | k + 1, x4, x30, x31, x32, x208000, x208001, x208002 => if x32 < x31 then (if 0 ≤ x32 then (if x32 < (x30.length : Int) then ((flow_mark.f k x208000 x208001 x208002 x4 (rd x30 x32)).bind fun t214 => (flow_Trim.l0 k t214 x30 x31 (wrap64 (x32 + 1)) x208000 x208001 x208002)) else (none)) else (none)) else (if 0 ≤ (x4.length : Int) then (if ((x4.length : Int) : Int).toNat ≤ 35184372088832 then (flow_Trim.l1 k (List.replicate ((x4.length : Int) : Int).toNat 0) 0 x4 (x4.length : Int) 0 x208000 x208001 x208002 ([] : List Int) ([] : List (List (S64)))) else (none)) else (none))
def flow_Trim.l1 : Nat → List Int → Int → List Bool → Int → Int → List Int → List (List (S64)) → List Int → List Int → List (List (S64)) → Option (List Int × (List (List (S64))) × List Int × Int)
 | 0, _, _, _, _, _, _, _, _, _, _ => none
 | k + 1, x7, x9, x44, x45, x46, x208000, x208001, x208002, x219000, x219001 => if x46 < x45 then (if 0 ≤ x46 then (if x46 < (x44.length : Int) then (if rdOf false x44 x46 = true then (if x46 < (x7.length : Int) then ((some (x7.set (x46 : Int).toNat x9 : List Int)).bind fun y220 => (if x46 < (x208000.length : Int) then (if x219000.length < 17592186044416 then (flow_Trim.l1 k y220 (wrap64 (x9 + 1)) x44 x45 (wrap64 (x46 + 1)) x208000 x208001 x208002 (x219000 ++ [rd x208000 x46]) x219001) else (none)) else (if 0 ≤ (wrap64 (x46 - (x208000.length : Int))) then (if (wrap64 (x46 - (x208000.length : Int))) < (x208001.length : Int) then (flow_Trim.l2 k y220 (wrap64 (x9 + 1)) ([] : List (S64)) x44 x45 x46 (rd_L4 x208001 (wrap64 (x46 - (x208000.length : Int)))) ((rd_L4 x208001 (wrap64 (x46 - (x208000.length : Int)))).length : Int) 0 x208000 x208001 x208002 x219000 x219001) else (none)) else (none)))) else (none)) else (flow_Trim.l1 k x7 x9 x44 x45 (wrap64 (x46 + 1)) x208000 x208001 x208002 x219000 x219001)) else (none)) else (none)) else (flow_Trim.l3 k x7 x208002 (x208002.length : Int) 0 x219000 x219001 ([] : List Int))
def flow_Trim.l2 : Nat → List Int → Int → List (S64) → List Bool → Int → Int → List (S64) → Int → Int → List Int → List (List (S64)) → List Int → List Int → List (List (S64)) → Option (List Int × (List (List (S64))) × List Int × Int)
 | 0, _, _, _, _, _, _, _, _, _, _, _, _, _, _ => none
 | k + 1, x7, x9, x12, x44, x45, x46, x82, x83, x84, x208000, x208001, x208002, x219000, x219001 => if x84 < x83 then (if 0 ≤ x84 then (if x84 < (x82.length : Int) then (if 0 ≤ ((rd_T64 x82 x84).f0) then (if ((rd_T64 x82 x84).f0) < (x7.length : Int) then (if x12.length < 8796093022208 then (flow_Trim.l2 k x7 x9 (x12 ++ [(⟨rd x7 ((rd_T64 x82 x84).f0), (rd_T64 x82 x84).f1⟩ : S64)]) x44 x45 x46 x82 x83 (wrap64 (x84 + 1)) x208000 x208001 x208002 x219000 x219001) else (none)) else (none)) else (none)) else (none)) else (none)) else (if x219001.length < 5864062014805 then (flow_Trim.l1 k x7 x9 x44 x45 (wrap64 (x46 + 1)) x208000 x208001 x208002 x219000 (x219001 ++ [x12])) else (none))
def flow_Trim.l3 : Nat → List Int → List Int → Int → Int → List Int → List (List (S64)) → List Int → Option (List Int × (List (List (S64))) × List Int × Int)
 | 0, _, _, _, _, _, _, _ => none
 | k + 1, x7, x108, x109, x110, x219000, x219001, x219002 => if x110 < x109 then (if 0 ≤ x110 then (if x110 < (x108.length : Int) then (if 0 ≤ (rd x108 x110) then (if (rd x108 x110) < (x7.length : Int) then (if x219002.length < 17592186044416 then (flow_Trim.l3 k x7 x108 x109 (wrap64 (x110 + 1)) x219000 x219001 (x219002 ++ [rd x7 (rd x108 x110)])) else (none)) else (none)) else (none)) else (none)) else (none)) else (some (x219000, x219001, x219002, 0))
end
def flow_Trim.f (k : Nat) (l0_0 : List Int) (l0_1 : List (List (S64))) (l0_2 : List Int) : Option (List Int × (List (List (S64))) × List Int × Int) := (flow_May.f k l0_0 l0_1 l0_2).bind fun t209 => (if t209 = true then (if 0 ≤ (wrap64 ((l0_0.length : Int) + (l0_1.length : Int))) then (if (wrap64 ((l0_0.length : Int) + (l0_1.length : Int)) : Int).toNat ≤ 281474976710656 then (flow_Trim.l0 k (List.replicate (wrap64 ((l0_0.length : Int) + (l0_1.length : Int)) : Int).toNat false) l0_2 (l0_2.length : Int) 0 l0_0 l0_1 l0_2) else (none)) else (none)) else (some (([] : List Int), ([] : List (List (S64))), ([] : List Int), 2)))
def flow_Trim.T19 : Bool × List (List Nat × List Nat) := (true, [([], []), ([0], [0]), ([], []), ([2], [2]), ([], []), ([3, 4], [3, 4]), ([5], [5]), ([6], [6]), ([1, 7], [1, 7]), ([0, 1, 2, 3, 4, 5, 6, 7, 8], []), ([9, 8, 8, 0, 1, 2, 3, 4, 5, 6, 7, 8], [8, 9])])
def flow_Trim.B19 : List Nat := [0, 1, 0, 4, 0, 28, 60, 124, 255, 511, 1023]
theorem flow_Trim.tab19 : rtab .any (opsOf Try.f18 19) = flow_Trim.T19 := by kernel_rfl
theorem flow_Trim.bits19 : waitsOk flow_Trim.T19.2 flow_Trim.B19 = true := by kernel_rfl
def flow_Trim.T24 : Bool × List (List Nat × List Nat) := (true, [([], []), ([], []), ([], []), ([2], [2]), ([1, 3], [1, 3]), ([4], [4]), ([], []), ([6], [6]), ([5, 7], [5, 7]), ([8], [8]), ([0, 9], [0, 9]), ([10, 10, 0, 1, 2, 3, 4, 5, 6, 7, 8, 9, 10], [0, 10])])
def flow_Trim.B24 : List Nat := [0, 0, 0, 4, 14, 30, 0, 64, 254, 510, 1023, 2047]
theorem flow_Trim.tab24 : rtab .any (opsOf Try.f18 24) = flow_Trim.T24 := by kernel_rfl
theorem flow_Trim.bits24 : waitsOk flow_Trim.T24.2 flow_Trim.B24 = true := by kernel_rfl
def flow_Trim.T31 : Bool × List (List Nat × List Nat) := (true, [([], []), ([0], [0]), ([], []), ([], []), ([2, 3], [2, 3]), ([4], [4]), ([5], [5]), ([1, 6], [1, 6]), ([0, 1, 2, 3, 4, 5, 6, 7], []), ([8, 7, 7, 0, 1, 2, 3, 4, 5, 6, 7], [7, 8])])
def flow_Trim.B31 : List Nat := [0, 1, 0, 0, 12, 28, 60, 127, 255, 511]
theorem flow_Trim.tab31 : rtab .any (opsOf Try.f18 31) = flow_Trim.T31 := by kernel_rfl
theorem flow_Trim.bits31 : waitsOk flow_Trim.T31.2 flow_Trim.B31 = true := by kernel_rfl
set_option maxHeartbeats 8000000 in
set_option maxRecDepth 100000 in
theorem flow_Trim.calls (k : Nat) (A0_0 : Option Addr) (c0_0 : Nat) (l0_0 : List Int) (A0_1 : Option Addr) (c0_1 : Nat) (l0_1 : List (List (S64))) (A0_2 : Option Addr) (c0_2 : Nat) (l0_2 : List Int) (r1 : List Int) (r2 : List (List (S64))) (r3 : List Int) (r4 : Int) (w : World) (hr0_0 : Kd.C (Kd.int .i64) w A0_0 l0_0.length l0_0) (hc0_0 : l0_0.length ≤ c0_0) (hr0_1 : Kd.C (Kd.slice 64 k64) w A0_1 l0_1.length l0_1) (hc0_1 : l0_1.length ≤ c0_1) (hr0_2 : Kd.C (Kd.int .i64) w A0_2 l0_2.length l0_2) (hc0_2 : l0_2.length ≤ c0_2) (h : flow_Trim.f k l0_0 l0_1 l0_2 = some (r1, r2, r3, r4)) :
  Calls Try.prog 18 #[.agg #[.slice A0_0 l0_0.length c0_0, .slice A0_1 l0_1.length c0_1, .slice A0_2 l0_2.length c0_2]] w fun e w' => ∃ v0_ v1_ v2_ : Value, e = .returned (.tuple #[.agg #[v0_, v1_, v2_], .int .i64 r4]) ∧ Kd.R (Kd.int .i64) 3 w' w.heap.size (fun k_ => some k_ ≠ (v2_ : Value).ownBlock) v0_ r1 ∧ Kd.S (Kd.slice 64 k64) 62 w' w.heap.size (fun _ => True) v1_ r2 ∧ Kd.R (Kd.int .i64) 3 w' w.heap.size (fun k_ => some k_ ≠ (v0_ : Value).ownBlock) v2_ r3 ∧ Below w.heap.size w w' := by
 have hu25 := Try.underlying25
 have hu64 := Try.underlying64
 have HR0_0 := Aside0.mk hr0_0
 have HC0_0 := Aside0.mk hc0_0
 clear hr0_0 hc0_0
 have HR0_1 := Aside0.mk hr0_1
 have HC0_1 := Aside0.mk hc0_1
 clear hr0_1 hc0_1
 have HR0_2 := Aside0.mk hr0_2
 have HC0_2 := Aside0.mk hc0_2
 clear hr0_2 hc0_2
 have HB := Aside0.mk (Below.refl w.heap.size w)
 have H : ((flow_May.f k l0_0 l0_1 l0_2).bind fun t209 => (if t209 = true then (if 0 ≤ (wrap64 ((l0_0.length : Int) + (l0_1.length : Int))) then (if (wrap64 ((l0_0.length : Int) + (l0_1.length : Int)) : Int).toNat ≤ 281474976710656 then (flow_Trim.l0 k (List.replicate (wrap64 ((l0_0.length : Int) + (l0_1.length : Int)) : Int).toNat false) l0_2 (l0_2.length : Int) 0 l0_0 l0_1 l0_2) else (none)) else (none)) else (some (([] : List Int), ([] : List (List (S64))), ([] : List Int), 2)))) = some (r1, r2, r3, r4) := h
 clear h
 replace H := Option.bind_eq_some_iff.mp H
 obtain ⟨t209, A20, H⟩ := H
 replace H : (if t209 = true then (if 0 ≤ (wrap64 ((l0_0.length : Int) + (l0_1.length : Int))) then (if (wrap64 ((l0_0.length : Int) + (l0_1.length : Int)) : Int).toNat ≤ 281474976710656 then (flow_Trim.l0 k (List.replicate (wrap64 ((l0_0.length : Int) + (l0_1.length : Int)) : Int).toNat false) l0_2 (l0_2.length : Int) 0 l0_0 l0_1 l0_2) else (none)) else (none)) else (some (([] : List Int), ([] : List (List (S64))), ([] : List Int), 2))) = some (r1, r2, r3, r4) := H
 have A2 := Aside0.mk A20
 clear A20
 by_cases c3 : t209 = true
 ·subst c3
  have H1 : (if 0 ≤ (wrap64 ((l0_0.length : Int) + (l0_1.length : Int))) then (if (wrap64 ((l0_0.length : Int) + (l0_1.length : Int)) : Int).toNat ≤ 281474976710656 then (flow_Trim.l0 k (List.replicate (wrap64 ((l0_0.length : Int) + (l0_1.length : Int)) : Int).toNat false) l0_2 (l0_2.length : Int) 0 l0_0 l0_1 l0_2) else (none)) else (none)) = some (r1, r2, r3, r4) := by rw [if_pos rfl] at H; exact H
  clear H
  have H := H1
  clear H1
  obtain ⟨ji4, hji4⟩ : ∃ j_ : Int, (wrap64 ((l0_0.length : Int) + (l0_1.length : Int))) = j_ := ⟨_, rfl⟩
  replace H : (if 0 ≤ (ji4) then (if (ji4 : Int).toNat ≤ 281474976710656 then (flow_Trim.l0 k (List.replicate (ji4 : Int).toNat false) l0_2 (l0_2.length : Int) 0 l0_0 l0_1 l0_2) else (none)) else (none)) = some (r1, r2, r3, r4) := by first | (rw [hji4] at H; exact H) | (simp only [hji4] at H ⊢; exact H)
  (try rw [hji4] at A2)
  have hji4w : (IntKind.i64.wrap ((l0_0.length : Int) + (l0_1.length : Int))) = ji4 := (i64_w _).trans hji4
  by_cases c5 : 0 ≤ (ji4)
  ·rw [if_pos c5] at H
   have c5b0 := eq_true c5
   have c5b1 : decide (0 ≤ (ji4)) = true := decide_eq_true c5
   clear c5
   by_cases c6 : (ji4 : Int).toNat ≤ 281474976710656
   ·rw [if_pos c6] at H
    have c6b0 := eq_true c6
    have c6b1 : decide ((ji4 : Int).toNat ≤ 281474976710656) = true := decide_eq_true c6
    clear c6
    obtain ⟨y210, hy210⟩ : ∃ y_ : List Bool, y_ = (List.replicate (ji4 : Int).toNat false) := ⟨_, rfl⟩
    replace H : (flow_Trim.l0 k y210 l0_2 (l0_2.length : Int) 0 l0_0 l0_1 l0_2) = some (r1, r2, r3, r4) := by first | (rw [hy210]; with_reducible exact H) | (have H2_ := (Option.bind_some _ _).symm.trans H; rw [hy210]; with_reducible exact H2_) | (have H2_ := (Option.bind_some _ _).symm.trans H; with_reducible exact H2_) | with_reducible exact H | (rw [hy210]; exact H) | exact H
    have Ny210 := Aside0.mk hy210
    clear hy210
    have H' := Aside0.mk H
    clear H
    go_enter Try.func18, Try.ntmps18
    (go_wp2_with (first | ((with_reducible refine gate_dst (N := 1) rfl ?_); refine box_event ?hg (N := 1) ?hd (cs := #[.slice A0_0 l0_0.length c0_0, .slice A0_1 l0_1.length c0_1, .slice A0_2 l0_2.length c0_2]) (t := 25) ?hr ?_; (case hd => rfl); (case hg => rfl); (case hr => first | (go_simp; done) | (go_simp; rfl)); intro gb207 hg w7 hbox hb; have n0_ := Aside0.mk (below_step bl hb); have n1_ := Aside0.mk (hbox); have n2_ := Aside0.mk ((sz hg)); have n3_ := Aside0.mk ((sz hg)); clear HB; have HB := n0_; have BK207 := n1_; have GW207 := n2_; have GE207 := n3_; clear n0_ n1_ n2_ n3_; clear hb hbox hg) | ((with_reducible refine gate_dst (N := 2) rfl ?_); refine box_event ?hg (N := 2) ?hd (cs := #[.slice none 0 0, .slice none 0 0, .slice none 0 0]) (t := 25) ?hr ?_; (case hd => rfl); (case hg => rfl); (case hr => first | (go_simp; done) | (go_simp; rfl)); intro gb208 hg w8 hbox hb; have n0_ := Aside0.mk (blk_below (g := gb207) (o := .cells #[.slice A0_0 l0_0.length c0_0, .slice A0_1 l0_1.length c0_1, .slice A0_2 l0_2.length c0_2] 25 (0, 0)) bk hb); have n1_ := Aside0.mk (below_step bl hb); have n2_ := Aside0.mk (hbox); have n3_ := Aside0.mk ((sz hg)); have n4_ := Aside0.mk ((sz hg)); have n5_ := Aside0.mk ((nl (g := gb207) (g' := gb208) hg)); have n6_ := Aside0.mk ((nr (g := gb207) (g' := gb208) hg)); clear BK207; clear HB; have BK207 := n0_; have HB := n1_; have BK208 := n2_; have GW208 := n3_; have GE208 := n4_; have NB207_208 := n5_; have NB208_207 := n6_; clear n0_ n1_ n2_ n3_ n4_ n5_ n6_; clear hb hbox hg; have hnb9 := NB207_208.out; have hnc9 := NB208_207.out; obtain ⟨⟨hcz10_0, hcz10_1, hcz10_2⟩, hfz10_0, hfz10_1, hfz10_2⟩ := b3 BK207.out) | ((with_reducible refine gate_callee (f := 11) rfl ?_); refine goesL_ (some 18) rfl rfl Try.func11 (by kernel_rfl) rfl #[.agg #[.slice A0_0 l0_0.length c0_0, .slice A0_1 l0_1.length c0_1, .slice A0_2 l0_2.length c0_2]] rfl (by (try simp only [List.map_toArray, List.map_cons, List.map_nil]); first | done | rfl | (simp only [List.length_drop, List.length_take]; rfl)) ?_; (with_reducible refine (flow_May.calls k _ _ l0_0 _ _ l0_1 _ _ l0_2 true _ ?side1 ?side2 ?side3 ?side4 ?side5 ?side6 A2.out).mono ?_); (case side1 => repeat (first | exact (Kd.C_below HR0_0.out HB.out) | (with_reducible refine Kd.C_alloc ?_ _) | (with_reducible refine Kd.C_drewN ?_ _) | (with_reducible refine Kd.C_drew ?_))); (case side2 => exact HC0_0.out); (case side3 => repeat (first | exact (Kd.C_below HR0_1.out HB.out) | (with_reducible refine Kd.C_alloc ?_ _) | (with_reducible refine Kd.C_drewN ?_ _) | (with_reducible refine Kd.C_drew ?_))); (case side4 => exact HC0_1.out); (case side5 => repeat (first | exact (Kd.C_below HR0_2.out HB.out) | (with_reducible refine Kd.C_alloc ?_ _) | (with_reducible refine Kd.C_drewN ?_ _) | (with_reducible refine Kd.C_drew ?_))); (case side6 => exact HC0_2.out); rintro e w11 ⟨rfl, hb⟩; refine ⟨_, rfl, ?_⟩; have n0_ := Aside0.mk (blk_below (g := gb207) (o := .cells #[.slice A0_0 l0_0.length c0_0, .slice A0_1 l0_1.length c0_1, .slice A0_2 l0_2.length c0_2] 25 (0, 0)) bk hb); have n1_ := Aside0.mk (blk_below (g := gb208) (o := .cells #[.slice none 0 0, .slice none 0 0, .slice none 0 0] 25 (0, 0)) bk hb); have n2_ := Aside0.mk (below_step bl hb); clear BK207; clear BK208; clear HB; have BK207 := n0_; have BK208 := n1_; have HB := n2_; clear n0_ n1_ n2_; (try clear hb); (try clear hb2); (try clear hk); (try clear hi); obtain ⟨⟨hcz12_0, hcz12_1, hcz12_2⟩, hfz12_0, hfz12_1, hfz12_2⟩ := b3 BK207.out) | ((with_reducible refine gate_dst (N := 28) rfl ?_); refine Kd.R_make Kd.bool _ 4 rfl (N := 28) rfl 74 _ _ rfl ji4 rfl rfl Try.underlying74 (.bool false) 1 info4 rfl (by decide) (by omega) false (ok := fun _ => True) (okp := fun _ => True) rfl (fun _ hk => hk) trivial (dt) (Nat.le_trans (Nat.mul_le_mul_right _ (dt : ji4.toNat ≤ 281474976710656)) (by omega)) (Below.refl _ _) (Nat.le_refl _) ?_; intro v211 w13 ho14 hb hg_ hnew_; clear hg_ hnew_; (first | rw [← Ny210.out] at ho14 | (simp only [Int.reduceToNat] at ho14; rw [← Ny210.out] at ho14)); have n0_ := Aside0.mk (Kd.R_lower ho14 (below_size bl)); have n1_ := Aside0.mk (blk_below (g := gb207) (o := .cells #[.slice A0_0 l0_0.length c0_0, .slice A0_1 l0_1.length c0_1, .slice A0_2 l0_2.length c0_2] 25 (0, 0)) bk hb); have n2_ := Aside0.mk (blk_below (g := gb208) (o := .cells #[.slice none 0 0, .slice none 0 0, .slice none 0 0] 25 (0, 0)) bk hb); have n3_ := Aside0.mk (below_step bl hb); clear BK207; clear BK208; clear HB; have HO212 := n0_; have BK207 := n1_; have BK208 := n2_; have HB := n3_; clear n0_ n1_ n2_ n3_; clear hb ho14; obtain ⟨⟨hcz15_0, hcz15_1, hcz15_2⟩, hfz15_0, hfz15_1, hfz15_2⟩ := b3 BK207.out)); repeat (go_step3; go_wp2_with (first | ((with_reducible refine gate_dst (N := 1) rfl ?_); refine box_event ?hg (N := 1) ?hd (cs := #[.slice A0_0 l0_0.length c0_0, .slice A0_1 l0_1.length c0_1, .slice A0_2 l0_2.length c0_2]) (t := 25) ?hr ?_; (case hd => rfl); (case hg => rfl); (case hr => first | (go_simp; done) | (go_simp; rfl)); intro gb207 hg w7 hbox hb; have n0_ := Aside0.mk (below_step bl hb); have n1_ := Aside0.mk (hbox); have n2_ := Aside0.mk ((sz hg)); have n3_ := Aside0.mk ((sz hg)); clear HB; have HB := n0_; have BK207 := n1_; have GW207 := n2_; have GE207 := n3_; clear n0_ n1_ n2_ n3_; clear hb hbox hg) | ((with_reducible refine gate_dst (N := 2) rfl ?_); refine box_event ?hg (N := 2) ?hd (cs := #[.slice none 0 0, .slice none 0 0, .slice none 0 0]) (t := 25) ?hr ?_; (case hd => rfl); (case hg => rfl); (case hr => first | (go_simp; done) | (go_simp; rfl)); intro gb208 hg w8 hbox hb; have n0_ := Aside0.mk (blk_below (g := gb207) (o := .cells #[.slice A0_0 l0_0.length c0_0, .slice A0_1 l0_1.length c0_1, .slice A0_2 l0_2.length c0_2] 25 (0, 0)) bk hb); have n1_ := Aside0.mk (below_step bl hb); have n2_ := Aside0.mk (hbox); have n3_ := Aside0.mk ((sz hg)); have n4_ := Aside0.mk ((sz hg)); have n5_ := Aside0.mk ((nl (g := gb207) (g' := gb208) hg)); have n6_ := Aside0.mk ((nr (g := gb207) (g' := gb208) hg)); clear BK207; clear HB; have BK207 := n0_; have HB := n1_; have BK208 := n2_; have GW208 := n3_; have GE208 := n4_; have NB207_208 := n5_; have NB208_207 := n6_; clear n0_ n1_ n2_ n3_ n4_ n5_ n6_; clear hb hbox hg; have hnb9 := NB207_208.out; have hnc9 := NB208_207.out; obtain ⟨⟨hcz10_0, hcz10_1, hcz10_2⟩, hfz10_0, hfz10_1, hfz10_2⟩ := b3 BK207.out) | ((with_reducible refine gate_callee (f := 11) rfl ?_); refine goesL_ (some 18) rfl rfl Try.func11 (by kernel_rfl) rfl #[.agg #[.slice A0_0 l0_0.length c0_0, .slice A0_1 l0_1.length c0_1, .slice A0_2 l0_2.length c0_2]] rfl (by (try simp only [List.map_toArray, List.map_cons, List.map_nil]); first | done | rfl | (simp only [List.length_drop, List.length_take]; rfl)) ?_; (with_reducible refine (flow_May.calls k _ _ l0_0 _ _ l0_1 _ _ l0_2 true _ ?side1 ?side2 ?side3 ?side4 ?side5 ?side6 A2.out).mono ?_); (case side1 => repeat (first | exact (Kd.C_below HR0_0.out HB.out) | (with_reducible refine Kd.C_alloc ?_ _) | (with_reducible refine Kd.C_drewN ?_ _) | (with_reducible refine Kd.C_drew ?_))); (case side2 => exact HC0_0.out); (case side3 => repeat (first | exact (Kd.C_below HR0_1.out HB.out) | (with_reducible refine Kd.C_alloc ?_ _) | (with_reducible refine Kd.C_drewN ?_ _) | (with_reducible refine Kd.C_drew ?_))); (case side4 => exact HC0_1.out); (case side5 => repeat (first | exact (Kd.C_below HR0_2.out HB.out) | (with_reducible refine Kd.C_alloc ?_ _) | (with_reducible refine Kd.C_drewN ?_ _) | (with_reducible refine Kd.C_drew ?_))); (case side6 => exact HC0_2.out); rintro e w11 ⟨rfl, hb⟩; refine ⟨_, rfl, ?_⟩; have n0_ := Aside0.mk (blk_below (g := gb207) (o := .cells #[.slice A0_0 l0_0.length c0_0, .slice A0_1 l0_1.length c0_1, .slice A0_2 l0_2.length c0_2] 25 (0, 0)) bk hb); have n1_ := Aside0.mk (blk_below (g := gb208) (o := .cells #[.slice none 0 0, .slice none 0 0, .slice none 0 0] 25 (0, 0)) bk hb); have n2_ := Aside0.mk (below_step bl hb); clear BK207; clear BK208; clear HB; have BK207 := n0_; have BK208 := n1_; have HB := n2_; clear n0_ n1_ n2_; (try clear hb); (try clear hb2); (try clear hk); (try clear hi); obtain ⟨⟨hcz12_0, hcz12_1, hcz12_2⟩, hfz12_0, hfz12_1, hfz12_2⟩ := b3 BK207.out) | ((with_reducible refine gate_dst (N := 28) rfl ?_); refine Kd.R_make Kd.bool _ 4 rfl (N := 28) rfl 74 _ _ rfl ji4 rfl rfl Try.underlying74 (.bool false) 1 info4 rfl (by decide) (by omega) false (ok := fun _ => True) (okp := fun _ => True) rfl (fun _ hk => hk) trivial (dt) (Nat.le_trans (Nat.mul_le_mul_right _ (dt : ji4.toNat ≤ 281474976710656)) (by omega)) (Below.refl _ _) (Nat.le_refl _) ?_; intro v211 w13 ho14 hb hg_ hnew_; clear hg_ hnew_; (first | rw [← Ny210.out] at ho14 | (simp only [Int.reduceToNat] at ho14; rw [← Ny210.out] at ho14)); have n0_ := Aside0.mk (Kd.R_lower ho14 (below_size bl)); have n1_ := Aside0.mk (blk_below (g := gb207) (o := .cells #[.slice A0_0 l0_0.length c0_0, .slice A0_1 l0_1.length c0_1, .slice A0_2 l0_2.length c0_2] 25 (0, 0)) bk hb); have n2_ := Aside0.mk (blk_below (g := gb208) (o := .cells #[.slice none 0 0, .slice none 0 0, .slice none 0 0] 25 (0, 0)) bk hb); have n3_ := Aside0.mk (below_step bl hb); clear BK207; clear BK208; clear HB; have HO212 := n0_; have BK207 := n1_; have BK208 := n2_; have HB := n3_; clear n0_ n1_ n2_ n3_; clear hb ho14; obtain ⟨⟨hcz15_0, hcz15_1, hcz15_2⟩, hfz15_0, hfz15_1, hfz15_2⟩ := b3 BK207.out))))
    go_loopg [32] k (fun kq v32 w' => ∃ (x4_1 : List Bool) (x32_1 : Int), v32 = .int .i64 x32_1 ∧ Aside0 (flow_Trim.l0 kq x4_1 l0_2 (l0_2.length : Int) x32_1 l0_0 l0_1 l0_2 = some (r1, r2, r3, r4)) ∧ Aside0 (kq ≤ k) ∧ Aside0 (Kd.R Kd.bool 4 w' w.heap.size (fun _ => True) v211 x4_1) ∧ Aside0 (w'.heap[gb207]? = some (.cells #[(.slice A0_0 l0_0.length c0_0), (.slice A0_1 l0_1.length c0_1), (.slice A0_2 l0_2.length c0_2)] 25 (0, 0))) ∧ Aside0 (w'.heap[gb208]? = some (.cells #[(.slice none 0 0), (.slice none 0 0), (.slice none 0 0)] 25 (0, 0))) ∧ Aside0 (Below w.heap.size w w'))
    case atStart => exact ⟨(y210), (0), (by first | rfl | (simp; done) | (simp [*]; done)), H', ⟨Nat.le_refl _⟩, ⟨kR HO212⟩, ⟨bk⟩, ⟨bk⟩, ⟨bl⟩⟩
    case round =>
     clear H'
     (try clear c1); (try clear p2); (try clear c3); (try clear c5); (try clear c5b0); (try clear c5b1); (try clear c6); (try clear c6b0); (try clear c6b1); (try clear p6); (try clear c9); (try clear c11); (try clear hcz10_0 hcz10_1 hcz10_2 hfz10_0 hfz10_1 hfz10_2); (try clear hcz12_0 hcz12_1 hcz12_2 hfz12_0 hfz12_1 hfz12_2); (try clear hcz15_0 hcz15_1 hcz15_2 hfz15_0 hfz15_1 hfz15_2)
     obtain ⟨x4_1, x32_1, rfl, HA, HK1, HO_4, BK207, BK208, HB⟩ := hrel
     cases gk with
     | zero => exact absurd HA.out (by simp [flow_Trim.l0])
     | succ k1 =>
      have H := HA.out
      clear HA
      simp only [flow_Trim.l0] at H
      by_cases c16 : x32_1 < (l0_2.length : Int)
      ·rw [if_pos c16] at H
       have c16b0 : decide (x32_1 < (l0_2.length : Int)) = true := decide_eq_true c16
       clear c16
       by_cases c17 : 0 ≤ x32_1
       ·rw [if_pos c17] at H
        have c17b0 : decide (0 ≤ x32_1) = true := decide_eq_true c17
        clear c17
        by_cases c18 : x32_1 < (l0_2.length : Int)
        ·rw [if_pos c18] at H
         have c18b0 : decide (x32_1 < (l0_2.length : Int)) = true := decide_eq_true c18
         clear c18
         replace H := Option.bind_eq_some_iff.mp H
         obtain ⟨t214, A190, H⟩ := H
         replace H : (flow_Trim.l0 k1 t214 l0_2 (l0_2.length : Int) (wrap64 (x32_1 + 1)) l0_0 l0_1 l0_2) = some (r1, r2, r3, r4) := H
         have A19 := Aside0.mk A190
         clear A190
         have H' := Aside0.mk H
         clear H
         have p213 : 0 ≤ (x32_1 : Int) := dt
         have q213 : x32_1 < (l0_2.length : Int) := dt
         obtain ⟨ad213, e213, hx213_0⟩ := Kd.at_int HR0_2.out x32_1 p213 q213
         cases e213
         replace hx213_0 := cx HB hx213_0
         replace p213 := eq_true p213
         replace q213 := eq_true q213
         have hnb20 := NB207_208.out
         have hnc20 := NB208_207.out
         obtain ⟨⟨hcz21_0, hcz21_1, hcz21_2⟩, hfz21_0, hfz21_1, hfz21_2⟩ := b3 BK207.out
         obtain ⟨Ao22, co22, eo22⟩ := Kd.R_slice HO_4.out
         subst eo22
         (go_wp2_with (first | ((with_reducible refine gate_callee (f := 42) rfl ?_); refine goesL_ (some 39) rfl rfl Try.func42 (by kernel_rfl) rfl #[.agg #[.slice A0_0 l0_0.length c0_0, .slice A0_1 l0_1.length c0_1, .slice (some ad213) l0_2.length c0_2], .slice Ao22 x4_1.length co22, .int .i64 (rd l0_2 x32_1)] rfl (by (try simp only [List.map_toArray, List.map_cons, List.map_nil]); first | done | rfl | (simp only [List.length_drop, List.length_take]; rfl)) ?_; (with_reducible refine (flow_mark.calls k1 _ _ l0_0 _ _ l0_1 _ _ l0_2 (fun k_ => some k_ = (.slice Ao22 x4_1.length co22 : Value).ownBlock) (.slice Ao22 x4_1.length co22) x4_1 (rd l0_2 x32_1) t214 w _ ?side1 ?side2 ?side3 ?side4 ?side5 ?side6 ?side7 ?side8 A19.out).mono ?_); (case side1 => exact bl); (case side2 => exact Kd.C_kept_came (Kd.heap_int .i64) HR0_0.out bl (fun k_ hs_ => (fun e_ => Kd.R_base HO_4.out k_ e_.symm) hs_)); (case side3 => exact HC0_0.out); (case side4 => exact Kd.C_kept_came (Kd.heap_slice 64 k64_heap) HR0_1.out bl (fun k_ hs_ => (fun e_ => Kd.R_base HO_4.out k_ e_.symm) hs_)); (case side5 => exact HC0_1.out); (case side6 => exact Kd.C_kept_came (Kd.heap_int .i64) HR0_2.out bl (fun k_ hs_ => (fun e_ => Kd.R_base HO_4.out k_ e_.symm) hs_)); (case side7 => exact HC0_2.out); (case side8 => exact Kd.R_tight rfl HO_4.out); rintro e w23 ⟨rfl, hy0, hb, hkp⟩; refine ⟨_, rfl, ?_⟩; have n0_ := Aside0.mk (Kd.R_reok rfl hy0 (fun k_ e_ => HO_4.out.1 k_ e_)); have n1_ := Aside0.mk (blk_kept bk hkp (fun hs_ => (fun e_ => (Kd.R_ne HO_4.out BK207.out (by decide)) e_) hs_)); have n2_ := Aside0.mk (blk_kept bk hkp (fun hs_ => (fun e_ => (Kd.R_ne HO_4.out BK208.out (by decide)) e_) hs_)); have n3_ := Aside0.mk (hb); clear HO_4; clear BK207; clear BK208; clear HB; have HO_4 := n0_; have BK207 := n1_; have BK208 := n2_; have HB := n3_; clear n0_ n1_ n2_ n3_; (try clear hb); (try clear hkp); (try clear hy0))); repeat (go_step3; go_wp2_with (first | ((with_reducible refine gate_callee (f := 42) rfl ?_); refine goesL_ (some 39) rfl rfl Try.func42 (by kernel_rfl) rfl #[.agg #[.slice A0_0 l0_0.length c0_0, .slice A0_1 l0_1.length c0_1, .slice (some ad213) l0_2.length c0_2], .slice Ao22 x4_1.length co22, .int .i64 (rd l0_2 x32_1)] rfl (by (try simp only [List.map_toArray, List.map_cons, List.map_nil]); first | done | rfl | (simp only [List.length_drop, List.length_take]; rfl)) ?_; (with_reducible refine (flow_mark.calls k1 _ _ l0_0 _ _ l0_1 _ _ l0_2 (fun k_ => some k_ = (.slice Ao22 x4_1.length co22 : Value).ownBlock) (.slice Ao22 x4_1.length co22) x4_1 (rd l0_2 x32_1) t214 w _ ?side1 ?side2 ?side3 ?side4 ?side5 ?side6 ?side7 ?side8 A19.out).mono ?_); (case side1 => exact bl); (case side2 => exact Kd.C_kept_came (Kd.heap_int .i64) HR0_0.out bl (fun k_ hs_ => (fun e_ => Kd.R_base HO_4.out k_ e_.symm) hs_)); (case side3 => exact HC0_0.out); (case side4 => exact Kd.C_kept_came (Kd.heap_slice 64 k64_heap) HR0_1.out bl (fun k_ hs_ => (fun e_ => Kd.R_base HO_4.out k_ e_.symm) hs_)); (case side5 => exact HC0_1.out); (case side6 => exact Kd.C_kept_came (Kd.heap_int .i64) HR0_2.out bl (fun k_ hs_ => (fun e_ => Kd.R_base HO_4.out k_ e_.symm) hs_)); (case side7 => exact HC0_2.out); (case side8 => exact Kd.R_tight rfl HO_4.out); rintro e w23 ⟨rfl, hy0, hb, hkp⟩; refine ⟨_, rfl, ?_⟩; have n0_ := Aside0.mk (Kd.R_reok rfl hy0 (fun k_ e_ => HO_4.out.1 k_ e_)); have n1_ := Aside0.mk (blk_kept bk hkp (fun hs_ => (fun e_ => (Kd.R_ne HO_4.out BK207.out (by decide)) e_) hs_)); have n2_ := Aside0.mk (blk_kept bk hkp (fun hs_ => (fun e_ => (Kd.R_ne HO_4.out BK208.out (by decide)) e_) hs_)); have n3_ := Aside0.mk (hb); clear HO_4; clear BK207; clear BK208; clear HB; have HO_4 := n0_; have BK207 := n1_; have BK208 := n2_; have HB := n3_; clear n0_ n1_ n2_ n3_; (try clear hb); (try clear hkp); (try clear hy0)))))
         go_roundg k1
         case measure => have := HK1.out; omega
         case rel => exact ⟨(t214), (wrap64 (x32_1 + 1)), (by first | rfl | (simp; done) | (simp [*]; done)), H', ⟨by have := HK1.out; omega⟩, ⟨kR HO_4⟩, ⟨bk⟩, ⟨bk⟩, ⟨bl⟩⟩
        ·rw [if_neg c18] at H
         exact absurd H (by simp)
       ·rw [if_neg c17] at H
        exact absurd H (by simp)
      ·rw [if_neg c16] at H
       have c16b0 : decide (x32_1 < (l0_2.length : Int)) = false := decide_eq_false c16
       clear c16
       by_cases c24 : 0 ≤ (x4_1.length : Int)
       ·rw [if_pos c24] at H
        have c24b0 := eq_true c24
        have c24b1 : decide (0 ≤ (x4_1.length : Int)) = true := decide_eq_true c24
        clear c24
        by_cases c25 : ((x4_1.length : Int) : Int).toNat ≤ 35184372088832
        ·rw [if_pos c25] at H
         have c25b0 := eq_true c25
         have c25b1 : decide (((x4_1.length : Int) : Int).toNat ≤ 35184372088832) = true := decide_eq_true c25
         clear c25
         obtain ⟨y215, hy215⟩ : ∃ y_ : List Int, y_ = (List.replicate ((x4_1.length : Int) : Int).toNat 0) := ⟨_, rfl⟩
         replace H : (flow_Trim.l1 k1 y215 0 x4_1 (x4_1.length : Int) 0 l0_0 l0_1 l0_2 ([] : List Int) ([] : List (List (S64)))) = some (r1, r2, r3, r4) := by first | (rw [hy215]; with_reducible exact H) | (have H2_ := (Option.bind_some _ _).symm.trans H; rw [hy215]; with_reducible exact H2_) | (have H2_ := (Option.bind_some _ _).symm.trans H; with_reducible exact H2_) | with_reducible exact H | (rw [hy215]; exact H) | exact H
         have Ny215 := Aside0.mk hy215
         clear hy215
         have H' := Aside0.mk H
         clear H
         obtain ⟨Ao26, co26, eo26⟩ := Kd.R_slice HO_4.out
         subst eo26
         (go_wp2_with (first | ((with_reducible refine gate_dst (N := 43) rfl ?_); refine Kd.R_make (Kd.int .i64) _ 3 rfl (N := 43) rfl 22 _ _ rfl (x4_1.length : Int) rfl rfl Try.underlying22 (.int .i64 0) 8 info3 rfl (by decide) (by omega) 0 (ok := fun _ => True) (okp := fun _ => True) rfl (fun _ hk => hk) trivial (dt) (Nat.le_trans (Nat.mul_le_mul_right _ (dt : (x4_1.length : Int).toNat ≤ 35184372088832)) (by omega)) (Below.refl _ _) (Nat.le_refl _) ?_; intro v216 w27 ho28 hb hg_ hnew_; clear hg_ hnew_; (first | rw [← Ny215.out] at ho28 | (simp only [Int.reduceToNat] at ho28; rw [← Ny215.out] at ho28)); have n0_ := Aside0.mk (Kd.R_below (kR HO_4) hb); have n1_ := Aside0.mk (Kd.R_lower ho28 (below_size bl)); have n2_ := Aside0.mk (blk_below (g := gb207) (o := .cells #[.slice A0_0 l0_0.length c0_0, .slice A0_1 l0_1.length c0_1, .slice A0_2 l0_2.length c0_2] 25 (0, 0)) bk hb); have n3_ := Aside0.mk (blk_below (g := gb208) (o := .cells #[.slice none 0 0, .slice none 0 0, .slice none 0 0] 25 (0, 0)) bk hb); have n4_ := Aside0.mk (below_step bl hb); clear HO_4; clear BK207; clear BK208; clear HB; have HO_4 := n0_; have HO217 := n1_; have BK207 := n2_; have BK208 := n3_; have HB := n4_; clear n0_ n1_ n2_ n3_ n4_; clear hb ho28) | ((with_reducible refine gate_dst (N := 8) rfl ?_); refine box_event ?hg (N := 8) ?hd (cs := #[.slice none 0 0, .slice none 0 0, .slice none 0 0]) (t := 25) ?hr ?_; (case hd => rfl); (case hg => rfl); (case hr => first | (go_simp; done) | (go_simp; rfl)); intro gb218 hg w29 hbox hb; have n0_ := Aside0.mk (Kd.R_below (kR HO_4) hb); have n1_ := Aside0.mk (Kd.R_below (kR HO217) hb); have n2_ := Aside0.mk (blk_below (g := gb207) (o := .cells #[.slice A0_0 l0_0.length c0_0, .slice A0_1 l0_1.length c0_1, .slice A0_2 l0_2.length c0_2] 25 (0, 0)) bk hb); have n3_ := Aside0.mk (blk_below (g := gb208) (o := .cells #[.slice none 0 0, .slice none 0 0, .slice none 0 0] 25 (0, 0)) bk hb); have n4_ := Aside0.mk (below_step bl hb); have n5_ := Aside0.mk (hbox); have n6_ := Aside0.mk ((sz hg)); have n7_ := Aside0.mk ((sz hg)); have n8_ := Aside0.mk ((nl (g := gb207) (g' := gb218) hg)); have n9_ := Aside0.mk ((nr (g := gb207) (g' := gb218) hg)); have n10_ := Aside0.mk ((nl (g := gb208) (g' := gb218) hg)); have n11_ := Aside0.mk ((nr (g := gb208) (g' := gb218) hg)); clear HO_4; clear HO217; clear BK207; clear BK208; clear HB; have HO_4 := n0_; have HO217 := n1_; have BK207 := n2_; have BK208 := n3_; have HB := n4_; have BK218 := n5_; have GW218 := n6_; have GE218 := n7_; have NB207_218 := n8_; have NB218_207 := n9_; have NB208_218 := n10_; have NB218_208 := n11_; clear n0_ n1_ n2_ n3_ n4_ n5_ n6_ n7_ n8_ n9_ n10_ n11_; clear hb hbox hg)); repeat (go_step3; go_wp2_with (first | ((with_reducible refine gate_dst (N := 43) rfl ?_); refine Kd.R_make (Kd.int .i64) _ 3 rfl (N := 43) rfl 22 _ _ rfl (x4_1.length : Int) rfl rfl Try.underlying22 (.int .i64 0) 8 info3 rfl (by decide) (by omega) 0 (ok := fun _ => True) (okp := fun _ => True) rfl (fun _ hk => hk) trivial (dt) (Nat.le_trans (Nat.mul_le_mul_right _ (dt : (x4_1.length : Int).toNat ≤ 35184372088832)) (by omega)) (Below.refl _ _) (Nat.le_refl _) ?_; intro v216 w27 ho28 hb hg_ hnew_; clear hg_ hnew_; (first | rw [← Ny215.out] at ho28 | (simp only [Int.reduceToNat] at ho28; rw [← Ny215.out] at ho28)); have n0_ := Aside0.mk (Kd.R_below (kR HO_4) hb); have n1_ := Aside0.mk (Kd.R_lower ho28 (below_size bl)); have n2_ := Aside0.mk (blk_below (g := gb207) (o := .cells #[.slice A0_0 l0_0.length c0_0, .slice A0_1 l0_1.length c0_1, .slice A0_2 l0_2.length c0_2] 25 (0, 0)) bk hb); have n3_ := Aside0.mk (blk_below (g := gb208) (o := .cells #[.slice none 0 0, .slice none 0 0, .slice none 0 0] 25 (0, 0)) bk hb); have n4_ := Aside0.mk (below_step bl hb); clear HO_4; clear BK207; clear BK208; clear HB; have HO_4 := n0_; have HO217 := n1_; have BK207 := n2_; have BK208 := n3_; have HB := n4_; clear n0_ n1_ n2_ n3_ n4_; clear hb ho28) | ((with_reducible refine gate_dst (N := 8) rfl ?_); refine box_event ?hg (N := 8) ?hd (cs := #[.slice none 0 0, .slice none 0 0, .slice none 0 0]) (t := 25) ?hr ?_; (case hd => rfl); (case hg => rfl); (case hr => first | (go_simp; done) | (go_simp; rfl)); intro gb218 hg w29 hbox hb; have n0_ := Aside0.mk (Kd.R_below (kR HO_4) hb); have n1_ := Aside0.mk (Kd.R_below (kR HO217) hb); have n2_ := Aside0.mk (blk_below (g := gb207) (o := .cells #[.slice A0_0 l0_0.length c0_0, .slice A0_1 l0_1.length c0_1, .slice A0_2 l0_2.length c0_2] 25 (0, 0)) bk hb); have n3_ := Aside0.mk (blk_below (g := gb208) (o := .cells #[.slice none 0 0, .slice none 0 0, .slice none 0 0] 25 (0, 0)) bk hb); have n4_ := Aside0.mk (below_step bl hb); have n5_ := Aside0.mk (hbox); have n6_ := Aside0.mk ((sz hg)); have n7_ := Aside0.mk ((sz hg)); have n8_ := Aside0.mk ((nl (g := gb207) (g' := gb218) hg)); have n9_ := Aside0.mk ((nr (g := gb207) (g' := gb218) hg)); have n10_ := Aside0.mk ((nl (g := gb208) (g' := gb218) hg)); have n11_ := Aside0.mk ((nr (g := gb208) (g' := gb218) hg)); clear HO_4; clear HO217; clear BK207; clear BK208; clear HB; have HO_4 := n0_; have HO217 := n1_; have BK207 := n2_; have BK208 := n3_; have HB := n4_; have BK218 := n5_; have GW218 := n6_; have GE218 := n7_; have NB207_218 := n8_; have NB218_207 := n9_; have NB208_218 := n10_; have NB218_208 := n11_; clear n0_ n1_ n2_ n3_ n4_ n5_ n6_ n7_ n8_ n9_ n10_ n11_; clear hb hbox hg))))
         go_loopg [9, 46] k1 (fun kq v9 v46 w' => ∃ (x7_2 : List Int) (x9_2 : Int) (x46_2 : Int) (x219000_2 : List Int) (x219001_2 : List (List (S64))) (u219000 : Value) (u219001 : Value), v9 = .int .i64 x9_2 ∧ v46 = .int .i64 x46_2 ∧ Aside0 (flow_Trim.l1 kq x7_2 x9_2 x4_1 (x4_1.length : Int) x46_2 l0_0 l0_1 l0_2 x219000_2 x219001_2 = some (r1, r2, r3, r4)) ∧ Aside0 (kq ≤ k1) ∧ Aside0 (Kd.R (Kd.int .i64) 3 w' w.heap.size (fun k_ => some k_ ≠ (u219000 : Value).ownBlock) v216 x7_2) ∧ Aside0 (Kd.R Kd.bool 4 w' w.heap.size (fun _ => True) (.slice Ao26 x4_1.length co26) x4_1) ∧ Aside0 (Kd.R (Kd.int .i64) 3 w' w.heap.size (fun k_ => some k_ ≠ (v216 : Value).ownBlock) u219000 x219000_2) ∧ Aside0 (Kd.S (Kd.slice 64 k64) 62 w' w.heap.size (fun _ => True) u219001 x219001_2) ∧ Aside0 (w'.heap[gb207]? = some (.cells #[(.slice A0_0 l0_0.length c0_0), (.slice A0_1 l0_1.length c0_1), (.slice A0_2 l0_2.length c0_2)] 25 (0, 0))) ∧ Aside0 (w'.heap[gb208]? = some (.cells #[(.slice none 0 0), (.slice none 0 0), (.slice none 0 0)] 25 (0, 0))) ∧ Aside0 (w'.heap[gb218]? = some (.cells #[u219000, u219001, (.slice none 0 0)] 25 (0, 0))) ∧ Aside0 (Below w.heap.size w w'))
         case atStart => exact ⟨(y215), (0), (0), (([] : List Int)), (([] : List (List (S64)))), (.slice none 0 0), (.slice none 0 0), (by first | rfl | (simp; done) | (simp [*]; done)), (by first | rfl | (simp; done) | (simp [*]; done)), H', ⟨Nat.le_refl _⟩, ⟨by (with_reducible repeat (first | apply Kd.R_alloc | apply Kd.R_drewN | apply Kd.R_drew)); exact Kd.R_mono HO217.out (fun _ hk => (by simp [Value.ownBlock]))⟩, ⟨kR HO_4⟩, ⟨by first | exact Kd.R_nil _ _ _ _ _ | exact Kd.N_nil _ _ _ _ _ | exact Kd.V_nil _ _ _ _ _ | exact Kd.Q_nil _ _ _ _ _ | exact Kd.S_nil _ _ _ _ _⟩, ⟨by first | exact Kd.S_nil _ _ _ _ _ | exact Kd.N_nil _ _ _ _ _ | exact Kd.V_nil _ _ _ _ _ | exact Kd.Q_nil _ _ _ _ _ | exact Kd.R_nil _ _ _ _ _⟩, ⟨bk⟩, ⟨bk⟩, ⟨bk⟩, ⟨bl⟩⟩
         case round =>
          clear H'
          (try clear c1); (try clear c2); (try clear p2); (try clear q2); (try clear hx2); (try clear c3); (try clear c4); (try clear c5); (try clear c5b0); (try clear c5b1); (try clear c6); (try clear c6b0); (try clear c6b1); (try clear p6); (try clear c9); (try clear c11); (try clear c16); (try clear c16b0); (try clear c17); (try clear c17b0); (try clear c18); (try clear c18b0); (try clear c20); (try clear p21); (try clear q21); (try clear hx21); (try clear c24); (try clear c24b0); (try clear c24b1); (try clear c25); (try clear c25b0); (try clear c25b1); (try clear hcz10_0 hcz10_1 hcz10_2 hfz10_0 hfz10_1 hfz10_2); (try clear hcz12_0 hcz12_1 hcz12_2 hfz12_0 hfz12_1 hfz12_2); (try clear hcz15_0 hcz15_1 hcz15_2 hfz15_0 hfz15_1 hfz15_2); (try clear hcz21_0 hcz21_1 hcz21_2 hfz21_0 hfz21_1 hfz21_2); (try clear hx213_0); (try clear p213); (try clear q213)
          obtain ⟨x7_2, x9_2, x46_2, x219000_2, x219001_2, u219000, u219001, rfl, rfl, HA, HK2, HO_7, HO_44, HO_219000, HO_219001, BK207, BK208, BK218, HB⟩ := hrel
          cases gk with
          | zero => exact absurd HA.out (by simp [flow_Trim.l1])
          | succ k2 =>
           have H := HA.out
           clear HA
           simp only [flow_Trim.l1] at H
           by_cases c30 : x46_2 < (x4_1.length : Int)
           ·rw [if_pos c30] at H
            have c30b0 : decide (x46_2 < (x4_1.length : Int)) = true := decide_eq_true c30
            clear c30
            by_cases c31 : 0 ≤ x46_2
            ·rw [if_pos c31] at H
             have c31b0 : decide (0 ≤ x46_2) = true := decide_eq_true c31
             clear c31
             by_cases c32 : x46_2 < (x4_1.length : Int)
             ·rw [if_pos c32] at H
              have c32b0 : decide (x46_2 < (x4_1.length : Int)) = true := decide_eq_true c32
              clear c32
              obtain ⟨bq33, hbq33⟩ : ∃ b_ : Bool, b_ = (rdOf false x4_1 x46_2) := ⟨_, rfl⟩
              replace H : (if bq33 = true then (if x46_2 < (x7_2.length : Int) then ((some (x7_2.set (x46_2 : Int).toNat x9_2 : List Int)).bind fun y220 => (if x46_2 < (l0_0.length : Int) then (if x219000_2.length < 17592186044416 then (flow_Trim.l1 k2 y220 (wrap64 (x9_2 + 1)) x4_1 (x4_1.length : Int) (wrap64 (x46_2 + 1)) l0_0 l0_1 l0_2 (x219000_2 ++ [rd l0_0 x46_2]) x219001_2) else (none)) else (if 0 ≤ (wrap64 (x46_2 - (l0_0.length : Int))) then (if (wrap64 (x46_2 - (l0_0.length : Int))) < (l0_1.length : Int) then (flow_Trim.l2 k2 y220 (wrap64 (x9_2 + 1)) ([] : List (S64)) x4_1 (x4_1.length : Int) x46_2 (rd_L4 l0_1 (wrap64 (x46_2 - (l0_0.length : Int)))) ((rd_L4 l0_1 (wrap64 (x46_2 - (l0_0.length : Int)))).length : Int) 0 l0_0 l0_1 l0_2 x219000_2 x219001_2) else (none)) else (none)))) else (none)) else (flow_Trim.l1 k2 x7_2 x9_2 x4_1 (x4_1.length : Int) (wrap64 (x46_2 + 1)) l0_0 l0_1 l0_2 x219000_2 x219001_2)) = some (r1, r2, r3, r4) := by rw [← hbq33] at H; exact H
              have Nbq33 := Aside0.mk hbq33
              clear hbq33
              by_cases c34 : bq33 = true
              ·subst c34
               have H1 : (if x46_2 < (x7_2.length : Int) then ((some (x7_2.set (x46_2 : Int).toNat x9_2 : List Int)).bind fun y220 => (if x46_2 < (l0_0.length : Int) then (if x219000_2.length < 17592186044416 then (flow_Trim.l1 k2 y220 (wrap64 (x9_2 + 1)) x4_1 (x4_1.length : Int) (wrap64 (x46_2 + 1)) l0_0 l0_1 l0_2 (x219000_2 ++ [rd l0_0 x46_2]) x219001_2) else (none)) else (if 0 ≤ (wrap64 (x46_2 - (l0_0.length : Int))) then (if (wrap64 (x46_2 - (l0_0.length : Int))) < (l0_1.length : Int) then (flow_Trim.l2 k2 y220 (wrap64 (x9_2 + 1)) ([] : List (S64)) x4_1 (x4_1.length : Int) x46_2 (rd_L4 l0_1 (wrap64 (x46_2 - (l0_0.length : Int)))) ((rd_L4 l0_1 (wrap64 (x46_2 - (l0_0.length : Int)))).length : Int) 0 l0_0 l0_1 l0_2 x219000_2 x219001_2) else (none)) else (none)))) else (none)) = some (r1, r2, r3, r4) := by rw [if_pos rfl] at H; exact H
               clear H
               have H := H1
               clear H1
               by_cases c35 : x46_2 < (x7_2.length : Int)
               ·rw [if_pos c35] at H
                have c35b0 : decide (x46_2 < (x7_2.length : Int)) = true := decide_eq_true c35
                clear c35
                obtain ⟨y220, hy220⟩ : ∃ y_ : List Int, y_ = (x7_2.set (x46_2 : Int).toNat x9_2) := ⟨_, rfl⟩
                replace H : (if x46_2 < (l0_0.length : Int) then (if x219000_2.length < 17592186044416 then (flow_Trim.l1 k2 y220 (wrap64 (x9_2 + 1)) x4_1 (x4_1.length : Int) (wrap64 (x46_2 + 1)) l0_0 l0_1 l0_2 (x219000_2 ++ [rd l0_0 x46_2]) x219001_2) else (none)) else (if 0 ≤ (wrap64 (x46_2 - (l0_0.length : Int))) then (if (wrap64 (x46_2 - (l0_0.length : Int))) < (l0_1.length : Int) then (flow_Trim.l2 k2 y220 (wrap64 (x9_2 + 1)) ([] : List (S64)) x4_1 (x4_1.length : Int) x46_2 (rd_L4 l0_1 (wrap64 (x46_2 - (l0_0.length : Int)))) ((rd_L4 l0_1 (wrap64 (x46_2 - (l0_0.length : Int)))).length : Int) 0 l0_0 l0_1 l0_2 x219000_2 x219001_2) else (none)) else (none))) = some (r1, r2, r3, r4) := by first | (rw [hy220]; with_reducible exact H) | (have H2_ := (Option.bind_some _ _).symm.trans H; rw [hy220]; with_reducible exact H2_) | (have H2_ := (Option.bind_some _ _).symm.trans H; with_reducible exact H2_) | with_reducible exact H | (rw [hy220]; exact H) | exact H
                have Ny220 := Aside0.mk hy220
                clear hy220
                by_cases c37 : x46_2 < (l0_0.length : Int)
                ·rw [if_pos c37] at H
                 have c37b0 : decide (x46_2 < (l0_0.length : Int)) = true := decide_eq_true c37
                 clear c37
                 by_cases c38 : x219000_2.length < 17592186044416
                 ·rw [if_pos c38] at H
                  have LMc38 := Aside0.mk c38
                  clear c38
                  obtain ⟨y222, hy222⟩ : ∃ y_ : List Int, y_ = (x219000_2 ++ [rd l0_0 x46_2]) := ⟨_, rfl⟩
                  replace H : (flow_Trim.l1 k2 y220 (wrap64 (x9_2 + 1)) x4_1 (x4_1.length : Int) (wrap64 (x46_2 + 1)) l0_0 l0_1 l0_2 y222 x219001_2) = some (r1, r2, r3, r4) := by first | (rw [hy222]; with_reducible exact H) | (have H2_ := (Option.bind_some _ _).symm.trans H; rw [hy222]; with_reducible exact H2_) | (have H2_ := (Option.bind_some _ _).symm.trans H; with_reducible exact H2_) | with_reducible exact H | (rw [hy222]; exact H) | exact H
                  have Ny222 := Aside0.mk hy222
                  clear hy222
                  have H' := Aside0.mk H
                  clear H
                  have p219 : 0 ≤ (x46_2 : Int) := dt
                  have q219 : x46_2 < (x4_1.length : Int) := dt
                  obtain ⟨ad219, e219, hx219_0⟩ := Kd.at_bool (Kd.R_reads' HO_44.out).2.2 x46_2 p219 q219
                  (try rw [← Nbq33.out] at hx219_0)
                  cases e219
                  replace p219 := eq_true p219
                  replace q219 := eq_true q219
                  have p36 : 0 ≤ (x46_2 : Int) := dt
                  have q36 : (x46_2 : Int) < ((x7_2.length : Int) : Int) := dt
                  obtain ⟨go36, co36, eo36, gb36, gl36, cl36, HG36⟩ := Kd.R_form HO_7.out (by omega)
                  (first | cases eo36 | (injection eo36 with ea_ en_ ec_; (first | subst ea_ | (injection ea_ with ea_; subst ea_)); subst ec_; clear en_))
                  have GB36 := Aside0.mk gb36
                  have GG36 := Aside0.mk HG36
                  clear gb36 gl36 HG36
                  obtain ⟨hx36_0, hf36_0⟩ := Kd.R_celln 0 HO_7.out (x46_2 : Int) p36 q36
                  replace p36 := eq_true p36
                  replace q36 := eq_true q36
                  have HP39 := Kd.R_putg HO_7.out (x46_2 : Int) x9_2
                  try go_wp2_with (first | ((with_reducible refine gate_store (t := 3) (p := 56) rfl ?_); refine store_event (t := 3) (p := 56) (v := ?vo_w40) (w1 := (wr.setCell ⟨go36, (x46_2 : Int).toNat, none⟩ (.int .i64 x9_2))) ?hg ?ho ?hn ?hr ?_; (case ho => rfl); (case hg => rfl); (case hn => rfl); (case hr => first | (go_simp; done) | (go_simp; rfl)); intro w40 hw; have hg : wr.grownBy w40 (some go36) := (by rw [hw]; exact HP39.2); have hp_ : Kd.R (Kd.int .i64) 3 w40 w.heap.size (fun k_ => some k_ ≠ (u219000 : Value).ownBlock) (.slice (some ⟨go36, 0, none⟩) x7_2.length co36) y220 := (by rw [hw, Ny220.out]; exact HP39.1); clear HP39; have n0_ := Aside0.mk (hp_); have n1_ := Aside0.mk (Kd.R_over' (v := (.slice (some ⟨go36, 0, none⟩) x7_2.length co36)) (kR HO_44) (Kd.R_typed HO_7.out) (by decide) hg); have n2_ := Aside0.mk (Kd.R_after (v := (.slice (some ⟨go36, 0, none⟩) x7_2.length co36)) (v1 := (.slice (some ⟨go36, 0, none⟩) x7_2.length co36)) (ok := (fun _ => True)) (by (with_reducible repeat (first | apply Kd.R_alloc | apply Kd.R_drewN | apply Kd.R_drew)); exact Kd.R_mono HO_219000.out (fun _ hk => ⟨trivial, hk⟩)) hg (.inl rfl)); have n3_ := Aside0.mk (Kd.S_over' (v := (.slice (some ⟨go36, 0, none⟩) x7_2.length co36)) (kS HO_219001) (Kd.R_typed HO_7.out) (by decide) hg); have n4_ := Aside0.mk (blk_grown (g := gb207) (o := .cells #[.slice A0_0 l0_0.length c0_0, .slice A0_1 l0_1.length c0_1, .slice A0_2 l0_2.length c0_2] 25 (0, 0)) bk hg (Kd.R_ne HO_7.out BK207.out (by decide))); have n5_ := Aside0.mk (blk_grown (g := gb208) (o := .cells #[.slice none 0 0, .slice none 0 0, .slice none 0 0] 25 (0, 0)) bk hg (Kd.R_ne HO_7.out BK208.out (by decide))); have n6_ := Aside0.mk (blk_grown (g := gb218) (o := .cells #[u219000, u219001, .slice none 0 0] 25 (0, 0)) bk hg (Kd.R_ne HO_7.out BK218.out (by decide))); have n7_ := Aside0.mk ((by rw [hw]; exact below_set (HB.out) GB36.out : Below w.heap.size w w40)); clear HO_7; clear HO_44; clear HO_219000; clear HO_219001; clear BK207; clear BK208; clear BK218; clear HB; have HO_7 := n0_; have HO_44 := n1_; have HO_219000 := n2_; have HO_219001 := n3_; have BK207 := n4_; have BK208 := n5_; have BK218 := n6_; have HB := n7_; clear n0_ n1_ n2_ n3_ n4_ n5_ n6_ n7_; clear hg hw hp_; have hnb41 := NB207_208.out; have hnc41 := NB208_207.out; have hnb42 := NB207_218.out; have hnc42 := NB218_207.out; obtain ⟨⟨hcz43_0, hcz43_1, hcz43_2⟩, hfz43_0, hfz43_1, hfz43_2⟩ := b3 BK207.out))
                  have n0_ := Aside0.mk (Kd.R_drew HO_7.out)
                  have n1_ := Aside0.mk (Kd.R_drew HO_44.out)
                  have n2_ := Aside0.mk (Kd.R_drew HO_219000.out)
                  have n3_ := Aside0.mk (Kd.S_drew HO_219001.out)
                  have n4_ := Aside0.mk (blk_drew BK207.out)
                  have n5_ := Aside0.mk (blk_drew BK208.out)
                  have n6_ := Aside0.mk (blk_drew BK218.out)
                  have n7_ := Aside0.mk (below_drew1 HB.out)
                  clear HO_7
                  clear HO_44
                  clear HO_219000
                  clear HO_219001
                  clear BK207
                  clear BK208
                  clear BK218
                  clear HB
                  have HO_7 := n0_
                  have HO_44 := n1_
                  have HO_219000 := n2_
                  have HO_219001 := n3_
                  have BK207 := n4_
                  have BK208 := n5_
                  have BK218 := n6_
                  have HB := n7_
                  clear n0_ n1_ n2_ n3_ n4_ n5_ n6_ n7_
                  have p221 : 0 ≤ (x46_2 : Int) := dt
                  have q221 : x46_2 < (l0_0.length : Int) := dt
                  obtain ⟨ad221, e221, hx221_0⟩ := Kd.at_int HR0_0.out x46_2 p221 q221
                  have hw221_0 := hx221_0
                  cases e221
                  replace hx221_0 := cx HB hx221_0
                  replace p221 := eq_true p221
                  replace q221 := eq_true q221
                  refine start_ (n := 11) (S := fun w' => w'.cell? ⟨gb218, 0, none⟩ = some (u219000) ∧ w'.cell? ⟨gb218, 1, none⟩ = some (u219001) ∧ w'.cell? ⟨gb218, 2, none⟩ = some (.slice none 0 0) ∧ w'.cell? ⟨gb207, 0, none⟩ = some (.slice (some ad221) l0_0.length c0_0) ∧ w'.cell? ⟨gb207, 1, none⟩ = some (.slice A0_1 l0_1.length c0_1) ∧ w'.cell? ⟨gb207, 2, none⟩ = some (.slice A0_2 l0_2.length c0_2) ∧ w'.cell? (ad221.add (x46_2).toNat) = some (.int .i64 (rd l0_0 x46_2))) (ds := [10]) #[false, false, false, false, false, false, false, false, false, false, false] (by kernel_rfl) rfl rfl ⟨(blk_cell BK218.out 0).trans rfl, (blk_cell BK218.out 1).trans rfl, (blk_cell BK218.out 2).trans rfl, (blk_cell BK207.out 0).trans rfl, (blk_cell BK207.out 1).trans rfl, (blk_cell BK207.out 2).trans rfl, (cx HB hw221_0)⟩ (fun hHeld => ?_); refine with_tabW flow_Trim.tab19 flow_Trim.bits19 (fun HT_ HW_ => ?_)
                  generalize w40.drew = w44 at HO_7 HO_44 HO_219000 HO_219001 BK207 BK208 BK218 HB hx221_0 hHeld ⊢
                  refine pure_ (i := 0) (N := some 64) (v := ?_) (a' := ?_) #[true, false, false, false, false, false, false, false, false, false, false] rfl rfl (any_of HT_.out (by kernel_rfl)) (fun _ _ _ h => h) (Or.inl ⟨by rfl, ?_⟩) ?_ ?_
                  rotate_left
                  ·intro w'
                   go_simp
                   with_reducible rfl
                  rotate_left
                  ·simp only [Act.put, List.setIfInBounds_toArray, List.set_cons_zero, List.set_cons_succ, i64_w, i32_w]
                   rfl
                  refine pure_ (i := 2) (N := some 66) (v := ?_) (a' := ?_) #[true, false, true, false, false, false, false, false, false, false, false] rfl rfl (any_of HT_.out (by kernel_rfl)) (fun _ _ _ h => h) (Or.inl ⟨by rfl, ?_⟩) ?_ ?_
                  rotate_left
                  ·intro w'
                   go_simp
                   with_reducible rfl
                  rotate_left
                  ·simp only [Act.put, List.setIfInBounds_toArray, List.set_cons_zero, List.set_cons_succ, i64_w, i32_w]
                   rfl
                  refine pure_ (i := 4) (N := some 68) (v := ?_) (a' := ?_) #[true, false, true, false, true, false, false, false, false, false, false] rfl rfl (any_of HT_.out (by kernel_rfl)) (fun _ _ _ h => h) (Or.inl ⟨by rfl, ?_⟩) ?_ ?_
                  rotate_left
                  ·intro w'
                   go_simp
                   with_reducible rfl
                  rotate_left
                  ·simp only [Act.put, List.setIfInBounds_toArray, List.set_cons_zero, List.set_cons_succ, i64_w, i32_w]
                   rfl
                  refine take_ (i := 1) (N := some 65) (v := ?_) (a' := ?_) #[true, true, true, false, true, false, false, false, false, false, false] rfl rfl (take_ofW HT_.out HW_.out (by kernel_rfl)) (fun _ _ _ h => h) (Or.inl ⟨by rfl, ?_⟩) hHeld ?_ ?_
                  rotate_left
                  ·rintro w' ⟨s0, s1, s2, s3, s4, s5, s6⟩
                   go_simp
                   with_reducible rfl
                  rotate_left
                  ·simp only [Act.put, List.setIfInBounds_toArray, List.set_cons_zero, List.set_cons_succ, i64_w, i32_w]
                   rfl
                  refine take_ (i := 3) (N := some 67) (v := ?_) (a' := ?_) #[true, true, true, true, true, false, false, false, false, false, false] rfl rfl (take_ofW HT_.out HW_.out (by kernel_rfl)) (fun _ _ _ h => h) (Or.inl ⟨by rfl, ?_⟩) hHeld ?_ ?_
                  rotate_left
                  ·rintro w' ⟨s0, s1, s2, s3, s4, s5, s6⟩
                   go_simp
                   with_reducible rfl
                  rotate_left
                  ·simp only [Act.put, List.setIfInBounds_toArray, List.set_cons_zero, List.set_cons_succ, i64_w, i32_w]
                   rfl
                  refine pure_ (i := 5) (N := some 69) (v := ?_) (a' := ?_) #[true, true, true, true, true, true, false, false, false, false, false] rfl rfl (any_of HT_.out (by kernel_rfl)) (fun _ _ _ h => h) (Or.inl ⟨by rfl, ?_⟩) ?_ ?_
                  rotate_left
                  ·intro w'
                   go_simp
                   with_reducible rfl
                  rotate_left
                  ·simp only [Act.put, List.setIfInBounds_toArray, List.set_cons_zero, List.set_cons_succ, i64_w, i32_w]
                   rfl
                  refine take_ (i := 6) (N := some 70) (v := ?_) (a' := ?_) #[true, true, true, true, true, true, true, false, false, false, false] rfl rfl (take_ofW HT_.out HW_.out (by kernel_rfl)) (fun _ _ _ h => h) (Or.inl ⟨by rfl, ?_⟩) hHeld ?_ ?_
                  rotate_left
                  ·rintro w' ⟨s0, s1, s2, s3, s4, s5, s6⟩
                   go_simp
                   with_reducible rfl
                  rotate_left
                  ·simp only [Act.put, List.setIfInBounds_toArray, List.set_cons_zero, List.set_cons_succ, i64_w, i32_w]
                   rfl
                  refine one_ (i := 7) (N := some 71) #[true, true, true, true, true, true, true, true, false, false, false] rfl rfl (one_of HT_.out (by kernel_rfl)) (by decide) (fun K hK => ?_)
                  refine value_ (w1 := ?_) (v := ?_) (by rfl) rfl ?_ ?_
                  rotate_left 2
                  ·go_simp
                   constructor
                   ·rfl
                   ·rfl
                  refine hK.out _ _ ⟨(blk_cell (blk_alloc BK218.out _) 0).trans rfl, (blk_cell (blk_alloc BK218.out _) 1).trans rfl, (blk_cell (blk_alloc BK218.out _) 2).trans rfl, (blk_cell (blk_alloc BK207.out _) 0).trans rfl, (blk_cell (blk_alloc BK207.out _) 1).trans rfl, (blk_cell (blk_alloc BK207.out _) 2).trans rfl, (World.cell?_alloc_lt _ _ _ (World.block_lt_of_cell? _ _ ((cx HB hw221_0)))).trans ((cx HB hw221_0))⟩ (fun hHeld => ?_)
                  clear hK K
                  refine norm_ (a' := ?_) ?_ ?_
                  rotate_left
                  ·show Act.put _ (some 71) _ = _
                   simp only [Act.put, List.setIfInBounds_toArray, List.set_cons_zero, List.set_cons_succ, i64_w, i32_w]
                   rfl
                  refine one_ (i := 8) (N := some 72) #[true, true, true, true, true, true, true, true, true, false, false] rfl rfl (one_of HT_.out (by kernel_rfl)) (by decide) (fun K hK => ?_)
                  refine Kd.R_append_step (Kd.int .i64) (w0 := w) w.heap.size (by rfl) (.tmp 65) (.tmp 71) 22 3 (.int .i64 0) 8 rfl Try.underlying22 info3 rfl (by decide) (by omega) u219000 x219000_2 (rd l0_0 x46_2) [.int .i64 (rd l0_0 x46_2)] (fun k_ => some k_ ≠ (.slice (some ⟨go36, 0, none⟩) x7_2.length co36 : Value).ownBlock) (fun _ => False) rfl rfl ?aP (fun _ hk => hk.elim) ?aF ?aO ?aB ?aS ?aL ?_
                  (case aP => exact rfl)
                  (case aB => exact bl)
                  (case aF => exact (fun k_ hk => Kd.fresh' (Kd.R_lt (kR HO_7)) k_ hk))
                  (case aO => exact (by (with_reducible repeat (first | apply Kd.R_alloc | apply Kd.R_drewN | apply Kd.R_drew)); exact Kd.R_mono HO_219000.out (fun _ hk => hk.2)))
                  (case aS => exact (below_size bl))
                  (case aL => have := LMc38.out; omega)
                  intro v223 w45 ho hb hg hat
                  rw [← Ny222.out] at ho
                  have n0_ := Aside0.mk (Kd.R_after (ok := (fun _ => True)) (by (with_reducible repeat (first | apply Kd.R_alloc | apply Kd.R_drewN | apply Kd.R_drew)); exact Kd.R_mono HO_7.out (fun _ hk => ⟨trivial, hk⟩)) hg hat)
                  have n1_ := Aside0.mk (Kd.R_over' (kR HO_44) (Kd.R_typed (kR HO_219000)) (by decide) hg)
                  have n2_ := Aside0.mk (Kd.S_over' (kS HO_219001) (Kd.R_typed (kR HO_219000)) (by decide) hg)
                  have n3_ := Aside0.mk (blk_grown (g := gb207) (o := .cells #[.slice (some ad221) l0_0.length c0_0, .slice A0_1 l0_1.length c0_1, .slice A0_2 l0_2.length c0_2] 25 (0, 0)) bk hg (Kd.R_ne HO_219000.out BK207.out (by decide)))
                  have n4_ := Aside0.mk (blk_grown (g := gb208) (o := .cells #[.slice none 0 0, .slice none 0 0, .slice none 0 0] 25 (0, 0)) bk hg (Kd.R_ne HO_219000.out BK208.out (by decide)))
                  have n5_ := Aside0.mk (blk_grown (g := gb218) (o := .cells #[u219000, u219001, .slice none 0 0] 25 (0, 0)) bk hg (Kd.R_ne HO_219000.out BK218.out (by decide)))
                  have n6_ := Aside0.mk (hb)
                  have n7_ := Aside0.mk (ho)
                  clear HO_7
                  clear HO_44
                  clear HO_219001
                  clear BK207
                  clear BK208
                  clear BK218
                  clear HB
                  clear HO_219000
                  have HO_7 := n0_
                  have HO_44 := n1_
                  have HO_219001 := n2_
                  have BK207 := n3_
                  have BK208 := n4_
                  have BK218 := n5_
                  have HB := n6_
                  have HO224 := n7_
                  clear n0_ n1_ n2_ n3_ n4_ n5_ n6_ n7_
                  clear ho hb hg hat
                  obtain ⟨Ao46, co46, eo46⟩ := Kd.R_slice HO224.out
                  (first | subst eo46 | (injection eo46 with f1_ f2_ f3_; have f4_ := f1_.symm; have f5_ := f3_.symm; clear f1_ f2_ f3_; subst f4_; subst f5_))
                  refine hK.out _ _ ⟨(blk_cell BK218.out 0).trans rfl, (blk_cell BK218.out 1).trans rfl, (blk_cell BK218.out 2).trans rfl, (blk_cell BK207.out 0).trans rfl, (blk_cell BK207.out 1).trans rfl, (blk_cell BK207.out 2).trans rfl, (cx HB hw221_0)⟩ (fun hHeld => ?_)
                  clear hK K
                  refine norm_ (a' := ?_) ?_ ?_
                  rotate_left
                  ·show Act.put _ (some 72) _ = _
                   simp only [Act.put, List.setIfInBounds_toArray, List.set_cons_zero, List.set_cons_succ, i64_w, i32_w]
                   rfl
                  refine pure_ (i := 9) (N := some 73) (v := ?_) (a' := ?_) #[true, true, true, true, true, true, true, true, true, true, false] rfl rfl (any_of HT_.out (by kernel_rfl)) (fun _ _ _ h => h) (Or.inl ⟨by rfl, ?_⟩) ?_ ?_
                  rotate_left
                  ·intro w'
                   go_simp
                   with_reducible rfl
                  rotate_left
                  ·simp only [Act.put, List.setIfInBounds_toArray, List.set_cons_zero, List.set_cons_succ, i64_w, i32_w]
                   rfl
                  refine last_ (i := 10) (N := none) #[true, true, true, true, true, true, true, true, true, true, true] rfl rfl (one_of HT_.out (by kernel_rfl)) (by decide) (fun K hK => ?_)
                  have hs47 : w45.cell? ⟨gb218, 0, none⟩ = some (u219000) := (blk_cell BK218.out 0).trans rfl
                  have hfs47 := blk_frozen BK218.out 0
                  have hns47_0 := NB207_218.out
                  have hns47_1 := NB208_218.out
                  have hms47_0 := NB218_207.out
                  have hms47_1 := NB218_208.out
                  refine skip_ (w1 := ?_) (by rfl) rfl ?_ ?_
                  rotate_left
                  ·go_simp
                   rfl
                  refine hK.out _ _ ?_
                  clear hK K
                  refine done_ (done_of HT_.out (by kernel_rfl)) ?_
                  try go_wp2
                  go_roundg k2
                  case measure => have := HK1.out; have := HK2.out; omega
                  case rel => exact ⟨(y220), (wrap64 (x9_2 + 1)), (wrap64 (x46_2 + 1)), (y222), (x219001_2), (.slice Ao46 y222.length co46), (u219001), (by first | rfl | (simp; done) | (simp [*]; done)), (by first | rfl | (simp; done) | (simp [*]; done)), H', ⟨by have := HK1.out; have := HK2.out; omega⟩, ⟨by (with_reducible repeat (first | apply Kd.R_alloc | apply Kd.R_drewN | apply Kd.R_drew)); exact Kd.R_mono (Kd.R_far (p := ⟨gb218, 0, none⟩) (Kd.R_types HO_7.out BK218.out (by decide)) (fun _ hk => hk.2) (.slice Ao46 y222.length co46)) (fun _ hk => hk.1.2)⟩, ⟨by (with_reducible repeat (first | apply Kd.R_alloc | apply Kd.R_drewN | apply Kd.R_drew)); exact Kd.R_mono (Kd.R_far (p := ⟨gb218, 0, none⟩) (Kd.R_types HO_44.out BK218.out (by decide)) (fun _ hk => hk.2) (.slice Ao46 y222.length co46)) (fun _ hk => trivial)⟩, ⟨by (with_reducible repeat (first | apply Kd.R_alloc | apply Kd.R_drewN | apply Kd.R_drew)); exact Kd.R_mono (Kd.R_far (p := ⟨gb218, 0, none⟩) (Kd.R_types HO224.out BK218.out (by decide)) (fun _ hk => hk.2) (.slice Ao46 y222.length co46)) (fun _ hk => hk.1)⟩, ⟨by (with_reducible repeat (first | apply Kd.S_alloc | apply Kd.S_drewN | apply Kd.S_drew)); exact Kd.S_mono (Kd.S_far (p := ⟨gb218, 0, none⟩) (Kd.S_types HO_219001.out BK218.out (by decide)) (fun _ hk => hk.2) (.slice Ao46 y222.length co46)) (fun _ hk => trivial)⟩, ⟨by (with_reducible repeat (first | refine blk_drewN ?_ _ | refine blk_drew ?_ | refine blk_alloc ?_ _)); refine blk_far ?_ NB207_218.out _; (with_reducible repeat (first | refine blk_drewN ?_ _ | refine blk_drew ?_ | refine blk_alloc ?_ _)); exact BK207.out⟩, ⟨by (with_reducible repeat (first | refine blk_drewN ?_ _ | refine blk_drew ?_ | refine blk_alloc ?_ _)); refine blk_far ?_ NB208_218.out _; (with_reducible repeat (first | refine blk_drewN ?_ _ | refine blk_drew ?_ | refine blk_alloc ?_ _)); exact BK208.out⟩, ⟨by (with_reducible repeat (first | refine blk_drewN ?_ _ | refine blk_drew ?_ | refine blk_alloc ?_ _)); refine blk_put (cs := #[u219000, u219001, .slice none 0 0]) ?_ 0 _ rfl; (with_reducible repeat (first | refine blk_drewN ?_ _ | refine blk_drew ?_ | refine blk_alloc ?_ _)); exact BK218.out⟩, ⟨bl⟩⟩
                 ·rw [if_neg c38] at H
                  exact absurd H (by simp)
                ·rw [if_neg c37] at H
                 have c37b0 : decide (x46_2 < (l0_0.length : Int)) = false := decide_eq_false c37
                 clear c37
                 obtain ⟨ji48, hji48⟩ : ∃ j_ : Int, (wrap64 (x46_2 - (l0_0.length : Int))) = j_ := ⟨_, rfl⟩
                 replace H : (if 0 ≤ (ji48) then (if (ji48) < (l0_1.length : Int) then (flow_Trim.l2 k2 y220 (wrap64 (x9_2 + 1)) ([] : List (S64)) x4_1 (x4_1.length : Int) x46_2 (rd_L4 l0_1 (ji48)) ((rd_L4 l0_1 (ji48)).length : Int) 0 l0_0 l0_1 l0_2 x219000_2 x219001_2) else (none)) else (none)) = some (r1, r2, r3, r4) := by first | (rw [hji48] at H; exact H) | (simp only [hji48] at H ⊢; exact H)
                 have hji48w : (IntKind.i64.wrap (x46_2 - (l0_0.length : Int))) = ji48 := (i64_w _).trans hji48
                 by_cases c49 : 0 ≤ (ji48)
                 ·rw [if_pos c49] at H
                  have c49b0 : decide (0 ≤ (ji48)) = true := decide_eq_true c49
                  clear c49
                  by_cases c50 : (ji48) < (l0_1.length : Int)
                  ·rw [if_pos c50] at H
                   have c50b0 : decide ((ji48) < (l0_1.length : Int)) = true := decide_eq_true c50
                   clear c50
                   have H' := Aside0.mk H
                   clear H
                   have p219 : 0 ≤ (x46_2 : Int) := dt
                   have q219 : x46_2 < (x4_1.length : Int) := dt
                   obtain ⟨ad219, e219, hx219_0⟩ := Kd.at_bool (Kd.R_reads' HO_44.out).2.2 x46_2 p219 q219
                   (try rw [← Nbq33.out] at hx219_0)
                   cases e219
                   replace p219 := eq_true p219
                   replace q219 := eq_true q219
                   have p36 : 0 ≤ (x46_2 : Int) := dt
                   have q36 : (x46_2 : Int) < ((x7_2.length : Int) : Int) := dt
                   obtain ⟨go36, co36, eo36, gb36, gl36, cl36, HG36⟩ := Kd.R_form HO_7.out (by omega)
                   (first | cases eo36 | (injection eo36 with ea_ en_ ec_; (first | subst ea_ | (injection ea_ with ea_; subst ea_)); subst ec_; clear en_))
                   have GB36 := Aside0.mk gb36
                   have GG36 := Aside0.mk HG36
                   clear gb36 gl36 HG36
                   obtain ⟨hx36_0, hf36_0⟩ := Kd.R_celln 0 HO_7.out (x46_2 : Int) p36 q36
                   replace p36 := eq_true p36
                   replace q36 := eq_true q36
                   have HP51 := Kd.R_putg HO_7.out (x46_2 : Int) x9_2
                   (go_wp2_with (first | ((with_reducible refine gate_store (t := 3) (p := 56) rfl ?_); refine store_event (t := 3) (p := 56) (v := ?vo_w52) (w1 := (wr.setCell ⟨go36, (x46_2 : Int).toNat, none⟩ (.int .i64 x9_2))) ?hg ?ho ?hn ?hr ?_; (case ho => rfl); (case hg => rfl); (case hn => rfl); (case hr => first | (go_simp; done) | (go_simp; rfl)); intro w52 hw; have hg : wr.grownBy w52 (some go36) := (by rw [hw]; exact HP51.2); have hp_ : Kd.R (Kd.int .i64) 3 w52 w.heap.size (fun k_ => some k_ ≠ (u219000 : Value).ownBlock) (.slice (some ⟨go36, 0, none⟩) x7_2.length co36) y220 := (by rw [hw, Ny220.out]; exact HP51.1); clear HP51; have n0_ := Aside0.mk (hp_); have n1_ := Aside0.mk (Kd.R_over' (v := (.slice (some ⟨go36, 0, none⟩) x7_2.length co36)) (kR HO_44) (Kd.R_typed HO_7.out) (by decide) hg); have n2_ := Aside0.mk (Kd.R_after (v := (.slice (some ⟨go36, 0, none⟩) x7_2.length co36)) (v1 := (.slice (some ⟨go36, 0, none⟩) x7_2.length co36)) (ok := (fun _ => True)) (by (with_reducible repeat (first | apply Kd.R_alloc | apply Kd.R_drewN | apply Kd.R_drew)); exact Kd.R_mono HO_219000.out (fun _ hk => ⟨trivial, hk⟩)) hg (.inl rfl)); have n3_ := Aside0.mk (Kd.S_over' (v := (.slice (some ⟨go36, 0, none⟩) x7_2.length co36)) (kS HO_219001) (Kd.R_typed HO_7.out) (by decide) hg); have n4_ := Aside0.mk (blk_grown (g := gb207) (o := .cells #[.slice A0_0 l0_0.length c0_0, .slice A0_1 l0_1.length c0_1, .slice A0_2 l0_2.length c0_2] 25 (0, 0)) bk hg (Kd.R_ne HO_7.out BK207.out (by decide))); have n5_ := Aside0.mk (blk_grown (g := gb208) (o := .cells #[.slice none 0 0, .slice none 0 0, .slice none 0 0] 25 (0, 0)) bk hg (Kd.R_ne HO_7.out BK208.out (by decide))); have n6_ := Aside0.mk (blk_grown (g := gb218) (o := .cells #[u219000, u219001, .slice none 0 0] 25 (0, 0)) bk hg (Kd.R_ne HO_7.out BK218.out (by decide))); have n7_ := Aside0.mk ((by rw [hw]; exact below_set (HB.out) GB36.out : Below w.heap.size w w52)); clear HO_7; clear HO_44; clear HO_219000; clear HO_219001; clear BK207; clear BK208; clear BK218; clear HB; have HO_7 := n0_; have HO_44 := n1_; have HO_219000 := n2_; have HO_219001 := n3_; have BK207 := n4_; have BK208 := n5_; have BK218 := n6_; have HB := n7_; clear n0_ n1_ n2_ n3_ n4_ n5_ n6_ n7_; clear hg hw hp_; have hnb53 := NB207_208.out; have hnc53 := NB208_207.out; have hnb54 := NB207_218.out; have hnc54 := NB218_207.out; obtain ⟨⟨hcz55_0, hcz55_1, hcz55_2⟩, hfz55_0, hfz55_1, hfz55_2⟩ := b3 BK207.out; have p225 : 0 ≤ ((ji48) : Int) := dt; have q225 : (ji48) < (l0_1.length : Int) := dt; obtain ⟨ad225, A225_0, c225_0, e225, hx225_0, hl225_0, hi225_0⟩ := at_L4 HR0_1.out (ji48) p225 q225; cases e225; replace hx225_0 := cx HB hx225_0; have HR225_0 := Aside0.mk hi225_0; have HC225_0 := Aside0.mk hl225_0; clear hi225_0 hl225_0; replace p225 := eq_true p225; replace q225 := eq_true q225)); repeat (go_step3; go_wp2_with (first | ((with_reducible refine gate_store (t := 3) (p := 56) rfl ?_); refine store_event (t := 3) (p := 56) (v := ?vo_w52) (w1 := (wr.setCell ⟨go36, (x46_2 : Int).toNat, none⟩ (.int .i64 x9_2))) ?hg ?ho ?hn ?hr ?_; (case ho => rfl); (case hg => rfl); (case hn => rfl); (case hr => first | (go_simp; done) | (go_simp; rfl)); intro w52 hw; have hg : wr.grownBy w52 (some go36) := (by rw [hw]; exact HP51.2); have hp_ : Kd.R (Kd.int .i64) 3 w52 w.heap.size (fun k_ => some k_ ≠ (u219000 : Value).ownBlock) (.slice (some ⟨go36, 0, none⟩) x7_2.length co36) y220 := (by rw [hw, Ny220.out]; exact HP51.1); clear HP51; have n0_ := Aside0.mk (hp_); have n1_ := Aside0.mk (Kd.R_over' (v := (.slice (some ⟨go36, 0, none⟩) x7_2.length co36)) (kR HO_44) (Kd.R_typed HO_7.out) (by decide) hg); have n2_ := Aside0.mk (Kd.R_after (v := (.slice (some ⟨go36, 0, none⟩) x7_2.length co36)) (v1 := (.slice (some ⟨go36, 0, none⟩) x7_2.length co36)) (ok := (fun _ => True)) (by (with_reducible repeat (first | apply Kd.R_alloc | apply Kd.R_drewN | apply Kd.R_drew)); exact Kd.R_mono HO_219000.out (fun _ hk => ⟨trivial, hk⟩)) hg (.inl rfl)); have n3_ := Aside0.mk (Kd.S_over' (v := (.slice (some ⟨go36, 0, none⟩) x7_2.length co36)) (kS HO_219001) (Kd.R_typed HO_7.out) (by decide) hg); have n4_ := Aside0.mk (blk_grown (g := gb207) (o := .cells #[.slice A0_0 l0_0.length c0_0, .slice A0_1 l0_1.length c0_1, .slice A0_2 l0_2.length c0_2] 25 (0, 0)) bk hg (Kd.R_ne HO_7.out BK207.out (by decide))); have n5_ := Aside0.mk (blk_grown (g := gb208) (o := .cells #[.slice none 0 0, .slice none 0 0, .slice none 0 0] 25 (0, 0)) bk hg (Kd.R_ne HO_7.out BK208.out (by decide))); have n6_ := Aside0.mk (blk_grown (g := gb218) (o := .cells #[u219000, u219001, .slice none 0 0] 25 (0, 0)) bk hg (Kd.R_ne HO_7.out BK218.out (by decide))); have n7_ := Aside0.mk ((by rw [hw]; exact below_set (HB.out) GB36.out : Below w.heap.size w w52)); clear HO_7; clear HO_44; clear HO_219000; clear HO_219001; clear BK207; clear BK208; clear BK218; clear HB; have HO_7 := n0_; have HO_44 := n1_; have HO_219000 := n2_; have HO_219001 := n3_; have BK207 := n4_; have BK208 := n5_; have BK218 := n6_; have HB := n7_; clear n0_ n1_ n2_ n3_ n4_ n5_ n6_ n7_; clear hg hw hp_; have hnb53 := NB207_208.out; have hnc53 := NB208_207.out; have hnb54 := NB207_218.out; have hnc54 := NB218_207.out; obtain ⟨⟨hcz55_0, hcz55_1, hcz55_2⟩, hfz55_0, hfz55_1, hfz55_2⟩ := b3 BK207.out; have p225 : 0 ≤ ((ji48) : Int) := dt; have q225 : (ji48) < (l0_1.length : Int) := dt; obtain ⟨ad225, A225_0, c225_0, e225, hx225_0, hl225_0, hi225_0⟩ := at_L4 HR0_1.out (ji48) p225 q225; cases e225; replace hx225_0 := cx HB hx225_0; have HR225_0 := Aside0.mk hi225_0; have HC225_0 := Aside0.mk hl225_0; clear hi225_0 hl225_0; replace p225 := eq_true p225; replace q225 := eq_true q225))))
                   go_loopg [12, 84] k2 (fun kq v12 v84 w' => ∃ (x12_3 : List (S64)) (x84_3 : Int), v84 = .int .i64 x84_3 ∧ Aside0 (flow_Trim.l2 kq y220 (wrap64 (x9_2 + 1)) x12_3 x4_1 (x4_1.length : Int) x46_2 (rd_L4 l0_1 (ji48)) ((rd_L4 l0_1 (ji48)).length : Int) x84_3 l0_0 l0_1 l0_2 x219000_2 x219001_2 = some (r1, r2, r3, r4)) ∧ Aside0 (kq ≤ k2) ∧ Aside0 (Kd.R (Kd.int .i64) 3 w' w.heap.size (fun k_ => some k_ ≠ (u219000 : Value).ownBlock) (.slice (some ⟨go36, 0, none⟩) x7_2.length co36) y220) ∧ Aside0 (Kd.R k64 64 w' w.heap.size (fun _ => True) v12 x12_3) ∧ Aside0 (Kd.R Kd.bool 4 w' w.heap.size (fun _ => True) (.slice (some ad219) x4_1.length co26) x4_1) ∧ Aside0 (Kd.R (Kd.int .i64) 3 w' w.heap.size (fun k_ => some k_ ≠ ((.slice (some ⟨go36, 0, none⟩) x7_2.length co36) : Value).ownBlock) u219000 x219000_2) ∧ Aside0 (Kd.S (Kd.slice 64 k64) 62 w' w.heap.size (fun k_ => some k_ ≠ (v12 : Value).ownBlock) u219001 x219001_2) ∧ Aside0 (w'.heap[gb207]? = some (.cells #[(.slice A0_0 l0_0.length c0_0), (.slice (some ad225) l0_1.length c0_1), (.slice A0_2 l0_2.length c0_2)] 25 (0, 0))) ∧ Aside0 (w'.heap[gb208]? = some (.cells #[(.slice none 0 0), (.slice none 0 0), (.slice none 0 0)] 25 (0, 0))) ∧ Aside0 (w'.heap[gb218]? = some (.cells #[u219000, u219001, (.slice none 0 0)] 25 (0, 0))) ∧ Aside0 (Below w.heap.size w w'))
                   case atStart => exact ⟨(([] : List (S64))), (0), (by first | rfl | (simp; done) | (simp [*]; done)), H', ⟨Nat.le_refl _⟩, ⟨kR HO_7⟩, ⟨by first | exact Kd.R_nil _ _ _ _ _ | exact Kd.N_nil _ _ _ _ _ | exact Kd.V_nil _ _ _ _ _ | exact Kd.Q_nil _ _ _ _ _ | exact Kd.S_nil _ _ _ _ _⟩, ⟨kR HO_44⟩, ⟨by (with_reducible repeat (first | apply Kd.R_alloc | apply Kd.R_drewN | apply Kd.R_drew)); exact Kd.R_mono HO_219000.out (fun _ hk => hk.2)⟩, ⟨by (with_reducible repeat (first | apply Kd.S_alloc | apply Kd.S_drewN | apply Kd.S_drew)); exact Kd.S_mono HO_219001.out (fun _ hk => (by simp [Value.ownBlock]))⟩, ⟨bk⟩, ⟨bk⟩, ⟨bk⟩, ⟨bl⟩⟩
                   case round =>
                    clear H'
                    (try clear c1); (try clear c2); (try clear p2); (try clear q2); (try clear hx2); (try clear c3); (try clear p3); (try clear q3); (try clear hx3); (try clear hf3); (try clear c4); (try clear c5); (try clear c5b0); (try clear c5b1); (try clear c6); (try clear c6b0); (try clear c6b1); (try clear p6); (try clear c9); (try clear c11); (try clear c16); (try clear c16b0); (try clear c17); (try clear c17b0); (try clear c18); (try clear c18b0); (try clear c20); (try clear p21); (try clear q21); (try clear hx21); (try clear c22); (try clear p22); (try clear q22); (try clear hx22); (try clear c24); (try clear c24b0); (try clear c24b1); (try clear c25); (try clear c25b0); (try clear c25b1); (try clear c30); (try clear c30b0); (try clear c31); (try clear c31b0); (try clear c32); (try clear c32b0); (try clear q33); (try clear c34); (try clear c35); (try clear c35b0); (try clear p36); (try clear q36); (try clear hx36); (try clear hf36); (try clear c37); (try clear c37b0); (try clear c38); (try clear c41); (try clear c42); (try clear c49); (try clear c49b0); (try clear c50); (try clear c50b0); (try clear c53); (try clear c54); (try clear hcz10_0 hcz10_1 hcz10_2 hfz10_0 hfz10_1 hfz10_2); (try clear hcz12_0 hcz12_1 hcz12_2 hfz12_0 hfz12_1 hfz12_2); (try clear hcz15_0 hcz15_1 hcz15_2 hfz15_0 hfz15_1 hfz15_2); (try clear hcz21_0 hcz21_1 hcz21_2 hfz21_0 hfz21_1 hfz21_2); (try clear hcz43_0 hcz43_1 hcz43_2 hfz43_0 hfz43_1 hfz43_2); (try clear hcz55_0 hcz55_1 hcz55_2 hfz55_0 hfz55_1 hfz55_2); (try clear hx213_0); (try clear hx219_0); (try clear hx221_0); (try clear hx225_0); (try clear hx36_0); (try clear p213); (try clear p219); (try clear p221); (try clear p225); (try clear q213); (try clear q219); (try clear q221); (try clear q225)
                    obtain ⟨x12_3, x84_3, rfl, HA, HK3, HO_7, HO_12, HO_44, HO_219000, HO_219001, BK207, BK208, BK218, HB⟩ := hrel
                    have hl7_3 := (Kd.R_reads' HO_7.out).1
                    rw [hl7_3] at HO_7
                    (try simp only [hl7_3])
                    (try simp only [hl7_3] at BK207)
                    (try simp only [hl7_3] at BK208)
                    (try simp only [hl7_3] at BK218)
                    (try simp only [hl7_3] at HO_12)
                    (try simp only [hl7_3] at HO_44)
                    (try simp only [hl7_3] at HO_219000)
                    (try simp only [hl7_3] at HO_219001)
                    cases gk with
                    | zero => exact absurd HA.out (by simp [flow_Trim.l2])
                    | succ k3 =>
                     have H := HA.out
                     clear HA
                     simp only [flow_Trim.l2] at H
                     by_cases c56 : x84_3 < ((rd_L4 l0_1 (ji48)).length : Int)
                     ·rw [if_pos c56] at H
                      have c56b0 : decide (x84_3 < ((rd_L4 l0_1 (ji48)).length : Int)) = true := decide_eq_true c56
                      clear c56
                      by_cases c57 : 0 ≤ x84_3
                      ·rw [if_pos c57] at H
                       have c57b0 : decide (0 ≤ x84_3) = true := decide_eq_true c57
                       clear c57
                       by_cases c58 : x84_3 < ((rd_L4 l0_1 (ji48)).length : Int)
                       ·rw [if_pos c58] at H
                        have c58b0 : decide (x84_3 < ((rd_L4 l0_1 (ji48)).length : Int)) = true := decide_eq_true c58
                        clear c58
                        by_cases c59 : 0 ≤ ((rd_T64 (rd_L4 l0_1 (ji48)) x84_3).f0)
                        ·rw [if_pos c59] at H
                         have c59b0 : decide (0 ≤ ((rd_T64 (rd_L4 l0_1 (ji48)) x84_3).f0)) = true := decide_eq_true c59
                         clear c59
                         by_cases c60 : ((rd_T64 (rd_L4 l0_1 (ji48)) x84_3).f0) < (y220.length : Int)
                         ·rw [if_pos c60] at H
                          have c60b0 : decide (((rd_T64 (rd_L4 l0_1 (ji48)) x84_3).f0) < (y220.length : Int)) = true := decide_eq_true c60
                          clear c60
                          by_cases c61 : x12_3.length < 8796093022208
                          ·rw [if_pos c61] at H
                           have LMc61 := Aside0.mk c61
                           clear c61
                           obtain ⟨y229, hy229⟩ : ∃ y_ : List (S64), y_ = (x12_3 ++ [(⟨rd y220 ((rd_T64 (rd_L4 l0_1 (ji48)) x84_3).f0), (rd_T64 (rd_L4 l0_1 (ji48)) x84_3).f1⟩ : S64)]) := ⟨_, rfl⟩
                           replace H : (flow_Trim.l2 k3 y220 (wrap64 (x9_2 + 1)) y229 x4_1 (x4_1.length : Int) x46_2 (rd_L4 l0_1 (ji48)) ((rd_L4 l0_1 (ji48)).length : Int) (wrap64 (x84_3 + 1)) l0_0 l0_1 l0_2 x219000_2 x219001_2) = some (r1, r2, r3, r4) := by first | (rw [hy229]; with_reducible exact H) | (have H2_ := (Option.bind_some _ _).symm.trans H; rw [hy229]; with_reducible exact H2_) | (have H2_ := (Option.bind_some _ _).symm.trans H; with_reducible exact H2_) | with_reducible exact H | (rw [hy229]; exact H) | exact H
                           have Ny229 := Aside0.mk hy229
                           clear hy229
                           have H' := Aside0.mk H
                           clear H
                           have p226 : 0 ≤ (x84_3 : Int) := dt
                           have q226 : x84_3 < ((rd_L4 l0_1 (ji48)).length : Int) := dt
                           obtain ⟨ad226, e226, hx226_0, hx226_1⟩ := at_T64 HR225_0.out x84_3 p226 q226
                           cases e226
                           replace hx226_0 := cx HB hx226_0
                           replace hx226_1 := cx HB hx226_1
                           replace p226 := eq_true p226
                           replace q226 := eq_true q226
                           try go_wp2_with (first | ((with_reducible refine gate_dst (N := 14) rfl ?_); refine box_event ?hg (N := 14) ?hd (cs := #[.int .i64 0, .int .u8 0]) (t := 64) ?hr ?_; (case hd => rfl); (case hg => rfl); (case hr => first | (go_simp; done) | (go_simp; rfl)); intro gb227 hg w62 hbox hb; have n0_ := Aside0.mk (Kd.R_below (kR HO_7) hb); have n1_ := Aside0.mk (Kd.R_below (Kd.R_elderB (kR HO_12) gb227 (Nat.le_of_eq hg.symm)) hb); have n2_ := Aside0.mk (Kd.R_below (kR HO_44) hb); have n3_ := Aside0.mk (Kd.R_below (kR HO_219000) hb); have n4_ := Aside0.mk (Kd.S_below (Kd.S_elderB (kS HO_219001) gb227 (Nat.le_of_eq hg.symm)) hb); have n5_ := Aside0.mk (blk_below (g := gb207) (o := .cells #[.slice A0_0 l0_0.length c0_0, .slice (some ad225) l0_1.length c0_1, .slice A0_2 l0_2.length c0_2] 25 (0, 0)) bk hb); have n6_ := Aside0.mk (blk_below (g := gb208) (o := .cells #[.slice none 0 0, .slice none 0 0, .slice none 0 0] 25 (0, 0)) bk hb); have n7_ := Aside0.mk (blk_below (g := gb218) (o := .cells #[u219000, u219001, .slice none 0 0] 25 (0, 0)) bk hb); have n8_ := Aside0.mk (below_step bl hb); have n9_ := Aside0.mk (hbox); have n10_ := Aside0.mk ((sz hg)); have n11_ := Aside0.mk ((sz hg)); have n12_ := Aside0.mk ((nl (g := gb207) (g' := gb227) hg)); have n13_ := Aside0.mk ((nr (g := gb207) (g' := gb227) hg)); have n14_ := Aside0.mk ((nl (g := gb208) (g' := gb227) hg)); have n15_ := Aside0.mk ((nr (g := gb208) (g' := gb227) hg)); have n16_ := Aside0.mk ((nl (g := gb218) (g' := gb227) hg)); have n17_ := Aside0.mk ((nr (g := gb218) (g' := gb227) hg)); clear HO_7; clear HO_12; clear HO_44; clear HO_219000; clear HO_219001; clear BK207; clear BK208; clear BK218; clear HB; have HO_7 := n0_; have HO_12 := n1_; have HO_44 := n2_; have HO_219000 := n3_; have HO_219001 := n4_; have BK207 := n5_; have BK208 := n6_; have BK218 := n7_; have HB := n8_; have BK227 := n9_; have GW227 := n10_; have GE227 := n11_; have NB207_227 := n12_; have NB227_207 := n13_; have NB208_227 := n14_; have NB227_208 := n15_; have NB218_227 := n16_; have NB227_218 := n17_; clear n0_ n1_ n2_ n3_ n4_ n5_ n6_ n7_ n8_ n9_ n10_ n11_ n12_ n13_ n14_ n15_ n16_ n17_; clear hb hbox hg; have hnb63 := NB227_207.out; have hnc63 := NB207_227.out; have hnb64 := NB227_208.out; have hnc64 := NB208_227.out; have hnb65 := NB227_218.out; have hnc65 := NB218_227.out; obtain ⟨⟨hcz66_0, hcz66_1⟩, hfz66_0, hfz66_1⟩ := b2 BK227.out))
                           have n0_ : Aside0 (Kd.R (Kd.int .i64) 3 ((w62.setCell ⟨gb227, 0, none⟩ (.int .i64 ((rd_T64 (rd_L4 l0_1 (ji48)) x84_3).f0))).setCell ⟨gb227, 1, none⟩ (.int .u8 ((rd_T64 (rd_L4 l0_1 (ji48)) x84_3).f1))) w.heap.size (fun k_ => some k_ ≠ (u219000 : Value).ownBlock) (.slice (some ⟨go36, 0, none⟩) y220.length co36) y220) := ⟨by (with_reducible repeat (first | apply Kd.R_alloc | apply Kd.R_drewN | apply Kd.R_drew)); exact Kd.R_mono (Kd.R_far (p := ⟨gb227, 1, none⟩) (Kd.R_far (p := ⟨gb227, 0, none⟩) (Kd.R_types HO_7.out BK227.out (by decide)) (fun _ hk => hk.2) (.int .i64 ((rd_T64 (rd_L4 l0_1 (ji48)) x84_3).f0))) (fun _ hk => hk.2) (.int .u8 ((rd_T64 (rd_L4 l0_1 (ji48)) x84_3).f1))) (fun _ hk => hk.1)⟩
                           have n1_ : Aside0 (Kd.R k64 64 ((w62.setCell ⟨gb227, 0, none⟩ (.int .i64 ((rd_T64 (rd_L4 l0_1 (ji48)) x84_3).f0))).setCell ⟨gb227, 1, none⟩ (.int .u8 ((rd_T64 (rd_L4 l0_1 (ji48)) x84_3).f1))) w.heap.size (fun k_ => k_ ≠ gb227) u12 x12_3) := ⟨by (with_reducible repeat (first | apply Kd.R_alloc | apply Kd.R_drewN | apply Kd.R_drew)); exact Kd.R_mono (Kd.R_far (p := ⟨gb227, 1, none⟩) (Kd.R_far (p := ⟨gb227, 0, none⟩) (Kd.R_mono HO_12.out (fun k_ hk => (⟨hk, hk.2⟩ : _ ∧ k_ ≠ gb227))) (fun _ hk => hk.2) (.int .i64 ((rd_T64 (rd_L4 l0_1 (ji48)) x84_3).f0))) (fun _ hk => hk.2) (.int .u8 ((rd_T64 (rd_L4 l0_1 (ji48)) x84_3).f1))) (fun _ hk => hk.1.2)⟩
                           have n2_ : Aside0 (Kd.R Kd.bool 4 ((w62.setCell ⟨gb227, 0, none⟩ (.int .i64 ((rd_T64 (rd_L4 l0_1 (ji48)) x84_3).f0))).setCell ⟨gb227, 1, none⟩ (.int .u8 ((rd_T64 (rd_L4 l0_1 (ji48)) x84_3).f1))) w.heap.size (fun _ => True) (.slice (some ad219) x4_1.length co26) x4_1) := ⟨by (with_reducible repeat (first | apply Kd.R_alloc | apply Kd.R_drewN | apply Kd.R_drew)); exact Kd.R_mono (Kd.R_far (p := ⟨gb227, 1, none⟩) (Kd.R_far (p := ⟨gb227, 0, none⟩) (Kd.R_types HO_44.out BK227.out (by decide)) (fun _ hk => hk.2) (.int .i64 ((rd_T64 (rd_L4 l0_1 (ji48)) x84_3).f0))) (fun _ hk => hk.2) (.int .u8 ((rd_T64 (rd_L4 l0_1 (ji48)) x84_3).f1))) (fun _ hk => trivial)⟩
                           have n3_ : Aside0 (Kd.R (Kd.int .i64) 3 ((w62.setCell ⟨gb227, 0, none⟩ (.int .i64 ((rd_T64 (rd_L4 l0_1 (ji48)) x84_3).f0))).setCell ⟨gb227, 1, none⟩ (.int .u8 ((rd_T64 (rd_L4 l0_1 (ji48)) x84_3).f1))) w.heap.size (fun k_ => some k_ ≠ (.slice (some ⟨go36, 0, none⟩) y220.length co36 : Value).ownBlock) u219000 x219000_2) := ⟨by (with_reducible repeat (first | apply Kd.R_alloc | apply Kd.R_drewN | apply Kd.R_drew)); exact Kd.R_mono (Kd.R_far (p := ⟨gb227, 1, none⟩) (Kd.R_far (p := ⟨gb227, 0, none⟩) (Kd.R_types HO_219000.out BK227.out (by decide)) (fun _ hk => hk.2) (.int .i64 ((rd_T64 (rd_L4 l0_1 (ji48)) x84_3).f0))) (fun _ hk => hk.2) (.int .u8 ((rd_T64 (rd_L4 l0_1 (ji48)) x84_3).f1))) (fun _ hk => hk.1)⟩
                           have n4_ : Aside0 (Kd.S (Kd.slice 64 k64) 62 ((w62.setCell ⟨gb227, 0, none⟩ (.int .i64 ((rd_T64 (rd_L4 l0_1 (ji48)) x84_3).f0))).setCell ⟨gb227, 1, none⟩ (.int .u8 ((rd_T64 (rd_L4 l0_1 (ji48)) x84_3).f1))) w.heap.size (fun k_ => some k_ ≠ (u12 : Value).ownBlock ∧ k_ ≠ gb227) u219001 x219001_2) := ⟨by (with_reducible repeat (first | apply Kd.S_alloc | apply Kd.S_drewN | apply Kd.S_drew)); exact Kd.S_mono (Kd.S_far (p := ⟨gb227, 1, none⟩) (Kd.S_far (p := ⟨gb227, 0, none⟩) (Kd.S_mono HO_219001.out (fun k_ hk => (⟨hk, hk.2⟩ : _ ∧ k_ ≠ gb227))) (fun _ hk => hk.2) (.int .i64 ((rd_T64 (rd_L4 l0_1 (ji48)) x84_3).f0))) (fun _ hk => hk.2) (.int .u8 ((rd_T64 (rd_L4 l0_1 (ji48)) x84_3).f1))) (fun _ hk => ⟨hk.1.1, hk.1.2⟩)⟩
                           have n5_ : Aside0 (((w62.setCell ⟨gb227, 0, none⟩ (.int .i64 ((rd_T64 (rd_L4 l0_1 (ji48)) x84_3).f0))).setCell ⟨gb227, 1, none⟩ (.int .u8 ((rd_T64 (rd_L4 l0_1 (ji48)) x84_3).f1))).heap[gb207]? = some (.cells #[.slice A0_0 l0_0.length c0_0, .slice (some ad225) l0_1.length c0_1, .slice A0_2 l0_2.length c0_2] 25 (0, 0))) := ⟨by (with_reducible repeat (first | refine blk_drewN ?_ _ | refine blk_drew ?_ | refine blk_alloc ?_ _)); refine blk_far ?_ NB207_227.out _; (with_reducible repeat (first | refine blk_drewN ?_ _ | refine blk_drew ?_ | refine blk_alloc ?_ _)); refine blk_far ?_ NB207_227.out _; (with_reducible repeat (first | refine blk_drewN ?_ _ | refine blk_drew ?_ | refine blk_alloc ?_ _)); exact BK207.out⟩
                           have n6_ : Aside0 (((w62.setCell ⟨gb227, 0, none⟩ (.int .i64 ((rd_T64 (rd_L4 l0_1 (ji48)) x84_3).f0))).setCell ⟨gb227, 1, none⟩ (.int .u8 ((rd_T64 (rd_L4 l0_1 (ji48)) x84_3).f1))).heap[gb208]? = some (.cells #[.slice none 0 0, .slice none 0 0, .slice none 0 0] 25 (0, 0))) := ⟨by (with_reducible repeat (first | refine blk_drewN ?_ _ | refine blk_drew ?_ | refine blk_alloc ?_ _)); refine blk_far ?_ NB208_227.out _; (with_reducible repeat (first | refine blk_drewN ?_ _ | refine blk_drew ?_ | refine blk_alloc ?_ _)); refine blk_far ?_ NB208_227.out _; (with_reducible repeat (first | refine blk_drewN ?_ _ | refine blk_drew ?_ | refine blk_alloc ?_ _)); exact BK208.out⟩
                           have n7_ : Aside0 (((w62.setCell ⟨gb227, 0, none⟩ (.int .i64 ((rd_T64 (rd_L4 l0_1 (ji48)) x84_3).f0))).setCell ⟨gb227, 1, none⟩ (.int .u8 ((rd_T64 (rd_L4 l0_1 (ji48)) x84_3).f1))).heap[gb218]? = some (.cells #[u219000, u219001, .slice none 0 0] 25 (0, 0))) := ⟨by (with_reducible repeat (first | refine blk_drewN ?_ _ | refine blk_drew ?_ | refine blk_alloc ?_ _)); refine blk_far ?_ NB218_227.out _; (with_reducible repeat (first | refine blk_drewN ?_ _ | refine blk_drew ?_ | refine blk_alloc ?_ _)); refine blk_far ?_ NB218_227.out _; (with_reducible repeat (first | refine blk_drewN ?_ _ | refine blk_drew ?_ | refine blk_alloc ?_ _)); exact BK218.out⟩
                           have n8_ : Aside0 (((w62.setCell ⟨gb227, 0, none⟩ (.int .i64 ((rd_T64 (rd_L4 l0_1 (ji48)) x84_3).f0))).setCell ⟨gb227, 1, none⟩ (.int .u8 ((rd_T64 (rd_L4 l0_1 (ji48)) x84_3).f1))).heap[gb227]? = some (.cells #[.int .i64 ((rd_T64 (rd_L4 l0_1 (ji48)) x84_3).f0), .int .u8 ((rd_T64 (rd_L4 l0_1 (ji48)) x84_3).f1)] 64 (0, 0))) := ⟨by (with_reducible repeat (first | refine blk_drewN ?_ _ | refine blk_drew ?_ | refine blk_alloc ?_ _)); refine blk_put (cs := #[.int .i64 ((rd_T64 (rd_L4 l0_1 (ji48)) x84_3).f0), .int .u8 0]) ?_ 1 _ rfl; (with_reducible repeat (first | refine blk_drewN ?_ _ | refine blk_drew ?_ | refine blk_alloc ?_ _)); refine blk_put (cs := #[.int .i64 0, .int .u8 0]) ?_ 0 _ rfl; (with_reducible repeat (first | refine blk_drewN ?_ _ | refine blk_drew ?_ | refine blk_alloc ?_ _)); exact BK227.out⟩
                           have n9_ : Aside0 (Below w.heap.size w ((w62.setCell ⟨gb227, 0, none⟩ (.int .i64 ((rd_T64 (rd_L4 l0_1 (ji48)) x84_3).f0))).setCell ⟨gb227, 1, none⟩ (.int .u8 ((rd_T64 (rd_L4 l0_1 (ji48)) x84_3).f1)))) := ⟨bl⟩
                           (try clear HO_7)
                           (try clear HO_12)
                           (try clear HO_44)
                           (try clear HO_219000)
                           (try clear HO_219001)
                           (try clear BK207)
                           (try clear BK208)
                           (try clear BK218)
                           (try clear BK227)
                           (try clear HB)
                           generalize ((w62.setCell ⟨gb227, 0, none⟩ (.int .i64 ((rd_T64 (rd_L4 l0_1 (ji48)) x84_3).f0))).setCell ⟨gb227, 1, none⟩ (.int .u8 ((rd_T64 (rd_L4 l0_1 (ji48)) x84_3).f1))) = w67 at n0_ n1_ n2_ n3_ n4_ n5_ n6_ n7_ n8_ n9_ ⊢
                           have HO_7 := n0_
                           have HO_12 := n1_
                           have HO_44 := n2_
                           have HO_219000 := n3_
                           have HO_219001 := n4_
                           have BK207 := n5_
                           have BK208 := n6_
                           have BK218 := n7_
                           have BK227 := n8_
                           have HB := n9_
                           clear n0_ n1_ n2_ n3_ n4_ n5_ n6_ n7_ n8_ n9_
                           have n0_ := Aside0.mk (Kd.R_drew HO_7.out)
                           have n1_ := Aside0.mk (Kd.R_drew HO_12.out)
                           have n2_ := Aside0.mk (Kd.R_drew HO_44.out)
                           have n3_ := Aside0.mk (Kd.R_drew HO_219000.out)
                           have n4_ := Aside0.mk (Kd.S_drew HO_219001.out)
                           have n5_ := Aside0.mk (blk_drew BK207.out)
                           have n6_ := Aside0.mk (blk_drew BK208.out)
                           have n7_ := Aside0.mk (blk_drew BK218.out)
                           have n8_ := Aside0.mk (blk_drew BK227.out)
                           have n9_ := Aside0.mk (below_drew1 HB.out)
                           clear HO_7
                           clear HO_12
                           clear HO_44
                           clear HO_219000
                           clear HO_219001
                           clear BK207
                           clear BK208
                           clear BK218
                           clear BK227
                           clear HB
                           have HO_7 := n0_
                           have HO_12 := n1_
                           have HO_44 := n2_
                           have HO_219000 := n3_
                           have HO_219001 := n4_
                           have BK207 := n5_
                           have BK208 := n6_
                           have BK218 := n7_
                           have BK227 := n8_
                           have HB := n9_
                           clear n0_ n1_ n2_ n3_ n4_ n5_ n6_ n7_ n8_ n9_
                           have p228 : 0 ≤ (((rd_T64 (rd_L4 l0_1 (ji48)) x84_3).f0) : Int) := dt
                           have q228 : ((rd_T64 (rd_L4 l0_1 (ji48)) x84_3).f0) < (y220.length : Int) := dt
                           obtain ⟨ad228, e228, hx228_0⟩ := Kd.at_int (Kd.R_reads' HO_7.out).2.2 ((rd_T64 (rd_L4 l0_1 (ji48)) x84_3).f0) p228 q228
                           obtain rfl : (⟨go36, 0, none⟩ : Addr) = ad228 := (by injection e228)
                           (first | simp only [add_plain] at hx228_0 | simp only [add_at] at hx228_0 | simp only [Addr.add, Nat.zero_add] at hx228_0 | skip)
                           replace p228 := eq_true p228
                           replace q228 := eq_true q228
                           refine start_ (n := 12) (S := fun w' => w'.cell? ⟨gb227, 0, none⟩ = some (.int .i64 ((rd_T64 (rd_L4 l0_1 (ji48)) x84_3).f0)) ∧ w'.cell? ⟨gb227, 1, none⟩ = some (.int .u8 ((rd_T64 (rd_L4 l0_1 (ji48)) x84_3).f1)) ∧ w'.cell? ⟨go36, (((rd_T64 (rd_L4 l0_1 (ji48)) x84_3).f0)).toNat, none⟩ = some (.int .i64 (rd y220 ((rd_T64 (rd_L4 l0_1 (ji48)) x84_3).f0)))) (ds := [9, 10]) #[false, false, false, false, false, false, false, false, false, false, false, false] (by kernel_rfl) rfl rfl ⟨(blk_cell BK227.out 0).trans rfl, (blk_cell BK227.out 1).trans rfl, hx228_0⟩ (fun hHeld => ?_); refine with_tabW flow_Trim.tab24 flow_Trim.bits24 (fun HT_ HW_ => ?_)
                           generalize w67.drew = w68 at HO_7 HO_12 HO_44 HO_219000 HO_219001 BK207 BK208 BK218 BK227 HB hx228_0 hHeld ⊢
                           refine pure_ (i := 0) (N := some 88) (v := ?_) (a' := ?_) #[true, false, false, false, false, false, false, false, false, false, false, false] rfl rfl (any_of HT_.out (by kernel_rfl)) (fun _ _ _ h => h) (Or.inl ⟨by rfl, ?_⟩) ?_ ?_
                           rotate_left
                           ·intro w'
                            go_simp
                            with_reducible rfl
                           rotate_left
                           ·simp only [Act.put, List.setIfInBounds_toArray, List.set_cons_zero, List.set_cons_succ, i64_w, i32_w]
                            rfl
                           refine pure_ (i := 1) (N := some 89) (v := ?_) (a' := ?_) #[true, true, false, false, false, false, false, false, false, false, false, false] rfl rfl (any_of HT_.out (by kernel_rfl)) (fun _ _ _ h => h) (Or.inl ⟨by rfl, ?_⟩) ?_ ?_
                           rotate_left
                           ·intro w'
                            go_simp
                            with_reducible rfl
                           rotate_left
                           ·simp only [Act.put, List.setIfInBounds_toArray, List.set_cons_zero, List.set_cons_succ, i64_w, i32_w]
                            rfl
                           refine pure_ (i := 2) (N := some 90) (v := ?_) (a' := ?_) #[true, true, true, false, false, false, false, false, false, false, false, false] rfl rfl (any_of HT_.out (by kernel_rfl)) (fun _ _ _ h => h) (Or.inl ⟨by rfl, ?_⟩) ?_ ?_
                           rotate_left
                           ·intro w'
                            go_simp
                            with_reducible rfl
                           rotate_left
                           ·simp only [Act.put, List.setIfInBounds_toArray, List.set_cons_zero, List.set_cons_succ, i64_w, i32_w]
                            rfl
                           refine pure_ (i := 6) (N := some 94) (v := ?_) (a' := ?_) #[true, true, true, false, false, false, true, false, false, false, false, false] rfl rfl (any_of HT_.out (by kernel_rfl)) (fun _ _ _ h => h) (Or.inl ⟨by rfl, ?_⟩) ?_ ?_
                           rotate_left
                           ·intro w'
                            go_simp
                            with_reducible rfl
                           rotate_left
                           ·simp only [Act.put, List.setIfInBounds_toArray, List.set_cons_zero, List.set_cons_succ, i64_w, i32_w]
                            rfl
                           refine take_ (i := 3) (N := some 91) (v := ?_) (a' := ?_) #[true, true, true, true, false, false, true, false, false, false, false, false] rfl rfl (take_ofW HT_.out HW_.out (by kernel_rfl)) (fun _ _ _ h => h) (Or.inl ⟨by rfl, ?_⟩) hHeld ?_ ?_
                           rotate_left
                           ·rintro w' ⟨s0, s1, s2⟩
                            go_simp
                            with_reducible rfl
                           rotate_left
                           ·simp only [Act.put, List.setIfInBounds_toArray, List.set_cons_zero, List.set_cons_succ, i64_w, i32_w]
                            rfl
                           refine pure_ (i := 4) (N := some 92) (v := ?_) (a' := ?_) #[true, true, true, true, true, false, true, false, false, false, false, false] rfl rfl (any_of HT_.out (by kernel_rfl)) (fun _ _ _ h => h) (Or.inl ⟨by rfl, ?_⟩) ?_ ?_
                           rotate_left
                           ·intro w'
                            go_simp
                            with_reducible rfl
                           rotate_left
                           ·simp only [Act.put, List.setIfInBounds_toArray, List.set_cons_zero, List.set_cons_succ, i64_w, i32_w]
                            rfl
                           refine take_ (i := 5) (N := some 93) (v := ?_) (a' := ?_) #[true, true, true, true, true, true, true, false, false, false, false, false] rfl rfl (take_ofW HT_.out HW_.out (by kernel_rfl)) (fun _ _ _ h => h) (Or.inl ⟨by rfl, ?_⟩) hHeld ?_ ?_
                           rotate_left
                           ·rintro w' ⟨s0, s1, s2⟩
                            go_simp
                            with_reducible rfl
                           rotate_left
                           ·simp only [Act.put, List.setIfInBounds_toArray, List.set_cons_zero, List.set_cons_succ, i64_w, i32_w]
                            rfl
                           refine take_ (i := 7) (N := some 95) (v := ?_) (a' := ?_) #[true, true, true, true, true, true, true, true, false, false, false, false] rfl rfl (take_ofW HT_.out HW_.out (by kernel_rfl)) (fun _ _ _ h => h) (Or.inl ⟨by rfl, ?_⟩) hHeld ?_ ?_
                           rotate_left
                           ·rintro w' ⟨s0, s1, s2⟩
                            go_simp
                            with_reducible rfl
                           rotate_left
                           ·simp only [Act.put, List.setIfInBounds_toArray, List.set_cons_zero, List.set_cons_succ, i64_w, i32_w]
                            rfl
                           refine pure_ (i := 8) (N := some 96) (v := ?_) (a' := ?_) #[true, true, true, true, true, true, true, true, true, false, false, false] rfl rfl (any_of HT_.out (by kernel_rfl)) (fun _ _ _ h => h) (Or.inl ⟨by rfl, ?_⟩) ?_ ?_
                           rotate_left
                           ·intro w'
                            go_simp
                            with_reducible rfl
                           rotate_left
                           ·simp only [Act.put, List.setIfInBounds_toArray, List.set_cons_zero, List.set_cons_succ, i64_w, i32_w]
                            rfl
                           refine last_ (i := 9) (N := some 97) #[true, true, true, true, true, true, true, true, true, true, false, false] rfl rfl (one_of HT_.out (by kernel_rfl)) (by decide) (fun K hK => ?_)
                           refine value_ (w1 := ?_) (v := ?_) (by rfl) rfl ?_ ?_
                           rotate_left 2
                           ·go_simp
                            constructor
                            ·rfl
                            ·rfl
                           refine hK.out _ _ ?_
                           clear hK K
                           refine norm_ (a' := ?_) ?_ ?_
                           rotate_left
                           ·show Act.put _ (some 97) _ = _
                            simp only [Act.put, List.setIfInBounds_toArray, List.set_cons_zero, List.set_cons_succ, i64_w, i32_w]
                            rfl
                           refine last_ (i := 10) (N := some 98) #[true, true, true, true, true, true, true, true, true, true, true, false] rfl rfl (one_of HT_.out (by kernel_rfl)) (by decide) (fun K hK => ?_)
                           refine Kd.R_append_step k64 (w0 := w) w.heap.size (by rfl) (.tmp 88) (.tmp 97) 62 64 (.agg #[(.int .i64 0), (.int .u8 0)]) 16 rfl Try.underlying62 info64 rfl (by decide) (by omega) u12 x12_3 (⟨rd y220 ((rd_T64 (rd_L4 l0_1 (ji48)) x84_3).f0), (rd_T64 (rd_L4 l0_1 (ji48)) x84_3).f1⟩ : S64) [.int .i64 (rd y220 ((rd_T64 (rd_L4 l0_1 (ji48)) x84_3).f0)), .int .u8 ((rd_T64 (rd_L4 l0_1 (ji48)) x84_3).f1)] (fun k_ => k_ ≠ gb227) (fun _ => False) rfl rfl ?aP (fun _ hk => hk.elim) ?aF ?aO ?aB ?aS ?aL ?_
                           (case aP => exact k64_mkM _ _ _ (⟨rd y220 ((rd_T64 (rd_L4 l0_1 (ji48)) x84_3).f0), (rd_T64 (rd_L4 l0_1 (ji48)) x84_3).f1⟩ : S64))
                           (case aB => exact bl)
                           (case aF => exact (fun k_ hk => Kd.freshB (g := gb227) (o := .cells #[.int .i64 ((rd_T64 (rd_L4 l0_1 (ji48)) x84_3).f0), .int .u8 ((rd_T64 (rd_L4 l0_1 (ji48)) x84_3).f1)] 64 (0, 0)) bk k_ hk))
                           (case aO => exact (kR HO_12))
                           (case aS => exact (below_size bl))
                           (case aL => have := LMc61.out; omega)
                           intro v230 w69 ho hb hg hat
                           rw [← Ny229.out] at ho
                           have n0_ := Aside0.mk (Kd.R_over' (kR HO_7) (Kd.R_typed (kR HO_12)) (by decide) hg)
                           have n1_ := Aside0.mk (Kd.R_over' (kR HO_44) (Kd.R_typed (kR HO_12)) (by decide) hg)
                           have n2_ := Aside0.mk (Kd.R_over' (kR HO_219000) (Kd.R_typed (kR HO_12)) (by decide) hg)
                           have n3_ := Aside0.mk (Kd.S_after (ok := (fun k_ => k_ ≠ gb227)) (by (with_reducible repeat (first | apply Kd.S_alloc | apply Kd.S_drewN | apply Kd.S_drew)); exact Kd.S_mono HO_219001.out (fun _ hk => ⟨hk.2, hk.1⟩)) hg hat)
                           have n4_ := Aside0.mk (blk_grown (g := gb207) (o := .cells #[.slice A0_0 l0_0.length c0_0, .slice (some ad225) l0_1.length c0_1, .slice A0_2 l0_2.length c0_2] 25 (0, 0)) bk hg (Kd.R_ne HO_12.out BK207.out (by decide)))
                           have n5_ := Aside0.mk (blk_grown (g := gb208) (o := .cells #[.slice none 0 0, .slice none 0 0, .slice none 0 0] 25 (0, 0)) bk hg (Kd.R_ne HO_12.out BK208.out (by decide)))
                           have n6_ := Aside0.mk (blk_grown (g := gb218) (o := .cells #[u219000, u219001, .slice none 0 0] 25 (0, 0)) bk hg (Kd.R_ne HO_12.out BK218.out (by decide)))
                           have n7_ := Aside0.mk (blk_grown (g := gb227) (o := .cells #[.int .i64 ((rd_T64 (rd_L4 l0_1 (ji48)) x84_3).f0), .int .u8 ((rd_T64 (rd_L4 l0_1 (ji48)) x84_3).f1)] 64 (0, 0)) bk hg (Kd.R_away HO_12.out (fun _ hk => hk)))
                           have n8_ := Aside0.mk (hb)
                           have n9_ := Aside0.mk (ho)
                           clear HO_7
                           clear HO_44
                           clear HO_219000
                           clear HO_219001
                           clear BK207
                           clear BK208
                           clear BK218
                           clear BK227
                           clear HB
                           clear HO_12
                           have HO_7 := n0_
                           have HO_44 := n1_
                           have HO_219000 := n2_
                           have HO_219001 := n3_
                           have BK207 := n4_
                           have BK208 := n5_
                           have BK218 := n6_
                           have BK227 := n7_
                           have HB := n8_
                           have HO231 := n9_
                           clear n0_ n1_ n2_ n3_ n4_ n5_ n6_ n7_ n8_ n9_
                           clear ho hb hg hat
                           refine hK.out _ _ ?_
                           clear hK K
                           refine norm_ (a' := ?_) ?_ ?_
                           rotate_left
                           ·show Act.put _ (some 98) _ = _
                            simp only [Act.put, List.setIfInBounds_toArray, List.set_cons_zero, List.set_cons_succ, i64_w, i32_w]
                            rfl
                           refine pure_ (i := 11) (N := some 12) (v := ?_) (a' := ?_) #[true, true, true, true, true, true, true, true, true, true, true, true] rfl rfl (any_of HT_.out (by kernel_rfl)) (fun _ _ _ h => h) (Or.inl ⟨by rfl, ?_⟩) ?_ ?_
                           rotate_left
                           ·intro w'
                            go_simp
                            with_reducible rfl
                           rotate_left
                           ·simp only [Act.put, List.setIfInBounds_toArray, List.set_cons_zero, List.set_cons_succ, i64_w, i32_w]
                            rfl
                           refine done_ (done_of HT_.out (by kernel_rfl)) ?_
                           try go_wp2
                           (try simp only [← hl7_3])
                           go_roundg k3
                           case measure => have := HK1.out; have := HK2.out; have := HK3.out; omega
                           case rel => exact ⟨(y229), (wrap64 (x84_3 + 1)), (by first | rfl | (simp; done) | (simp [*]; done)), H', ⟨by have := HK1.out; have := HK2.out; have := HK3.out; omega⟩, ⟨by (try simp only [hl7_3]); (with_reducible repeat (first | apply Kd.R_alloc | apply Kd.R_drewN | apply Kd.R_drew)); exact HO_7.out⟩, ⟨by (try simp only [hl7_3]); (with_reducible repeat (first | apply Kd.R_alloc | apply Kd.R_drewN | apply Kd.R_drew)); exact Kd.R_mono HO231.out (fun _ hk => trivial)⟩, ⟨by (try simp only [hl7_3]); (with_reducible repeat (first | apply Kd.R_alloc | apply Kd.R_drewN | apply Kd.R_drew)); exact HO_44.out⟩, ⟨by (try simp only [hl7_3]); (with_reducible repeat (first | apply Kd.R_alloc | apply Kd.R_drewN | apply Kd.R_drew)); exact HO_219000.out⟩, ⟨by (try simp only [hl7_3]); (with_reducible repeat (first | apply Kd.S_alloc | apply Kd.S_drewN | apply Kd.S_drew)); exact Kd.S_mono HO_219001.out (fun _ hk => hk.2)⟩, ⟨by (try simp only [hl7_3]); (with_reducible repeat (first | refine blk_drewN ?_ _ | refine blk_drew ?_ | refine blk_alloc ?_ _)); exact BK207.out⟩, ⟨by (try simp only [hl7_3]); (with_reducible repeat (first | refine blk_drewN ?_ _ | refine blk_drew ?_ | refine blk_alloc ?_ _)); exact BK208.out⟩, ⟨by (try simp only [hl7_3]); (with_reducible repeat (first | refine blk_drewN ?_ _ | refine blk_drew ?_ | refine blk_alloc ?_ _)); exact BK218.out⟩, ⟨bl⟩⟩
                          ·rw [if_neg c61] at H
                           exact absurd H (by simp)
                         ·rw [if_neg c60] at H
                          exact absurd H (by simp)
                        ·rw [if_neg c59] at H
                         exact absurd H (by simp)
                       ·rw [if_neg c58] at H
                        exact absurd H (by simp)
                      ·rw [if_neg c57] at H
                       exact absurd H (by simp)
                     ·rw [if_neg c56] at H
                      have c56b0 : decide (x84_3 < ((rd_L4 l0_1 (ji48)).length : Int)) = false := decide_eq_false c56
                      clear c56
                      by_cases c70 : x219001_2.length < 5864062014805
                      ·rw [if_pos c70] at H
                       have LMc70 := Aside0.mk c70
                       clear c70
                       obtain ⟨y232, hy232⟩ : ∃ y_ : List (List (S64)), y_ = (x219001_2 ++ [x12_3]) := ⟨_, rfl⟩
                       replace H : (flow_Trim.l1 k3 y220 (wrap64 (x9_2 + 1)) x4_1 (x4_1.length : Int) (wrap64 (x46_2 + 1)) l0_0 l0_1 l0_2 x219000_2 y232) = some (r1, r2, r3, r4) := by first | (rw [hy232]; with_reducible exact H) | (have H2_ := (Option.bind_some _ _).symm.trans H; rw [hy232]; with_reducible exact H2_) | (have H2_ := (Option.bind_some _ _).symm.trans H; with_reducible exact H2_) | with_reducible exact H | (rw [hy232]; exact H) | exact H
                       have Ny232 := Aside0.mk hy232
                       clear hy232
                       have H' := Aside0.mk H
                       clear H
                       have hnb71 := NB218_207.out
                       have hnc71 := NB207_218.out
                       have hnb72 := NB218_208.out
                       have hnc72 := NB208_218.out
                       obtain ⟨⟨hcz73_0, hcz73_1, hcz73_2⟩, hfz73_0, hfz73_1, hfz73_2⟩ := b3 BK218.out
                       obtain ⟨Ao75, co75, eo75⟩ := Kd.R_slice HO_12.out
                       subst eo75
                       (go_wp2_with (first | ((with_reducible refine gate_builtin (b := .append) (xs := #[.tmp 101, .tmp 103]) rfl ?_); at_builtin; refine Kd.S_append (Kd.slice 64 k64) (w0 := w) w.heap.size rfl (.tmp 101) (.tmp 103) 23 62 (.slice none 0 0) 24 rfl Try.underlying23 info62 rfl (by decide) (by omega) u219001 x219001_2 x12_3 [.slice Ao75 x12_3.length co75] (fun _ => True) (fun k_ => some k_ = (.slice Ao75 x12_3.length co75 : Value).ownBlock) rfl rfl ?aP (fun k_ hk_ => ((Kd.R_mono (ok' := fun k_ => ((fun _ => True)) k_ ∧ some k_ ≠ (u219001 : Value).ownBlock) (Kd.R_apart' (HO_12.out) (Kd.S_typed HO_219001.out) (by decide)) (fun k_ hk => ⟨trivial, hk.2⟩))).1 k_ hk_.symm) ?aF ?aO ?aB ?aS ?aL ?_; (case aP => exact Kd.M_row (Kd.R_mono (Kd.R_tight rfl (Kd.R_mono (ok' := fun k_ => ((fun _ => True)) k_ ∧ some k_ ≠ (u219001 : Value).ownBlock) (Kd.R_apart' (HO_12.out) (Kd.S_typed HO_219001.out) (by decide)) (fun k_ hk => ⟨trivial, hk.2⟩))) (fun _ h_ => h_))); (case aB => exact bl); (case aF => exact (fun _ _ => trivial)); (case aO => exact (by (with_reducible repeat (first | apply Kd.S_alloc | apply Kd.S_drewN | apply Kd.S_drew)); exact Kd.S_mono HO_219001.out (fun k_ hk => ⟨trivial, fun e_ => hk e_⟩))); (case aS => exact (below_size bl)); (case aL => have := LMc70.out; omega); intro v233 w74 ho hb hg hat; rw [← Ny232.out] at ho; have n0_ := Aside0.mk (Kd.R_over' (kR HO_7) (Kd.S_typed (kS HO_219001)) (by decide) hg); have n1_ := Aside0.mk (Kd.R_over' (kR HO_44) (Kd.S_typed (kS HO_219001)) (by decide) hg); have n2_ := Aside0.mk (Kd.R_over' (kR HO_219000) (Kd.S_typed (kS HO_219001)) (by decide) hg); have n3_ := Aside0.mk (blk_grown (g := gb207) (o := .cells #[.slice A0_0 l0_0.length c0_0, .slice (some ad225) l0_1.length c0_1, .slice A0_2 l0_2.length c0_2] 25 (0, 0)) bk hg (Kd.S_ne HO_219001.out BK207.out (by decide))); have n4_ := Aside0.mk (blk_grown (g := gb208) (o := .cells #[.slice none 0 0, .slice none 0 0, .slice none 0 0] 25 (0, 0)) bk hg (Kd.S_ne HO_219001.out BK208.out (by decide))); have n5_ := Aside0.mk (blk_grown (g := gb218) (o := .cells #[u219000, u219001, .slice none 0 0] 25 (0, 0)) bk hg (Kd.S_ne HO_219001.out BK218.out (by decide))); have n6_ := Aside0.mk (hb); have n7_ := Aside0.mk (ho); clear HO_7; clear HO_44; clear HO_219000; clear BK207; clear BK208; clear BK218; clear HB; clear HO_219001; clear HO_12; have HO_7 := n0_; have HO_44 := n1_; have HO_219000 := n2_; have BK207 := n3_; have BK208 := n4_; have BK218 := n5_; have HB := n6_; have HO234 := n7_; clear n0_ n1_ n2_ n3_ n4_ n5_ n6_ n7_; clear ho hb hg hat; obtain ⟨Ao76, co76, eo76⟩ := Kd.S_slice HO234.out; subst eo76; obtain ⟨⟨hcz77_0, hcz77_1, hcz77_2⟩, hfz77_0, hfz77_1, hfz77_2⟩ := b3 BK218.out)); repeat (go_step3; go_wp2_with (first | ((with_reducible refine gate_builtin (b := .append) (xs := #[.tmp 101, .tmp 103]) rfl ?_); at_builtin; refine Kd.S_append (Kd.slice 64 k64) (w0 := w) w.heap.size rfl (.tmp 101) (.tmp 103) 23 62 (.slice none 0 0) 24 rfl Try.underlying23 info62 rfl (by decide) (by omega) u219001 x219001_2 x12_3 [.slice Ao75 x12_3.length co75] (fun _ => True) (fun k_ => some k_ = (.slice Ao75 x12_3.length co75 : Value).ownBlock) rfl rfl ?aP (fun k_ hk_ => ((Kd.R_mono (ok' := fun k_ => ((fun _ => True)) k_ ∧ some k_ ≠ (u219001 : Value).ownBlock) (Kd.R_apart' (HO_12.out) (Kd.S_typed HO_219001.out) (by decide)) (fun k_ hk => ⟨trivial, hk.2⟩))).1 k_ hk_.symm) ?aF ?aO ?aB ?aS ?aL ?_; (case aP => exact Kd.M_row (Kd.R_mono (Kd.R_tight rfl (Kd.R_mono (ok' := fun k_ => ((fun _ => True)) k_ ∧ some k_ ≠ (u219001 : Value).ownBlock) (Kd.R_apart' (HO_12.out) (Kd.S_typed HO_219001.out) (by decide)) (fun k_ hk => ⟨trivial, hk.2⟩))) (fun _ h_ => h_))); (case aB => exact bl); (case aF => exact (fun _ _ => trivial)); (case aO => exact (by (with_reducible repeat (first | apply Kd.S_alloc | apply Kd.S_drewN | apply Kd.S_drew)); exact Kd.S_mono HO_219001.out (fun k_ hk => ⟨trivial, fun e_ => hk e_⟩))); (case aS => exact (below_size bl)); (case aL => have := LMc70.out; omega); intro v233 w74 ho hb hg hat; rw [← Ny232.out] at ho; have n0_ := Aside0.mk (Kd.R_over' (kR HO_7) (Kd.S_typed (kS HO_219001)) (by decide) hg); have n1_ := Aside0.mk (Kd.R_over' (kR HO_44) (Kd.S_typed (kS HO_219001)) (by decide) hg); have n2_ := Aside0.mk (Kd.R_over' (kR HO_219000) (Kd.S_typed (kS HO_219001)) (by decide) hg); have n3_ := Aside0.mk (blk_grown (g := gb207) (o := .cells #[.slice A0_0 l0_0.length c0_0, .slice (some ad225) l0_1.length c0_1, .slice A0_2 l0_2.length c0_2] 25 (0, 0)) bk hg (Kd.S_ne HO_219001.out BK207.out (by decide))); have n4_ := Aside0.mk (blk_grown (g := gb208) (o := .cells #[.slice none 0 0, .slice none 0 0, .slice none 0 0] 25 (0, 0)) bk hg (Kd.S_ne HO_219001.out BK208.out (by decide))); have n5_ := Aside0.mk (blk_grown (g := gb218) (o := .cells #[u219000, u219001, .slice none 0 0] 25 (0, 0)) bk hg (Kd.S_ne HO_219001.out BK218.out (by decide))); have n6_ := Aside0.mk (hb); have n7_ := Aside0.mk (ho); clear HO_7; clear HO_44; clear HO_219000; clear BK207; clear BK208; clear BK218; clear HB; clear HO_219001; clear HO_12; have HO_7 := n0_; have HO_44 := n1_; have HO_219000 := n2_; have BK207 := n3_; have BK208 := n4_; have BK218 := n5_; have HB := n6_; have HO234 := n7_; clear n0_ n1_ n2_ n3_ n4_ n5_ n6_ n7_; clear ho hb hg hat; obtain ⟨Ao76, co76, eo76⟩ := Kd.S_slice HO234.out; subst eo76; obtain ⟨⟨hcz77_0, hcz77_1, hcz77_2⟩, hfz77_0, hfz77_1, hfz77_2⟩ := b3 BK218.out))))
                       (try simp only [← hl7_3])
                       go_roundg k3
                       case measure => have := HK1.out; have := HK2.out; have := HK3.out; omega
                       case rel => exact ⟨(y220), ((wrap64 (x9_2 + 1))), (wrap64 (x46_2 + 1)), (x219000_2), (y232), (u219000), (.slice Ao76 y232.length co76), (by first | rfl | (simp; done) | (simp [*]; done)), (by first | rfl | (simp; done) | (simp [*]; done)), H', ⟨by have := HK1.out; have := HK2.out; have := HK3.out; omega⟩, ⟨by (try simp only [hl7_3]); (with_reducible repeat (first | apply Kd.R_alloc | apply Kd.R_drewN | apply Kd.R_drew)); exact Kd.R_mono (Kd.R_far (p := ⟨gb218, 1, none⟩) (Kd.R_types HO_7.out BK218.out (by decide)) (fun _ hk => hk.2) (.slice Ao76 y232.length co76)) (fun _ hk => hk.1)⟩, ⟨by (try simp only [hl7_3]); (with_reducible repeat (first | apply Kd.R_alloc | apply Kd.R_drewN | apply Kd.R_drew)); exact Kd.R_mono (Kd.R_far (p := ⟨gb218, 1, none⟩) (Kd.R_types HO_44.out BK218.out (by decide)) (fun _ hk => hk.2) (.slice Ao76 y232.length co76)) (fun _ hk => trivial)⟩, ⟨by (try simp only [hl7_3]); (with_reducible repeat (first | apply Kd.R_alloc | apply Kd.R_drewN | apply Kd.R_drew)); exact Kd.R_mono (Kd.R_far (p := ⟨gb218, 1, none⟩) (Kd.R_types HO_219000.out BK218.out (by decide)) (fun _ hk => hk.2) (.slice Ao76 y232.length co76)) (fun _ hk => hk.1)⟩, ⟨by (try simp only [hl7_3]); (with_reducible repeat (first | apply Kd.S_alloc | apply Kd.S_drewN | apply Kd.S_drew)); exact Kd.S_mono (Kd.S_far (p := ⟨gb218, 1, none⟩) (Kd.S_types HO234.out BK218.out (by decide)) (fun _ hk => hk.2) (.slice Ao76 y232.length co76)) (fun _ hk => trivial)⟩, ⟨by (try simp only [hl7_3]); (with_reducible repeat (first | refine blk_drewN ?_ _ | refine blk_drew ?_ | refine blk_alloc ?_ _)); refine blk_far ?_ NB207_218.out _; (with_reducible repeat (first | refine blk_drewN ?_ _ | refine blk_drew ?_ | refine blk_alloc ?_ _)); exact BK207.out⟩, ⟨by (try simp only [hl7_3]); (with_reducible repeat (first | refine blk_drewN ?_ _ | refine blk_drew ?_ | refine blk_alloc ?_ _)); refine blk_far ?_ NB208_218.out _; (with_reducible repeat (first | refine blk_drewN ?_ _ | refine blk_drew ?_ | refine blk_alloc ?_ _)); exact BK208.out⟩, ⟨by (try simp only [hl7_3]); (with_reducible repeat (first | refine blk_drewN ?_ _ | refine blk_drew ?_ | refine blk_alloc ?_ _)); refine blk_put (cs := #[u219000, u219001, .slice none 0 0]) ?_ 1 _ rfl; (with_reducible repeat (first | refine blk_drewN ?_ _ | refine blk_drew ?_ | refine blk_alloc ?_ _)); exact BK218.out⟩, ⟨bl⟩⟩
                      ·rw [if_neg c70] at H
                       exact absurd H (by simp)
                  ·rw [if_neg c50] at H
                   exact absurd H (by simp)
                 ·rw [if_neg c49] at H
                  exact absurd H (by simp)
               ·rw [if_neg c35] at H
                exact absurd H (by simp)
              ·replace c34 := Bool.eq_false_iff.mpr c34
               subst c34
               have H1 : (flow_Trim.l1 k2 x7_2 x9_2 x4_1 (x4_1.length : Int) (wrap64 (x46_2 + 1)) l0_0 l0_1 l0_2 x219000_2 x219001_2) = some (r1, r2, r3, r4) := by rw [if_neg (show ¬ (false = true) by decide)] at H; exact H
               clear H
               have H := H1
               clear H1
               have H' := Aside0.mk H
               clear H
               have p219 : 0 ≤ (x46_2 : Int) := dt
               have q219 : x46_2 < (x4_1.length : Int) := dt
               obtain ⟨ad219, e219, hx219_0⟩ := Kd.at_bool (Kd.R_reads' HO_44.out).2.2 x46_2 p219 q219
               (try rw [← Nbq33.out] at hx219_0)
               cases e219
               replace p219 := eq_true p219
               replace q219 := eq_true q219
               (go_wp2; repeat (go_step3; go_wp2))
               go_roundg k2
               case measure => have := HK1.out; have := HK2.out; omega
               case rel => exact ⟨(x7_2), (x9_2), (wrap64 (x46_2 + 1)), (x219000_2), (x219001_2), (u219000), (u219001), (by first | rfl | (simp; done) | (simp [*]; done)), (by first | rfl | (simp; done) | (simp [*]; done)), H', ⟨by have := HK1.out; have := HK2.out; omega⟩, ⟨kR HO_7⟩, ⟨kR HO_44⟩, ⟨kR HO_219000⟩, ⟨kS HO_219001⟩, ⟨bk⟩, ⟨bk⟩, ⟨bk⟩, ⟨bl⟩⟩
             ·rw [if_neg c32] at H
              exact absurd H (by simp)
            ·rw [if_neg c31] at H
             exact absurd H (by simp)
           ·rw [if_neg c30] at H
            have c30b0 : decide (x46_2 < (x4_1.length : Int)) = false := decide_eq_false c30
            clear c30
            have H' := Aside0.mk H
            clear H
            have hnb78 := NB207_208.out
            have hnc78 := NB208_207.out
            have hnb79 := NB207_218.out
            have hnc79 := NB218_207.out
            obtain ⟨⟨hcz80_0, hcz80_1, hcz80_2⟩, hfz80_0, hfz80_1, hfz80_2⟩ := b3 BK207.out
            (go_wp2; repeat (go_step3; go_wp2))
            go_loopg [110] k2 (fun kq v110 w' => ∃ (x110_3 : Int) (x219002_3 : List Int) (u219002 : Value), v110 = .int .i64 x110_3 ∧ Aside0 (flow_Trim.l3 kq x7_2 l0_2 (l0_2.length : Int) x110_3 x219000_2 x219001_2 x219002_3 = some (r1, r2, r3, r4)) ∧ Aside0 (kq ≤ k2) ∧ Aside0 (Kd.R (Kd.int .i64) 3 w' w.heap.size (fun k_ => some k_ ≠ (u219000 : Value).ownBlock ∧ some k_ ≠ (u219002 : Value).ownBlock) v216 x7_2) ∧ Aside0 (Kd.R (Kd.int .i64) 3 w' w.heap.size (fun k_ => some k_ ≠ (v216 : Value).ownBlock ∧ some k_ ≠ (u219002 : Value).ownBlock) u219000 x219000_2) ∧ Aside0 (Kd.S (Kd.slice 64 k64) 62 w' w.heap.size (fun _ => True) u219001 x219001_2) ∧ Aside0 (Kd.R (Kd.int .i64) 3 w' w.heap.size (fun k_ => some k_ ≠ (v216 : Value).ownBlock ∧ some k_ ≠ (u219000 : Value).ownBlock) u219002 x219002_3) ∧ Aside0 (w'.heap[gb207]? = some (.cells #[(.slice A0_0 l0_0.length c0_0), (.slice A0_1 l0_1.length c0_1), (.slice A0_2 l0_2.length c0_2)] 25 (0, 0))) ∧ Aside0 (w'.heap[gb208]? = some (.cells #[(.slice none 0 0), (.slice none 0 0), (.slice none 0 0)] 25 (0, 0))) ∧ Aside0 (w'.heap[gb218]? = some (.cells #[u219000, u219001, u219002] 25 (0, 0))) ∧ Aside0 (Below w.heap.size w w'))
            case atStart => exact ⟨(0), (([] : List Int)), (.slice none 0 0), (by first | rfl | (simp; done) | (simp [*]; done)), H', ⟨Nat.le_refl _⟩, ⟨by (with_reducible repeat (first | apply Kd.R_alloc | apply Kd.R_drewN | apply Kd.R_drew)); exact Kd.R_mono HO_7.out (fun _ hk => ⟨hk, (by simp [Value.ownBlock])⟩)⟩, ⟨by (with_reducible repeat (first | apply Kd.R_alloc | apply Kd.R_drewN | apply Kd.R_drew)); exact Kd.R_mono HO_219000.out (fun _ hk => ⟨hk, (by simp [Value.ownBlock])⟩)⟩, ⟨kS HO_219001⟩, ⟨by first | exact Kd.R_nil _ _ _ _ _ | exact Kd.N_nil _ _ _ _ _ | exact Kd.V_nil _ _ _ _ _ | exact Kd.Q_nil _ _ _ _ _ | exact Kd.S_nil _ _ _ _ _⟩, ⟨bk⟩, ⟨bk⟩, ⟨bk⟩, ⟨bl⟩⟩
            case round =>
             clear H'
             (try clear c1); (try clear c2); (try clear p2); (try clear q2); (try clear hx2); (try clear c3); (try clear p3); (try clear q3); (try clear hx3); (try clear hf3); (try clear c4); (try clear c5); (try clear c5b0); (try clear c5b1); (try clear c6); (try clear c6b0); (try clear c6b1); (try clear p6); (try clear c7); (try clear c9); (try clear c11); (try clear c16); (try clear c16b0); (try clear c17); (try clear c17b0); (try clear c18); (try clear c18b0); (try clear c20); (try clear p21); (try clear q21); (try clear hx21); (try clear c22); (try clear p22); (try clear q22); (try clear hx22); (try clear c24); (try clear c24b0); (try clear c24b1); (try clear c25); (try clear c25b0); (try clear c25b1); (try clear c30); (try clear c30b0); (try clear c31); (try clear c31b0); (try clear c32); (try clear c32b0); (try clear q33); (try clear c34); (try clear c35); (try clear c35b0); (try clear p36); (try clear q36); (try clear hx36); (try clear hf36); (try clear c37); (try clear c37b0); (try clear c38); (try clear c41); (try clear c42); (try clear c49); (try clear c49b0); (try clear c50); (try clear c50b0); (try clear c53); (try clear c54); (try clear c56); (try clear c56b0); (try clear c57); (try clear c57b0); (try clear c58); (try clear c58b0); (try clear c59); (try clear c59b0); (try clear c60); (try clear c60b0); (try clear c61); (try clear c63); (try clear c64); (try clear p64); (try clear c65); (try clear c70); (try clear c71); (try clear c72); (try clear c78); (try clear c79); (try clear hcz10_0 hcz10_1 hcz10_2 hfz10_0 hfz10_1 hfz10_2); (try clear hcz12_0 hcz12_1 hcz12_2 hfz12_0 hfz12_1 hfz12_2); (try clear hcz15_0 hcz15_1 hcz15_2 hfz15_0 hfz15_1 hfz15_2); (try clear hcz21_0 hcz21_1 hcz21_2 hfz21_0 hfz21_1 hfz21_2); (try clear hcz43_0 hcz43_1 hcz43_2 hfz43_0 hfz43_1 hfz43_2); (try clear hcz55_0 hcz55_1 hcz55_2 hfz55_0 hfz55_1 hfz55_2); (try clear hcz66_0 hcz66_1 hfz66_0 hfz66_1); (try clear hcz73_0 hcz73_1 hcz73_2 hfz73_0 hfz73_1 hfz73_2); (try clear hcz77_0 hcz77_1 hcz77_2 hfz77_0 hfz77_1 hfz77_2); (try clear hcz80_0 hcz80_1 hcz80_2 hfz80_0 hfz80_1 hfz80_2); (try clear hx213_0); (try clear hx219_0); (try clear hx221_0); (try clear hx225_0); (try clear hx226_0); (try clear hx226_1); (try clear hx228_0); (try clear hx36_0); (try clear p213); (try clear p219); (try clear p221); (try clear p225); (try clear p226); (try clear p228); (try clear q213); (try clear q219); (try clear q221); (try clear q225); (try clear q226); (try clear q228)
             obtain ⟨x110_3, x219002_3, u219002, rfl, HA, HK3, HO_7, HO_219000, HO_219001, HO_219002, BK207, BK208, BK218, HB⟩ := hrel
             cases gk with
             | zero => exact absurd HA.out (by simp [flow_Trim.l3])
             | succ k3 =>
              have H := HA.out
              clear HA
              simp only [flow_Trim.l3] at H
              by_cases c81 : x110_3 < (l0_2.length : Int)
              ·rw [if_pos c81] at H
               have c81b0 : decide (x110_3 < (l0_2.length : Int)) = true := decide_eq_true c81
               clear c81
               by_cases c82 : 0 ≤ x110_3
               ·rw [if_pos c82] at H
                have c82b0 : decide (0 ≤ x110_3) = true := decide_eq_true c82
                clear c82
                by_cases c83 : x110_3 < (l0_2.length : Int)
                ·rw [if_pos c83] at H
                 have c83b0 : decide (x110_3 < (l0_2.length : Int)) = true := decide_eq_true c83
                 clear c83
                 by_cases c84 : 0 ≤ (rd l0_2 x110_3)
                 ·rw [if_pos c84] at H
                  have c84b0 : decide (0 ≤ (rd l0_2 x110_3)) = true := decide_eq_true c84
                  clear c84
                  by_cases c85 : (rd l0_2 x110_3) < (x7_2.length : Int)
                  ·rw [if_pos c85] at H
                   have c85b0 : decide ((rd l0_2 x110_3) < (x7_2.length : Int)) = true := decide_eq_true c85
                   clear c85
                   by_cases c86 : x219002_3.length < 17592186044416
                   ·rw [if_pos c86] at H
                    have LMc86 := Aside0.mk c86
                    clear c86
                    obtain ⟨y237, hy237⟩ : ∃ y_ : List Int, y_ = (x219002_3 ++ [rd x7_2 (rd l0_2 x110_3)]) := ⟨_, rfl⟩
                    replace H : (flow_Trim.l3 k3 x7_2 l0_2 (l0_2.length : Int) (wrap64 (x110_3 + 1)) x219000_2 x219001_2 y237) = some (r1, r2, r3, r4) := by first | (rw [hy237]; with_reducible exact H) | (have H2_ := (Option.bind_some _ _).symm.trans H; rw [hy237]; with_reducible exact H2_) | (have H2_ := (Option.bind_some _ _).symm.trans H; with_reducible exact H2_) | with_reducible exact H | (rw [hy237]; exact H) | exact H
                    have Ny237 := Aside0.mk hy237
                    clear hy237
                    have H' := Aside0.mk H
                    clear H
                    have p235 : 0 ≤ (x110_3 : Int) := dt
                    have q235 : x110_3 < (l0_2.length : Int) := dt
                    obtain ⟨ad235, e235, hx235_0⟩ := Kd.at_int HR0_2.out x110_3 p235 q235
                    cases e235
                    replace hx235_0 := cx HB hx235_0
                    replace p235 := eq_true p235
                    replace q235 := eq_true q235
                    try go_wp2
                    have n0_ := Aside0.mk (Kd.R_drew HO_7.out)
                    have n1_ := Aside0.mk (Kd.R_drew HO_219000.out)
                    have n2_ := Aside0.mk (Kd.S_drew HO_219001.out)
                    have n3_ := Aside0.mk (Kd.R_drew HO_219002.out)
                    have n4_ := Aside0.mk (blk_drew BK207.out)
                    have n5_ := Aside0.mk (blk_drew BK208.out)
                    have n6_ := Aside0.mk (blk_drew BK218.out)
                    have n7_ := Aside0.mk (below_drew1 HB.out)
                    clear HO_7
                    clear HO_219000
                    clear HO_219001
                    clear HO_219002
                    clear BK207
                    clear BK208
                    clear BK218
                    clear HB
                    have HO_7 := n0_
                    have HO_219000 := n1_
                    have HO_219001 := n2_
                    have HO_219002 := n3_
                    have BK207 := n4_
                    have BK208 := n5_
                    have BK218 := n6_
                    have HB := n7_
                    clear n0_ n1_ n2_ n3_ n4_ n5_ n6_ n7_
                    obtain ⟨Ao88, co88, eo88⟩ := Kd.R_slice HO_7.out
                    (first | subst eo88 | (injection eo88 with f1_ f2_ f3_; have f4_ := f1_.symm; have f5_ := f3_.symm; clear f1_ f2_ f3_; subst f4_; subst f5_))
                    have p236 : 0 ≤ ((rd l0_2 x110_3) : Int) := dt
                    have q236 : (rd l0_2 x110_3) < (x7_2.length : Int) := dt
                    obtain ⟨ad236, e236, hx236_0⟩ := Kd.at_int (Kd.R_reads' HO_7.out).2.2 (rd l0_2 x110_3) p236 q236
                    cases e236
                    replace p236 := eq_true p236
                    replace q236 := eq_true q236
                    refine start_ (n := 10) (S := fun w' => w'.cell? ⟨gb218, 0, none⟩ = some (u219000) ∧ w'.cell? ⟨gb218, 1, none⟩ = some (u219001) ∧ w'.cell? ⟨gb218, 2, none⟩ = some (u219002) ∧ w'.cell? (ad236.add ((rd l0_2 x110_3)).toNat) = some (.int .i64 (rd x7_2 (rd l0_2 x110_3)))) (ds := [7, 9]) #[false, false, false, false, false, false, false, false, false, false] (by kernel_rfl) rfl rfl ⟨(blk_cell BK218.out 0).trans rfl, (blk_cell BK218.out 1).trans rfl, (blk_cell BK218.out 2).trans rfl, hx236_0⟩ (fun hHeld => ?_); refine with_tabW flow_Trim.tab31 flow_Trim.bits31 (fun HT_ HW_ => ?_)
                    generalize wr.drew = w87 at HO_7 HO_219000 HO_219001 HO_219002 BK207 BK208 BK218 HB hx236_0 hHeld ⊢
                    refine pure_ (i := 0) (N := some 114) (v := ?_) (a' := ?_) #[true, false, false, false, false, false, false, false, false, false] rfl rfl (any_of HT_.out (by kernel_rfl)) (fun _ _ _ h => h) (Or.inl ⟨by rfl, ?_⟩) ?_ ?_
                    rotate_left
                    ·intro w'
                     go_simp
                     with_reducible rfl
                    rotate_left
                    ·simp only [Act.put, List.setIfInBounds_toArray, List.set_cons_zero, List.set_cons_succ, i64_w, i32_w]
                     rfl
                    refine pure_ (i := 2) (N := some 116) (v := ?_) (a' := ?_) #[true, false, true, false, false, false, false, false, false, false] rfl rfl (any_of HT_.out (by kernel_rfl)) (fun _ _ _ h => h) (Or.inl ⟨by rfl, ?_⟩) ?_ ?_
                    rotate_left
                    ·intro w'
                     go_simp
                     with_reducible rfl
                    rotate_left
                    ·simp only [Act.put, List.setIfInBounds_toArray, List.set_cons_zero, List.set_cons_succ, i64_w, i32_w]
                     rfl
                    refine pure_ (i := 3) (N := some 117) (v := ?_) (a' := ?_) #[true, false, true, true, false, false, false, false, false, false] rfl rfl (any_of HT_.out (by kernel_rfl)) (fun _ _ _ h => h) (Or.inl ⟨by rfl, ?_⟩) ?_ ?_
                    rotate_left
                    ·intro w'
                     go_simp
                     with_reducible rfl
                    rotate_left
                    ·simp only [Act.put, List.setIfInBounds_toArray, List.set_cons_zero, List.set_cons_succ, i64_w, i32_w]
                     rfl
                    refine pure_ (i := 4) (N := some 118) (v := ?_) (a' := ?_) #[true, false, true, true, true, false, false, false, false, false] rfl rfl (any_of HT_.out (by kernel_rfl)) (fun _ _ _ h => h) (Or.inl ⟨by rfl, ?_⟩) ?_ ?_
                    rotate_left
                    ·intro w'
                     go_simp
                     with_reducible rfl
                    rotate_left
                    ·simp only [Act.put, List.setIfInBounds_toArray, List.set_cons_zero, List.set_cons_succ, i64_w, i32_w]
                     rfl
                    refine take_ (i := 1) (N := some 115) (v := ?_) (a' := ?_) #[true, true, true, true, true, false, false, false, false, false] rfl rfl (take_ofW HT_.out HW_.out (by kernel_rfl)) (fun _ _ _ h => h) (Or.inl ⟨by rfl, ?_⟩) hHeld ?_ ?_
                    rotate_left
                    ·rintro w' ⟨s0, s1, s2, s3⟩
                     go_simp
                     with_reducible rfl
                    rotate_left
                    ·simp only [Act.put, List.setIfInBounds_toArray, List.set_cons_zero, List.set_cons_succ, i64_w, i32_w]
                     rfl
                    refine take_ (i := 5) (N := some 119) (v := ?_) (a' := ?_) #[true, true, true, true, true, true, false, false, false, false] rfl rfl (take_ofW HT_.out HW_.out (by kernel_rfl)) (fun _ _ _ h => h) (Or.inl ⟨by rfl, ?_⟩) hHeld ?_ ?_
                    rotate_left
                    ·rintro w' ⟨s0, s1, s2, s3⟩
                     go_simp
                     with_reducible rfl
                    rotate_left
                    ·simp only [Act.put, List.setIfInBounds_toArray, List.set_cons_zero, List.set_cons_succ, i64_w, i32_w]
                     rfl
                    refine one_ (i := 6) (N := some 120) #[true, true, true, true, true, true, true, false, false, false] rfl rfl (one_of HT_.out (by kernel_rfl)) (by decide) (fun K hK => ?_)
                    refine value_ (w1 := ?_) (v := ?_) (by rfl) rfl ?_ ?_
                    rotate_left 2
                    ·go_simp
                     constructor
                     ·rfl
                     ·rfl
                    refine hK.out _ _ ⟨(blk_cell (blk_alloc BK218.out _) 0).trans rfl, (blk_cell (blk_alloc BK218.out _) 1).trans rfl, (blk_cell (blk_alloc BK218.out _) 2).trans rfl, (World.cell?_alloc_lt _ _ _ (World.block_lt_of_cell? _ _ (hHeld.2.2.2))).trans (hHeld.2.2.2)⟩ (fun hHeld => ?_)
                    clear hK K
                    refine norm_ (a' := ?_) ?_ ?_
                    rotate_left
                    ·show Act.put _ (some 120) _ = _
                     simp only [Act.put, List.setIfInBounds_toArray, List.set_cons_zero, List.set_cons_succ, i64_w, i32_w]
                     rfl
                    refine last_ (i := 7) (N := some 121) #[true, true, true, true, true, true, true, true, false, false] rfl rfl (one_of HT_.out (by kernel_rfl)) (by decide) (fun K hK => ?_)
                    refine Kd.R_append_step (Kd.int .i64) (w0 := w) w.heap.size (by rfl) (.tmp 115) (.tmp 120) 22 3 (.int .i64 0) 8 rfl Try.underlying22 info3 rfl (by decide) (by omega) u219002 x219002_3 (rd x7_2 (rd l0_2 x110_3)) [.int .i64 (rd x7_2 (rd l0_2 x110_3))] (fun k_ => some k_ ≠ (.slice (some ad236) x7_2.length co88 : Value).ownBlock ∧ some k_ ≠ (u219000 : Value).ownBlock) (fun _ => False) rfl rfl ?aP (fun _ hk => hk.elim) ?aF ?aO ?aB ?aS ?aL ?_
                    (case aP => exact rfl)
                    (case aB => exact bl)
                    (case aF => exact (fun k_ hk => ⟨Kd.fresh' (Kd.R_lt (kR HO_7)) k_ hk, Kd.fresh' (Kd.R_lt (kR HO_219000)) k_ hk⟩))
                    (case aO => exact (kR HO_219002))
                    (case aS => exact (below_size bl))
                    (case aL => have := LMc86.out; omega)
                    intro v238 w89 ho hb hg hat
                    rw [← Ny237.out] at ho
                    have n0_ := Aside0.mk (Kd.R_after (ok := (fun k_ => some k_ ≠ (u219000 : Value).ownBlock)) (kR HO_7) hg hat)
                    have n1_ := Aside0.mk (Kd.R_after (ok := (fun k_ => some k_ ≠ (.slice (some ad236) x7_2.length co88 : Value).ownBlock)) (kR HO_219000) hg hat)
                    have n2_ := Aside0.mk (Kd.S_over' (kS HO_219001) (Kd.R_typed (kR HO_219002)) (by decide) hg)
                    have n3_ := Aside0.mk (blk_grown (g := gb207) (o := .cells #[.slice A0_0 l0_0.length c0_0, .slice A0_1 l0_1.length c0_1, .slice (some ad235) l0_2.length c0_2] 25 (0, 0)) bk hg (Kd.R_ne HO_219002.out BK207.out (by decide)))
                    have n4_ := Aside0.mk (blk_grown (g := gb208) (o := .cells #[.slice none 0 0, .slice none 0 0, .slice none 0 0] 25 (0, 0)) bk hg (Kd.R_ne HO_219002.out BK208.out (by decide)))
                    have n5_ := Aside0.mk (blk_grown (g := gb218) (o := .cells #[u219000, u219001, u219002] 25 (0, 0)) bk hg (Kd.R_ne HO_219002.out BK218.out (by decide)))
                    have n6_ := Aside0.mk (hb)
                    have n7_ := Aside0.mk (ho)
                    clear HO_7
                    clear HO_219000
                    clear HO_219001
                    clear BK207
                    clear BK208
                    clear BK218
                    clear HB
                    clear HO_219002
                    have HO_7 := n0_
                    have HO_219000 := n1_
                    have HO_219001 := n2_
                    have BK207 := n3_
                    have BK208 := n4_
                    have BK218 := n5_
                    have HB := n6_
                    have HO239 := n7_
                    clear n0_ n1_ n2_ n3_ n4_ n5_ n6_ n7_
                    clear ho hb hg hat
                    obtain ⟨Ao90, co90, eo90⟩ := Kd.R_slice HO239.out
                    (first | subst eo90 | (injection eo90 with f1_ f2_ f3_; have f4_ := f1_.symm; have f5_ := f3_.symm; clear f1_ f2_ f3_; subst f4_; subst f5_))
                    refine hK.out _ _ ?_
                    clear hK K
                    refine norm_ (a' := ?_) ?_ ?_
                    rotate_left
                    ·show Act.put _ (some 121) _ = _
                     simp only [Act.put, List.setIfInBounds_toArray, List.set_cons_zero, List.set_cons_succ, i64_w, i32_w]
                     rfl
                    refine pure_ (i := 8) (N := some 122) (v := ?_) (a' := ?_) #[true, true, true, true, true, true, true, true, true, false] rfl rfl (any_of HT_.out (by kernel_rfl)) (fun _ _ _ h => h) (Or.inl ⟨by rfl, ?_⟩) ?_ ?_
                    rotate_left
                    ·intro w'
                     go_simp
                     with_reducible rfl
                    rotate_left
                    ·simp only [Act.put, List.setIfInBounds_toArray, List.set_cons_zero, List.set_cons_succ, i64_w, i32_w]
                     rfl
                    refine last_ (i := 9) (N := none) #[true, true, true, true, true, true, true, true, true, true] rfl rfl (one_of HT_.out (by kernel_rfl)) (by decide) (fun K hK => ?_)
                    have hs91 : w89.cell? ⟨gb218, 2, none⟩ = some (u219002) := (blk_cell BK218.out 2).trans rfl
                    have hfs91 := blk_frozen BK218.out 2
                    have hns91_0 := NB207_218.out
                    have hns91_1 := NB208_218.out
                    have hms91_0 := NB218_207.out
                    have hms91_1 := NB218_208.out
                    refine skip_ (w1 := ?_) (by rfl) rfl ?_ ?_
                    rotate_left
                    ·go_simp
                     rfl
                    refine hK.out _ _ ?_
                    clear hK K
                    refine done_ (done_of HT_.out (by kernel_rfl)) ?_
                    try go_wp2
                    go_roundg k3
                    case measure => have := HK1.out; have := HK2.out; have := HK3.out; omega
                    case rel => exact ⟨(wrap64 (x110_3 + 1)), (y237), (.slice Ao90 y237.length co90), (by first | rfl | (simp; done) | (simp [*]; done)), H', ⟨by have := HK1.out; have := HK2.out; have := HK3.out; omega⟩, ⟨by (with_reducible repeat (first | apply Kd.R_alloc | apply Kd.R_drewN | apply Kd.R_drew)); exact Kd.R_mono (Kd.R_far (p := ⟨gb218, 2, none⟩) (Kd.R_types HO_7.out BK218.out (by decide)) (fun _ hk => hk.2) (.slice Ao90 y237.length co90)) (fun _ hk => ⟨hk.1.1, hk.1.2⟩)⟩, ⟨by (with_reducible repeat (first | apply Kd.R_alloc | apply Kd.R_drewN | apply Kd.R_drew)); exact Kd.R_mono (Kd.R_far (p := ⟨gb218, 2, none⟩) (Kd.R_types HO_219000.out BK218.out (by decide)) (fun _ hk => hk.2) (.slice Ao90 y237.length co90)) (fun _ hk => ⟨hk.1.1, hk.1.2⟩)⟩, ⟨by (with_reducible repeat (first | apply Kd.S_alloc | apply Kd.S_drewN | apply Kd.S_drew)); exact Kd.S_mono (Kd.S_far (p := ⟨gb218, 2, none⟩) (Kd.S_types HO_219001.out BK218.out (by decide)) (fun _ hk => hk.2) (.slice Ao90 y237.length co90)) (fun _ hk => trivial)⟩, ⟨by (with_reducible repeat (first | apply Kd.R_alloc | apply Kd.R_drewN | apply Kd.R_drew)); exact Kd.R_mono (Kd.R_far (p := ⟨gb218, 2, none⟩) (Kd.R_types HO239.out BK218.out (by decide)) (fun _ hk => hk.2) (.slice Ao90 y237.length co90)) (fun _ hk => ⟨hk.1.1, hk.1.2⟩)⟩, ⟨by (with_reducible repeat (first | refine blk_drewN ?_ _ | refine blk_drew ?_ | refine blk_alloc ?_ _)); refine blk_far ?_ NB207_218.out _; (with_reducible repeat (first | refine blk_drewN ?_ _ | refine blk_drew ?_ | refine blk_alloc ?_ _)); exact BK207.out⟩, ⟨by (with_reducible repeat (first | refine blk_drewN ?_ _ | refine blk_drew ?_ | refine blk_alloc ?_ _)); refine blk_far ?_ NB208_218.out _; (with_reducible repeat (first | refine blk_drewN ?_ _ | refine blk_drew ?_ | refine blk_alloc ?_ _)); exact BK208.out⟩, ⟨by (with_reducible repeat (first | refine blk_drewN ?_ _ | refine blk_drew ?_ | refine blk_alloc ?_ _)); refine blk_put (cs := #[u219000, u219001, u219002]) ?_ 2 _ rfl; (with_reducible repeat (first | refine blk_drewN ?_ _ | refine blk_drew ?_ | refine blk_alloc ?_ _)); exact BK218.out⟩, ⟨bl⟩⟩
                   ·rw [if_neg c86] at H
                    exact absurd H (by simp)
                  ·rw [if_neg c85] at H
                   exact absurd H (by simp)
                 ·rw [if_neg c84] at H
                  exact absurd H (by simp)
                ·rw [if_neg c83] at H
                 exact absurd H (by simp)
               ·rw [if_neg c82] at H
                exact absurd H (by simp)
              ·rw [if_neg c81] at H
               have c81b0 : decide (x110_3 < (l0_2.length : Int)) = false := decide_eq_false c81
               clear c81
               simp only [Option.some.injEq, Prod.mk.injEq] at H
               obtain ⟨rfl, rfl, rfl, rfl⟩ := H
               have hnb92 := NB218_207.out
               have hnc92 := NB207_218.out
               have hnb93 := NB218_208.out
               have hnc93 := NB208_218.out
               obtain ⟨⟨hcz94_0, hcz94_1, hcz94_2⟩, hfz94_0, hfz94_1, hfz94_2⟩ := b3 BK218.out
               obtain ⟨Ao95, co95, eo95⟩ := Kd.R_slice HO_219000.out
               subst eo95
               have hnb96 := NB208_207.out
               have hnc96 := NB207_208.out
               obtain ⟨⟨hcz97_0, hcz97_1, hcz97_2⟩, hfz97_0, hfz97_1, hfz97_2⟩ := b3 BK208.out
               obtain ⟨Ao98, co98, eo98⟩ := Kd.S_slice HO_219001.out
               subst eo98
               obtain ⟨Ao99, co99, eo99⟩ := Kd.R_slice HO_219002.out
               subst eo99
               (go_wp2; repeat (go_step3; go_wp2))
               (try rw [Exit.noGoto_ret])
               refine bodyPost_ret (results_ct rfl _ _ gb208 25 #[.slice Ao95 x219000_2.length co95, .slice Ao98 x219001_2.length co98, .slice Ao99 x219002_3.length co99] (0, 0) _ rfl (by (with_reducible repeat (first | refine blk_drewN ?_ _ | refine blk_drew ?_ | refine blk_alloc ?_ _)); refine blk_put (cs := #[.slice Ao95 x219000_2.length co95, .slice Ao98 x219001_2.length co98, .slice none 0 0]) ?_ 2 _ rfl; (with_reducible repeat (first | refine blk_drewN ?_ _ | refine blk_drew ?_ | refine blk_alloc ?_ _)); refine blk_put (cs := #[.slice Ao95 x219000_2.length co95, .slice none 0 0, .slice none 0 0]) ?_ 1 _ rfl; (with_reducible repeat (first | refine blk_drewN ?_ _ | refine blk_drew ?_ | refine blk_alloc ?_ _)); refine blk_put (cs := #[.slice none 0 0, .slice none 0 0, .slice none 0 0]) ?_ 0 _ rfl; (with_reducible repeat (first | refine blk_drewN ?_ _ | refine blk_drew ?_ | refine blk_alloc ?_ _)); exact BK208.out) Try.underlying25 rfl (by kernel_rfl)) rfl ?_
               exact ⟨_, _, _, by first | rfl | (simp [errW_none, errW_some] <;> rfl) | (simp only [← hji4]; first | rfl | (simp [errW_none, errW_some] <;> rfl)) | (simp [*, errW_none, errW_some] <;> rfl), by (with_reducible repeat (first | apply Kd.R_alloc | apply Kd.R_drewN | apply Kd.R_drew)); exact Kd.R_mono (Kd.R_far (p := ⟨gb208, 2, none⟩) (Kd.R_far (p := ⟨gb208, 1, none⟩) (Kd.R_far (p := ⟨gb208, 0, none⟩) (Kd.R_types HO_219000.out BK208.out (by decide)) (fun _ hk => hk.2) (.slice Ao95 x219000_2.length co95)) (fun _ hk => hk.2) (.slice Ao98 x219001_2.length co98)) (fun _ hk => hk.2) (.slice Ao99 x219002_3.length co99)) (fun _ hk => hk.1.2), by (with_reducible repeat (first | apply Kd.S_alloc | apply Kd.S_drewN | apply Kd.S_drew)); exact Kd.S_mono (Kd.S_far (p := ⟨gb208, 2, none⟩) (Kd.S_far (p := ⟨gb208, 1, none⟩) (Kd.S_far (p := ⟨gb208, 0, none⟩) (Kd.S_types HO_219001.out BK208.out (by decide)) (fun _ hk => hk.2) (.slice Ao95 x219000_2.length co95)) (fun _ hk => hk.2) (.slice Ao98 x219001_2.length co98)) (fun _ hk => hk.2) (.slice Ao99 x219002_3.length co99)) (fun _ hk => trivial), by (with_reducible repeat (first | apply Kd.R_alloc | apply Kd.R_drewN | apply Kd.R_drew)); exact Kd.R_mono (Kd.R_far (p := ⟨gb208, 2, none⟩) (Kd.R_far (p := ⟨gb208, 1, none⟩) (Kd.R_far (p := ⟨gb208, 0, none⟩) (Kd.R_types HO_219002.out BK208.out (by decide)) (fun _ hk => hk.2) (.slice Ao95 x219000_2.length co95)) (fun _ hk => hk.2) (.slice Ao98 x219001_2.length co98)) (fun _ hk => hk.2) (.slice Ao99 x219002_3.length co99)) (fun _ hk => hk.1.2), bl⟩
        ·rw [if_neg c25] at H
         exact absurd H (by simp)
       ·rw [if_neg c24] at H
        exact absurd H (by simp)
   ·rw [if_neg c6] at H
    exact absurd H (by simp)
  ·rw [if_neg c5] at H
   exact absurd H (by simp)
 ·replace c3 := Bool.eq_false_iff.mpr c3
  subst c3
  have H1 : (some (([] : List Int), ([] : List (List (S64))), ([] : List Int), 2)) = some (r1, r2, r3, r4) := by rw [if_neg (show ¬ (false = true) by decide)] at H; exact H
  clear H
  have H := H1
  clear H1
  simp only [Option.some.injEq, Prod.mk.injEq] at H
  obtain ⟨rfl, rfl, rfl, rfl⟩ := H
  go_enter Try.func18, Try.ntmps18
  (go_wp2_with (first | ((with_reducible refine gate_dst (N := 1) rfl ?_); refine box_event ?hg (N := 1) ?hd (cs := #[.slice A0_0 l0_0.length c0_0, .slice A0_1 l0_1.length c0_1, .slice A0_2 l0_2.length c0_2]) (t := 25) ?hr ?_; (case hd => rfl); (case hg => rfl); (case hr => first | (go_simp; done) | (go_simp; rfl)); intro gb207 hg w100 hbox hb; have n0_ := Aside0.mk (below_step bl hb); have n1_ := Aside0.mk (hbox); have n2_ := Aside0.mk ((sz hg)); have n3_ := Aside0.mk ((sz hg)); clear HB; have HB := n0_; have BK207 := n1_; have GW207 := n2_; have GE207 := n3_; clear n0_ n1_ n2_ n3_; clear hb hbox hg) | ((with_reducible refine gate_dst (N := 2) rfl ?_); refine box_event ?hg (N := 2) ?hd (cs := #[.slice none 0 0, .slice none 0 0, .slice none 0 0]) (t := 25) ?hr ?_; (case hd => rfl); (case hg => rfl); (case hr => first | (go_simp; done) | (go_simp; rfl)); intro gb208 hg w101 hbox hb; have n0_ := Aside0.mk (blk_below (g := gb207) (o := .cells #[.slice A0_0 l0_0.length c0_0, .slice A0_1 l0_1.length c0_1, .slice A0_2 l0_2.length c0_2] 25 (0, 0)) bk hb); have n1_ := Aside0.mk (below_step bl hb); have n2_ := Aside0.mk (hbox); have n3_ := Aside0.mk ((sz hg)); have n4_ := Aside0.mk ((sz hg)); have n5_ := Aside0.mk ((nl (g := gb207) (g' := gb208) hg)); have n6_ := Aside0.mk ((nr (g := gb207) (g' := gb208) hg)); clear BK207; clear HB; have BK207 := n0_; have HB := n1_; have BK208 := n2_; have GW208 := n3_; have GE208 := n4_; have NB207_208 := n5_; have NB208_207 := n6_; clear n0_ n1_ n2_ n3_ n4_ n5_ n6_; clear hb hbox hg; have hnb102 := NB207_208.out; have hnc102 := NB208_207.out; obtain ⟨⟨hcz103_0, hcz103_1, hcz103_2⟩, hfz103_0, hfz103_1, hfz103_2⟩ := b3 BK207.out) | ((with_reducible refine gate_callee (f := 11) rfl ?_); refine goesL_ (some 18) rfl rfl Try.func11 (by kernel_rfl) rfl #[.agg #[.slice A0_0 l0_0.length c0_0, .slice A0_1 l0_1.length c0_1, .slice A0_2 l0_2.length c0_2]] rfl (by (try simp only [List.map_toArray, List.map_cons, List.map_nil]); first | done | rfl | (simp only [List.length_drop, List.length_take]; rfl)) ?_; (with_reducible refine (flow_May.calls k _ _ l0_0 _ _ l0_1 _ _ l0_2 false _ ?side1 ?side2 ?side3 ?side4 ?side5 ?side6 A2.out).mono ?_); (case side1 => repeat (first | exact (Kd.C_below HR0_0.out HB.out) | (with_reducible refine Kd.C_alloc ?_ _) | (with_reducible refine Kd.C_drewN ?_ _) | (with_reducible refine Kd.C_drew ?_))); (case side2 => exact HC0_0.out); (case side3 => repeat (first | exact (Kd.C_below HR0_1.out HB.out) | (with_reducible refine Kd.C_alloc ?_ _) | (with_reducible refine Kd.C_drewN ?_ _) | (with_reducible refine Kd.C_drew ?_))); (case side4 => exact HC0_1.out); (case side5 => repeat (first | exact (Kd.C_below HR0_2.out HB.out) | (with_reducible refine Kd.C_alloc ?_ _) | (with_reducible refine Kd.C_drewN ?_ _) | (with_reducible refine Kd.C_drew ?_))); (case side6 => exact HC0_2.out); rintro e w104 ⟨rfl, hb⟩; refine ⟨_, rfl, ?_⟩; have n0_ := Aside0.mk (blk_below (g := gb207) (o := .cells #[.slice A0_0 l0_0.length c0_0, .slice A0_1 l0_1.length c0_1, .slice A0_2 l0_2.length c0_2] 25 (0, 0)) bk hb); have n1_ := Aside0.mk (blk_below (g := gb208) (o := .cells #[.slice none 0 0, .slice none 0 0, .slice none 0 0] 25 (0, 0)) bk hb); have n2_ := Aside0.mk (below_step bl hb); clear BK207; clear BK208; clear HB; have BK207 := n0_; have BK208 := n1_; have HB := n2_; clear n0_ n1_ n2_; (try clear hb); (try clear hb2); (try clear hk); (try clear hi); obtain ⟨⟨hcz105_0, hcz105_1, hcz105_2⟩, hfz105_0, hfz105_1, hfz105_2⟩ := b3 BK208.out)); repeat (go_step3; go_wp2_with (first | ((with_reducible refine gate_dst (N := 1) rfl ?_); refine box_event ?hg (N := 1) ?hd (cs := #[.slice A0_0 l0_0.length c0_0, .slice A0_1 l0_1.length c0_1, .slice A0_2 l0_2.length c0_2]) (t := 25) ?hr ?_; (case hd => rfl); (case hg => rfl); (case hr => first | (go_simp; done) | (go_simp; rfl)); intro gb207 hg w100 hbox hb; have n0_ := Aside0.mk (below_step bl hb); have n1_ := Aside0.mk (hbox); have n2_ := Aside0.mk ((sz hg)); have n3_ := Aside0.mk ((sz hg)); clear HB; have HB := n0_; have BK207 := n1_; have GW207 := n2_; have GE207 := n3_; clear n0_ n1_ n2_ n3_; clear hb hbox hg) | ((with_reducible refine gate_dst (N := 2) rfl ?_); refine box_event ?hg (N := 2) ?hd (cs := #[.slice none 0 0, .slice none 0 0, .slice none 0 0]) (t := 25) ?hr ?_; (case hd => rfl); (case hg => rfl); (case hr => first | (go_simp; done) | (go_simp; rfl)); intro gb208 hg w101 hbox hb; have n0_ := Aside0.mk (blk_below (g := gb207) (o := .cells #[.slice A0_0 l0_0.length c0_0, .slice A0_1 l0_1.length c0_1, .slice A0_2 l0_2.length c0_2] 25 (0, 0)) bk hb); have n1_ := Aside0.mk (below_step bl hb); have n2_ := Aside0.mk (hbox); have n3_ := Aside0.mk ((sz hg)); have n4_ := Aside0.mk ((sz hg)); have n5_ := Aside0.mk ((nl (g := gb207) (g' := gb208) hg)); have n6_ := Aside0.mk ((nr (g := gb207) (g' := gb208) hg)); clear BK207; clear HB; have BK207 := n0_; have HB := n1_; have BK208 := n2_; have GW208 := n3_; have GE208 := n4_; have NB207_208 := n5_; have NB208_207 := n6_; clear n0_ n1_ n2_ n3_ n4_ n5_ n6_; clear hb hbox hg; have hnb102 := NB207_208.out; have hnc102 := NB208_207.out; obtain ⟨⟨hcz103_0, hcz103_1, hcz103_2⟩, hfz103_0, hfz103_1, hfz103_2⟩ := b3 BK207.out) | ((with_reducible refine gate_callee (f := 11) rfl ?_); refine goesL_ (some 18) rfl rfl Try.func11 (by kernel_rfl) rfl #[.agg #[.slice A0_0 l0_0.length c0_0, .slice A0_1 l0_1.length c0_1, .slice A0_2 l0_2.length c0_2]] rfl (by (try simp only [List.map_toArray, List.map_cons, List.map_nil]); first | done | rfl | (simp only [List.length_drop, List.length_take]; rfl)) ?_; (with_reducible refine (flow_May.calls k _ _ l0_0 _ _ l0_1 _ _ l0_2 false _ ?side1 ?side2 ?side3 ?side4 ?side5 ?side6 A2.out).mono ?_); (case side1 => repeat (first | exact (Kd.C_below HR0_0.out HB.out) | (with_reducible refine Kd.C_alloc ?_ _) | (with_reducible refine Kd.C_drewN ?_ _) | (with_reducible refine Kd.C_drew ?_))); (case side2 => exact HC0_0.out); (case side3 => repeat (first | exact (Kd.C_below HR0_1.out HB.out) | (with_reducible refine Kd.C_alloc ?_ _) | (with_reducible refine Kd.C_drewN ?_ _) | (with_reducible refine Kd.C_drew ?_))); (case side4 => exact HC0_1.out); (case side5 => repeat (first | exact (Kd.C_below HR0_2.out HB.out) | (with_reducible refine Kd.C_alloc ?_ _) | (with_reducible refine Kd.C_drewN ?_ _) | (with_reducible refine Kd.C_drew ?_))); (case side6 => exact HC0_2.out); rintro e w104 ⟨rfl, hb⟩; refine ⟨_, rfl, ?_⟩; have n0_ := Aside0.mk (blk_below (g := gb207) (o := .cells #[.slice A0_0 l0_0.length c0_0, .slice A0_1 l0_1.length c0_1, .slice A0_2 l0_2.length c0_2] 25 (0, 0)) bk hb); have n1_ := Aside0.mk (blk_below (g := gb208) (o := .cells #[.slice none 0 0, .slice none 0 0, .slice none 0 0] 25 (0, 0)) bk hb); have n2_ := Aside0.mk (below_step bl hb); clear BK207; clear BK208; clear HB; have BK207 := n0_; have BK208 := n1_; have HB := n2_; clear n0_ n1_ n2_; (try clear hb); (try clear hb2); (try clear hk); (try clear hi); obtain ⟨⟨hcz105_0, hcz105_1, hcz105_2⟩, hfz105_0, hfz105_1, hfz105_2⟩ := b3 BK208.out))))
  (try rw [Exit.noGoto_ret])
  refine bodyPost_ret (results_ct rfl _ _ gb208 25 #[.slice none 0 0, .slice none 0 0, .slice none 0 0] (0, 0) _ rfl (by (with_reducible repeat (first | refine blk_drewN ?_ _ | refine blk_drew ?_ | refine blk_alloc ?_ _)); refine blk_put (cs := #[.slice none 0 0, .slice none 0 0, .slice none 0 0]) ?_ 2 _ rfl; (with_reducible repeat (first | refine blk_drewN ?_ _ | refine blk_drew ?_ | refine blk_alloc ?_ _)); refine blk_put (cs := #[.slice none 0 0, .slice none 0 0, .slice none 0 0]) ?_ 1 _ rfl; (with_reducible repeat (first | refine blk_drewN ?_ _ | refine blk_drew ?_ | refine blk_alloc ?_ _)); refine blk_put (cs := #[.slice none 0 0, .slice none 0 0, .slice none 0 0]) ?_ 0 _ rfl; (with_reducible repeat (first | refine blk_drewN ?_ _ | refine blk_drew ?_ | refine blk_alloc ?_ _)); exact BK208.out) Try.underlying25 rfl (by kernel_rfl)) rfl ?_
  exact ⟨_, _, _, by first | rfl | (simp [errW_none, errW_some] <;> rfl) | (simp [*, errW_none, errW_some] <;> rfl), by first | exact Kd.R_nil _ _ _ _ _ | exact Kd.N_nil _ _ _ _ _ | exact Kd.V_nil _ _ _ _ _ | exact Kd.Q_nil _ _ _ _ _ | exact Kd.S_nil _ _ _ _ _, by first | exact Kd.S_nil _ _ _ _ _ | exact Kd.N_nil _ _ _ _ _ | exact Kd.V_nil _ _ _ _ _ | exact Kd.Q_nil _ _ _ _ _ | exact Kd.R_nil _ _ _ _ _, by first | exact Kd.R_nil _ _ _ _ _ | exact Kd.N_nil _ _ _ _ _ | exact Kd.V_nil _ _ _ _ _ | exact Kd.Q_nil _ _ _ _ _ | exact Kd.S_nil _ _ _ _ _, bl⟩

end Go.Proofs.Ytfnhnniecclleaa.PA
