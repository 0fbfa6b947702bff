-- Written by wip/tools/mp.py (the kit's print, run over several laws with some functions given by hand).
import Derived.Test.YtfnhnniecclleaaPAx0
import Derived.Test.YtfnhnniecclleaaPAx3
import Derived.Test.YtfnhnniecclleaaPAx14
import Derived.Test.YtfnhnniecclleaaPAx15
import Derived.Test.YtfnhnniecclleaaShort
namespace Go.Proofs.Ytfnhnniecclleaa.PA
open Go.RowKit Go.Proofs.Ytfnhnniecclleaa.Sh Go.Proofs.YtfnhnniecclleaaW.PrintWords Go.Proofs.YtfnhnniecclleaaW.PrintLast Go.Proofs.YtfnhnniecclleaaW.PrintMore
attribute [local go_sem] max2_int min2_int max_two min_two max_three min_three max_four min_four   -- for this text's walks alone
set_option linter.unusedVariables false
set_option linter.unusedSimpArgs false

/-! ### recoupref21_Run: function 21 -/
mutual
def recoupref21_Run.l0 : Nat → List (List Int) → Int → Int → List Int → List (List (S64)) → List Int → Option ((List (List Int)) × Int)
 | 0, _, _, _, _, _, _ => none
 | k + 1, x1, x6, x7, x376000, x376001, x376002 => if x7 < (x1.length : Int) then (if 0 < (x1.length : Int) then (if 0 ≤ x7 then (if ((rd_L9 x1 x7).length : Int) = ((rd_L9 x1 0).length : Int) then (recoupref21_Run.l0 k x1 ((rd_L9 x1 0).length : Int) (wrap64 (x7 + 1)) x376000 x376001 x376002) else (some (([] : List (List Int)), 3))) else (none)) else (none)) else (recoupref21_Run.l1 k x1 x6 ([] : List (List Int)) 0 x376000 x376001 x376002)
def recoupref21_Run.l1 : Nat → List (List Int) → Int → List (List Int) → Int → List Int → List (List (S64)) → List Int → Option ((List (List Int)) × Int)
 | 0, _, _, _, _, _, _, _ => none
 | k + 1, x1, x6, x8, x9, x376000, x376001, x376002 => if x9 < (x376000.length : Int) then (if 0 ≤ x9 then (if (rd x376000 x9) ≥ (x1.length : Int) then (some (([] : List (List Int)), 3)) else (if 0 ≤ (rd x376000 x9) then (if (rd x376000 x9) < (x1.length : Int) then ((recoupref01_Copy.f (rd_L9 x1 (rd x376000 x9))).bind fun t382 => (if x8.length < 5864062014805 then (recoupref21_Run.l1 k x1 x6 (x8 ++ [t382]) (wrap64 (x9 + 1)) x376000 x376001 x376002) else (none))) else (none)) else (none))) else (none)) else (recoupref21_Run.l2 k x6 x8 0 x376000 x376001 x376002)
def recoupref21_Run.l2 : Nat → Int → List (List Int) → Int → List Int → List (List (S64)) → List Int → Option ((List (List Int)) × Int)
 | 0, _, _, _, _, _, _ => none
 | k + 1, x6, x8, x10, x376000, x376001, x376002 => if x10 < (x376001.length : Int) then (if 0 ≤ x6 then (if (x6 : Int).toNat ≤ 281474976710656 then (recoupref21_Run.l3 k x6 x8 x10 (List.replicate (x6 : Int).toNat 0) 0 x376000 x376001 x376002) else (none)) else (none)) else (recoupref21_Run.l4 k x8 ([] : List (List Int)) 0 x376000 x376001 x376002)
def recoupref21_Run.l3 : Nat → Int → List (List Int) → Int → List Int → Int → List Int → List (List (S64)) → List Int → Option ((List (List Int)) × Int)
 | 0, _, _, _, _, _, _, _, _ => none
 | k + 1, x6, x8, x10, x11, x12, x376000, x376001, x376002 => if 0 ≤ x10 then (if x10 < (x376001.length : Int) then (if x12 < ((rd_L4 x376001 x10).length : Int) then (if 0 ≤ x12 then (if 0 ≤ ((rd_T64 (rd_L4 x376001 x10) x12).f0) then (if ((rd_T64 (rd_L4 x376001 x10) x12).f0) < (x8.length : Int) then ((recoupref01_Mac.f k x11 ((rd_T64 (rd_L4 x376001 x10) x12).f1) (rd_L9 x8 ((rd_T64 (rd_L4 x376001 x10) x12).f0))).bind fun bt397 => (recoupref21_Run.l3 k x6 x8 x10 bt397.1 (wrap64 (x12 + 1)) x376000 x376001 x376002)) else (none)) else (none)) else (none)) else (if x8.length < 5864062014805 then (recoupref21_Run.l2 k x6 (x8 ++ [x11]) (wrap64 (x10 + 1)) x376000 x376001 x376002) else (none))) else (none)) else (none)
def recoupref21_Run.l4 : Nat → List (List Int) → List (List Int) → Int → List Int → List (List (S64)) → List Int → Option ((List (List Int)) × Int)
 | 0, _, _, _, _, _, _ => none
 | k + 1, x8, x13, x14, x376000, x376001, x376002 => if x14 < (x376002.length : Int) then (if 0 ≤ x14 then (if 0 ≤ (rd x376002 x14) then (if (rd x376002 x14) < (x8.length : Int) then ((recoupref01_Copy.f (rd_L9 x8 (rd x376002 x14))).bind fun t406 => (if x13.length < 5864062014805 then (recoupref21_Run.l4 k x8 (x13 ++ [t406]) (wrap64 (x14 + 1)) x376000 x376001 x376002) else (none))) else (none)) else (none)) else (none)) else (some (x13, 0))
end
def recoupref21_Run.f (k : Nat) (l0_0 : List Int) (l0_1 : List (List (S64))) (l0_2 : List Int) (l1 : List (List Int)) : Option ((List (List Int)) × Int) := (recoupref21_May.f k l0_0 l0_1 l0_2).bind fun t376 => (if t376 = true then (recoupref21_Run.l0 k l1 0 0 l0_0 l0_1 l0_2) else (some (([] : List (List Int)), 2)))
def recoupref21_Run.T24 : Bool × List (List Nat × List Nat) := (true, [([], []), ([], []), ([1], [1]), ([], []), ([2, 3], [2, 3]), ([4], [4]), ([], []), ([5, 6], [5, 6]), ([7], [7]), ([8], [8]), ([], []), ([], []), ([11], [11]), ([], []), ([12, 13], [12, 13]), ([14], [14]), ([], []), ([15, 16], [15, 16]), ([17], [17]), ([18], [18]), ([10, 19], [10, 19]), ([20], [20]), ([0, 9, 21], [0, 9, 21]), ([22], [22]), ([23], [23]), ([23], [23]), ([24, 22, 0, 1, 2, 3, 4, 5, 6, 7, 8, 9, 10, 11, 12, 13, 14, 15, 16, 17, 18, 19, 20, 21, 22, 23, 24], [0, 24])])
def recoupref21_Run.B24 : List Nat := [0, 0, 2, 0, 14, 30, 0, 126, 254, 510, 0, 0, 2048, 0, 14336, 30720, 0, 129024, 260096, 522240, 1047552, 2096128, 4194303, 8388607, 16777215, 16777215, 33554431]
theorem recoupref21_Run.tab24 : rtab .any (opsOf Try.f21 24) = recoupref21_Run.T24 := by kernel_rfl
theorem recoupref21_Run.bits24 : waitsOk recoupref21_Run.T24.2 recoupref21_Run.B24 = true := by kernel_rfl
set_option maxHeartbeats 8000000 in
set_option maxRecDepth 100000 in
theorem recoupref21_Run.calls (k : Nat) (A0_0 : Option Addr) (c0_0 : Nat) (l0_0 : List Int) (A0_1 : Option Addr) (c0_1 : Nat) (l0_1 : List (List (S64))) (A0_2 : Option Addr) (c0_2 : Nat) (l0_2 : List Int) (A1 : Option Addr) (c1 : Nat) (l1 : List (List Int)) (r1 : List (List Int)) (r2 : Int) (w : World) (hr0_0 : Kd.C (Kd.int .i64) w A0_0 l0_0.length l0_0) (hc0_0 : l0_0.length ≤ c0_0) (hr0_1 : Kd.C (Kd.slice 64 k64) w A0_1 l0_1.length l0_1) (hc0_1 : l0_1.length ≤ c0_1) (hr0_2 : Kd.C (Kd.int .i64) w A0_2 l0_2.length l0_2) (hc0_2 : l0_2.length ≤ c0_2) (hr1 : Kd.C (Kd.slice 5 (Kd.int .u8)) w A1 l1.length l1) (hc1 : l1.length ≤ c1) (h : recoupref21_Run.f k l0_0 l0_1 l0_2 l1 = some (r1, r2)) :
  Calls Try.prog 21 #[.agg #[.slice A0_0 l0_0.length c0_0, .slice A0_1 l0_1.length c0_1, .slice A0_2 l0_2.length c0_2], .slice A1 l1.length c1] w fun e w' => ∃ v0_ : Value, e = .returned (.tuple #[v0_, .int .i64 r2]) ∧ Kd.S (Kd.slice 5 (Kd.int .u8)) 45 w' w.heap.size (fun _ => True) v0_ r1 ∧ Below w.heap.size w w' := by
 have hu25 := Try.underlying25
 have HR0_0 := Aside0.mk hr0_0
 have HC0_0 := Aside0.mk hc0_0
 clear hr0_0 hc0_0
 have HR0_1 := Aside0.mk hr0_1
 have HC0_1 := Aside0.mk hc0_1
 clear hr0_1 hc0_1
 have HR0_2 := Aside0.mk hr0_2
 have HC0_2 := Aside0.mk hc0_2
 clear hr0_2 hc0_2
 have HR1 := Aside0.mk hr1
 have HC1 := Aside0.mk hc1
 clear hr1 hc1
 have HB := Aside0.mk (Below.refl w.heap.size w)
 have H : ((recoupref21_May.f k l0_0 l0_1 l0_2).bind fun t376 => (if t376 = true then (recoupref21_Run.l0 k l1 0 0 l0_0 l0_1 l0_2) else (some (([] : List (List Int)), 2)))) = some (r1, r2) := h
 clear h
 replace H := Option.bind_eq_some_iff.mp H
 obtain ⟨t376, A30, H⟩ := H
 replace H : (if t376 = true then (recoupref21_Run.l0 k l1 0 0 l0_0 l0_1 l0_2) else (some (([] : List (List Int)), 2))) = some (r1, r2) := H
 have A3 := Aside0.mk A30
 clear A30
 by_cases c4 : t376 = true
 ·subst c4
  have H1 : (recoupref21_Run.l0 k l1 0 0 l0_0 l0_1 l0_2) = some (r1, r2) := by rw [if_pos rfl] at H; exact H
  clear H
  have H := H1
  clear H1
  have H' := Aside0.mk H
  clear H
  go_enter Try.func21, Try.ntmps21
  go_wp2_with (first | ((with_reducible refine gate_dst (N := 2) rfl ?_); refine box_event ?hg (N := 2) ?hd (cs := #[.slice A0_0 l0_0.length c0_0, .slice A0_1 l0_1.length c0_1, .slice A0_2 l0_2.length c0_2]) (t := 25) ?hr ?_; (case hd => rfl); (case hg => rfl); (case hr => first | (go_simp; done) | (go_simp; rfl)); intro gb375 hg w5 hbox hb; have n0_ := Aside0.mk (below_step bl hb); have n1_ := Aside0.mk (hbox); have n2_ := Aside0.mk ((sz hg)); have n3_ := Aside0.mk ((sz hg)); clear HB; have HB := n0_; have BK375 := n1_; have GW375 := n2_; have GE375 := n3_; clear n0_ n1_ n2_ n3_; clear hb hbox hg; obtain ⟨⟨hcz6_0, hcz6_1, hcz6_2⟩, hfz6_0, hfz6_1, hfz6_2⟩ := b3 BK375.out) | ((with_reducible refine gate_callee (f := 12) rfl ?_); refine goesL_ (some 16) rfl rfl Try.func12 (by kernel_rfl) rfl #[.agg #[.slice A0_0 l0_0.length c0_0, .slice A0_1 l0_1.length c0_1, .slice A0_2 l0_2.length c0_2]] rfl (by (try simp only [List.map_toArray, List.map_cons, List.map_nil]); first | done | rfl | (simp only [List.length_drop, List.length_take]; rfl)) ?_; (with_reducible refine (recoupref21_May.calls k _ _ l0_0 _ _ l0_1 _ _ l0_2 true _ ?side1 ?side2 ?side3 ?side4 ?side5 ?side6 A3.out).mono ?_); (case side1 => repeat (first | exact (Kd.C_below HR0_0.out HB.out) | (with_reducible refine Kd.C_alloc ?_ _) | (with_reducible refine Kd.C_drewN ?_ _) | (with_reducible refine Kd.C_drew ?_))); (case side2 => exact HC0_0.out); (case side3 => repeat (first | exact (Kd.C_below HR0_1.out HB.out) | (with_reducible refine Kd.C_alloc ?_ _) | (with_reducible refine Kd.C_drewN ?_ _) | (with_reducible refine Kd.C_drew ?_))); (case side4 => exact HC0_1.out); (case side5 => repeat (first | exact (Kd.C_below HR0_2.out HB.out) | (with_reducible refine Kd.C_alloc ?_ _) | (with_reducible refine Kd.C_drewN ?_ _) | (with_reducible refine Kd.C_drew ?_))); (case side6 => exact HC0_2.out); rintro e w7 ⟨rfl, hb⟩; refine ⟨_, rfl, ?_⟩; have n0_ := Aside0.mk (blk_below (g := gb375) (o := .cells #[.slice A0_0 l0_0.length c0_0, .slice A0_1 l0_1.length c0_1, .slice A0_2 l0_2.length c0_2] 25 (0, 0)) bk hb); have n1_ := Aside0.mk (below_step bl hb); clear BK375; clear HB; have BK375 := n0_; have HB := n1_; clear n0_ n1_; (try clear hb); (try clear hb2); (try clear hk); (try clear hi)))
  go_loopg [6, 7] k (fun kq v6 v7 w' => ∃ (x6_1 : Int) (x7_1 : Int), v6 = .int .i64 x6_1 ∧ v7 = .int .i64 x7_1 ∧ Aside0 (recoupref21_Run.l0 kq l1 x6_1 x7_1 l0_0 l0_1 l0_2 = some (r1, r2)) ∧ Aside0 (kq ≤ k) ∧ Aside0 (w'.heap[gb375]? = some (.cells #[(.slice A0_0 l0_0.length c0_0), (.slice A0_1 l0_1.length c0_1), (.slice A0_2 l0_2.length c0_2)] 25 (0, 0))) ∧ Aside0 (Below w.heap.size w w'))
  case atStart => exact ⟨(0), (0), (by first | rfl | (simp; done) | (simp [*]; done)), (by first | rfl | (simp; done) | (simp [*]; done)), H', ⟨Nat.le_refl _⟩, ⟨bk⟩, ⟨bl⟩⟩
  case round =>
   clear H'
   (try clear c1); (try clear c2); (try clear p2); (try clear c4); (try clear hcz6_0 hcz6_1 hcz6_2 hfz6_0 hfz6_1 hfz6_2)
   obtain ⟨x6_1, x7_1, rfl, rfl, HA, HK1, BK375, HB⟩ := hrel
   cases gk with
   | zero => exact absurd HA.out (by simp [recoupref21_Run.l0])
   | succ k1 =>
    have H := HA.out
    clear HA
    simp only [recoupref21_Run.l0] at H
    by_cases c8 : x7_1 < (l1.length : Int)
    ·rw [if_pos c8] at H
     have c8b0 : decide (x7_1 < (l1.length : Int)) = true := decide_eq_true c8
     clear c8
     by_cases c9 : 0 < (l1.length : Int)
     ·rw [if_pos c9] at H
      have c9b0 : decide (0 < (l1.length : Int)) = true := decide_eq_true c9
      have c9b1 : decide (0 < l1.length) = true := decide_eq_true (by omega)
      clear c9
      by_cases c10 : 0 ≤ x7_1
      ·rw [if_pos c10] at H
       have c10b0 : decide (0 ≤ x7_1) = true := decide_eq_true c10
       clear c10
       by_cases c11 : ((rd_L9 l1 x7_1).length : Int) = ((rd_L9 l1 0).length : Int)
       ·rw [if_pos c11] at H
        have c11b0 : (((rd_L9 l1 x7_1).length : Int) == ((rd_L9 l1 0).length : Int)) = true := beq_iff_eq.mpr c11
        have c11b1 : (((rd_L9 l1 x7_1).length : Int) != ((rd_L9 l1 0).length : Int)) = false := bne_eq_false_iff_eq.mpr c11
        have c11b2 : ((rd_L9 l1 x7_1).length == (rd_L9 l1 0).length) = true := by first | simpa using c11 | (simp at c11 ⊢; omega)
        clear c11
        have H' := Aside0.mk H
        clear H
        have p377 : 0 ≤ (0 : Int) := (by omega)
        have q377 : 0 < (l1.length : Int) := dt
        obtain ⟨ad377, A377_0, c377_0, e377, hx377_0, hl377_0, hi377_0⟩ := at_L9 HR1.out 0 p377 q377
        cases e377
        have qi377 : (0 < l1.length) = True := eq_true (by omega)
        (try rw [show ((0 : Int)).toNat = 0 from rfl] at hx377_0)
        (try rw [Addr.add_zero'] at hx377_0)
        replace hx377_0 := cx HB hx377_0
        have HR377_0 := Aside0.mk hi377_0
        have HC377_0 := Aside0.mk hl377_0
        clear hi377_0 hl377_0
        replace p377 := eq_true p377
        replace q377 := eq_true q377
        have p378 : 0 ≤ (x7_1 : Int) := dt
        have q378 : x7_1 < (l1.length : Int) := dt
        obtain ⟨ad378, A378_0, c378_0, e378, hx378_0, hl378_0, hi378_0⟩ := at_L9 HR1.out x7_1 p378 q378
        obtain rfl : ad377 = ad378 := (by injection e378)
        replace hx378_0 := cx HB hx378_0
        have HR378_0 := Aside0.mk hi378_0
        have HC378_0 := Aside0.mk hl378_0
        clear hi378_0 hl378_0
        replace p378 := eq_true p378
        replace q378 := eq_true q378
        go_wp2
        go_roundg k1
        case measure => have := HK1.out; omega
        case rel => exact ⟨(((rd_L9 l1 0).length : Int)), (wrap64 (x7_1 + 1)), (by first | rfl | (simp; done) | (simp [*]; done)), (by first | rfl | (simp; done) | (simp [*]; done)), H', ⟨by have := HK1.out; omega⟩, ⟨bk⟩, ⟨bl⟩⟩
       ·rw [if_neg c11] at H
        have c11b0 : (((rd_L9 l1 x7_1).length : Int) == ((rd_L9 l1 0).length : Int)) = false := beq_eq_false_iff_ne.mpr c11
        have c11b1 : (((rd_L9 l1 x7_1).length : Int) != ((rd_L9 l1 0).length : Int)) = true := bne_iff_ne.mpr c11
        have c11b2 : ((rd_L9 l1 x7_1).length == (rd_L9 l1 0).length) = false := by first | simpa using c11 | (simp at c11 ⊢; omega)
        simp only [Option.some.injEq, Prod.mk.injEq] at H
        obtain ⟨rfl, rfl⟩ := H
        have p377 : 0 ≤ (0 : Int) := (by omega)
        have q377 : 0 < (l1.length : Int) := dt
        obtain ⟨ad377, A377_0, c377_0, e377, hx377_0, hl377_0, hi377_0⟩ := at_L9 HR1.out 0 p377 q377
        cases e377
        have qi377 : (0 < l1.length) = True := eq_true (by omega)
        (try rw [show ((0 : Int)).toNat = 0 from rfl] at hx377_0)
        (try rw [Addr.add_zero'] at hx377_0)
        replace hx377_0 := cx HB hx377_0
        have HR377_0 := Aside0.mk hi377_0
        have HC377_0 := Aside0.mk hl377_0
        clear hi377_0 hl377_0
        replace p377 := eq_true p377
        replace q377 := eq_true q377
        have p378 : 0 ≤ (x7_1 : Int) := dt
        have q378 : x7_1 < (l1.length : Int) := dt
        obtain ⟨ad378, A378_0, c378_0, e378, hx378_0, hl378_0, hi378_0⟩ := at_L9 HR1.out x7_1 p378 q378
        obtain rfl : ad377 = ad378 := (by injection e378)
        replace hx378_0 := cx HB hx378_0
        have HR378_0 := Aside0.mk hi378_0
        have HC378_0 := Aside0.mk hl378_0
        clear hi378_0 hl378_0
        replace p378 := eq_true p378
        replace q378 := eq_true q378
        go_wp2
        go_ret2
        exact ⟨_, by first | rfl | (simp [errW_none, errW_some] <;> rfl) | (simp [*, errW_none, errW_some] <;> rfl), by first | exact Kd.S_nil _ _ _ _ _ | exact Kd.N_nil _ _ _ _ _ | exact Kd.V_nil _ _ _ _ _ | exact Kd.Q_nil _ _ _ _ _ | exact Kd.R_nil _ _ _ _ _, bl⟩
      ·rw [if_neg c10] at H
       exact absurd H (by simp)
     ·rw [if_neg c9] at H
      exact absurd H (by simp)
    ·rw [if_neg c8] at H
     have c8b0 : decide (x7_1 < (l1.length : Int)) = false := decide_eq_false c8
     clear c8
     have H' := Aside0.mk H
     clear H
     go_wp2
     go_loopg [8, 9] k1 (fun kq v8 v9 w' => ∃ (x8_2 : List (List Int)) (x9_2 : Int), v9 = .int .i64 x9_2 ∧ Aside0 (recoupref21_Run.l1 kq l1 x6_1 x8_2 x9_2 l0_0 l0_1 l0_2 = some (r1, r2)) ∧ Aside0 (kq ≤ k1) ∧ Aside0 (Kd.S (Kd.slice 5 (Kd.int .u8)) 45 w' w.heap.size (fun _ => True) v8 x8_2) ∧ Aside0 (w'.heap[gb375]? = some (.cells #[(.slice A0_0 l0_0.length c0_0), (.slice A0_1 l0_1.length c0_1), (.slice A0_2 l0_2.length c0_2)] 25 (0, 0))) ∧ Aside0 (Below w.heap.size w w'))
     case atStart => exact ⟨(([] : List (List Int))), (0), (by first | rfl | (simp; done) | (simp [*]; done)), H', ⟨Nat.le_refl _⟩, ⟨by first | exact Kd.S_nil _ _ _ _ _ | exact Kd.N_nil _ _ _ _ _ | exact Kd.V_nil _ _ _ _ _ | exact Kd.Q_nil _ _ _ _ _ | exact Kd.R_nil _ _ _ _ _⟩, ⟨bk⟩, ⟨bl⟩⟩
     case round =>
      clear H'
      (try clear c1); (try clear c2); (try clear p2); (try clear c3); (try clear p3); (try clear q3); (try clear hx3); (try clear qi3); (try clear c4); (try clear p6); (try clear c8); (try clear c8b0); (try clear c9); (try clear c9b0); (try clear c9b1); (try clear c10); (try clear c10b0); (try clear c11); (try clear c11b0); (try clear c11b1); (try clear c11b2); (try clear hcz6_0 hcz6_1 hcz6_2 hfz6_0 hfz6_1 hfz6_2); (try clear hx377_0); (try clear hx378_0); (try clear p377); (try clear p378); (try clear q377); (try clear q378)
      obtain ⟨x8_2, x9_2, rfl, HA, HK2, HO_8, BK375, HB⟩ := hrel
      cases gk with
      | zero => exact absurd HA.out (by simp [recoupref21_Run.l1])
      | succ k2 =>
       have H := HA.out
       clear HA
       simp only [recoupref21_Run.l1] at H
       by_cases c12 : x9_2 < (l0_0.length : Int)
       ·rw [if_pos c12] at H
        have c12b0 : decide (x9_2 < (l0_0.length : Int)) = true := decide_eq_true c12
        clear c12
        by_cases c13 : 0 ≤ x9_2
        ·rw [if_pos c13] at H
         have c13b0 : decide (0 ≤ x9_2) = true := decide_eq_true c13
         clear c13
         by_cases c14 : (rd l0_0 x9_2) ≥ (l1.length : Int)
         ·rw [if_pos c14] at H
          have c14b0 : decide ((l1.length : Int) ≤ (rd l0_0 x9_2)) = true := decide_eq_true c14
          clear c14
          simp only [Option.some.injEq, Prod.mk.injEq] at H
          obtain ⟨rfl, rfl⟩ := H
          obtain ⟨⟨hcz15_0, hcz15_1, hcz15_2⟩, hfz15_0, hfz15_1, hfz15_2⟩ := b3 BK375.out
          have p379 : 0 ≤ (x9_2 : Int) := dt
          have q379 : x9_2 < (l0_0.length : Int) := dt
          obtain ⟨ad379, e379, hx379_0⟩ := Kd.at_int HR0_0.out x9_2 p379 q379
          cases e379
          replace hx379_0 := cx HB hx379_0
          replace p379 := eq_true p379
          replace q379 := eq_true q379
          go_wp2
          go_ret2
          exact ⟨_, by first | rfl | (simp [errW_none, errW_some] <;> rfl) | (simp [*, errW_none, errW_some] <;> rfl), by first | exact Kd.S_nil _ _ _ _ _ | exact Kd.N_nil _ _ _ _ _ | exact Kd.V_nil _ _ _ _ _ | exact Kd.Q_nil _ _ _ _ _ | exact Kd.R_nil _ _ _ _ _, bl⟩
         ·rw [if_neg c14] at H
          have c14b0 : decide ((l1.length : Int) ≤ (rd l0_0 x9_2)) = false := decide_eq_false c14
          clear c14
          by_cases c16 : 0 ≤ (rd l0_0 x9_2)
          ·rw [if_pos c16] at H
           have c16b0 : decide (0 ≤ (rd l0_0 x9_2)) = true := decide_eq_true c16
           clear c16
           by_cases c17 : (rd l0_0 x9_2) < (l1.length : Int)
           ·rw [if_pos c17] at H
            have c17b0 : decide ((rd l0_0 x9_2) < (l1.length : Int)) = true := decide_eq_true c17
            clear c17
            replace H := Option.bind_eq_some_iff.mp H
            obtain ⟨t382, A180, H⟩ := H
            replace H : (if x8_2.length < 5864062014805 then (recoupref21_Run.l1 k2 l1 x6_1 (x8_2 ++ [t382]) (wrap64 (x9_2 + 1)) l0_0 l0_1 l0_2) else (none)) = some (r1, r2) := H
            have A18 := Aside0.mk A180
            clear A180
            by_cases c19 : x8_2.length < 5864062014805
            ·rw [if_pos c19] at H
             have LMc19 := Aside0.mk c19
             clear c19
             obtain ⟨y385, hy385⟩ : ∃ y_ : List (List Int), y_ = (x8_2 ++ [t382]) := ⟨_, rfl⟩
             replace H : (recoupref21_Run.l1 k2 l1 x6_1 y385 (wrap64 (x9_2 + 1)) l0_0 l0_1 l0_2) = some (r1, r2) := by first | (rw [hy385]; with_reducible exact H) | (have H2_ := (Option.bind_some _ _).symm.trans H; rw [hy385]; with_reducible exact H2_) | (have H2_ := (Option.bind_some _ _).symm.trans H; with_reducible exact H2_) | with_reducible exact H | (rw [hy385]; exact H) | exact H
             have Ny385 := Aside0.mk hy385
             clear hy385
             have H' := Aside0.mk H
             clear H
             obtain ⟨⟨hcz20_0, hcz20_1, hcz20_2⟩, hfz20_0, hfz20_1, hfz20_2⟩ := b3 BK375.out
             have p379 : 0 ≤ (x9_2 : Int) := dt
             have q379 : x9_2 < (l0_0.length : Int) := dt
             obtain ⟨ad379, e379, hx379_0⟩ := Kd.at_int HR0_0.out x9_2 p379 q379
             cases e379
             replace hx379_0 := cx HB hx379_0
             replace p379 := eq_true p379
             replace q379 := eq_true q379
             have p380 : 0 ≤ (x9_2 : Int) := dt
             have q380 : x9_2 < (l0_0.length : Int) := dt
             obtain ⟨ad380, e380, hx380_0⟩ := Kd.at_int HR0_0.out x9_2 p380 q380
             obtain rfl : ad379 = ad380 := (by injection e380)
             replace hx380_0 := cx HB hx380_0
             replace p380 := eq_true p380
             replace q380 := eq_true q380
             have p381 : 0 ≤ ((rd l0_0 x9_2) : Int) := dt
             have q381 : (rd l0_0 x9_2) < (l1.length : Int) := dt
             obtain ⟨ad381, A381_0, c381_0, e381, hx381_0, hl381_0, hi381_0⟩ := at_L9 HR1.out (rd l0_0 x9_2) p381 q381
             cases e381
             replace hx381_0 := cx HB hx381_0
             have HR381_0 := Aside0.mk hi381_0
             have HC381_0 := Aside0.mk hl381_0
             clear hi381_0 hl381_0
             replace p381 := eq_true p381
             replace q381 := eq_true q381
             go_wp2_with (first | ((with_reducible refine gate_callee (f := 44) rfl ?_); refine goesL_ (some 59) rfl rfl Try.func44 (by kernel_rfl) rfl #[.slice A381_0 (rd_L9 l1 (rd l0_0 x9_2)).length c381_0] rfl (by (try simp only [List.map_toArray, List.map_cons, List.map_nil]); first | done | rfl | (simp only [List.length_drop, List.length_take]; rfl)) ?_; (with_reducible refine (recoupref01_Copy.calls _ _ (rd_L9 l1 (rd l0_0 x9_2)) t382 _ ?side1 ?side2 A18.out).mono ?_); (case side1 => repeat (first | exact (Kd.C_below HR381_0.out HB.out) | (with_reducible refine Kd.C_alloc ?_ _) | (with_reducible refine Kd.C_drewN ?_ _) | (with_reducible refine Kd.C_drew ?_))); (case side2 => exact HC381_0.out); rintro e w21 ⟨v383, rfl, ho0, hb⟩; refine ⟨_, rfl, ?_⟩; have n0_ := Aside0.mk (Kd.S_elder' (kS HO_8) (Kd.R_base ho0) hb); have n1_ := Aside0.mk (Kd.R_lower ho0 (below_size bl)); have n2_ := Aside0.mk (blk_below (g := gb375) (o := .cells #[.slice (some ad379) l0_0.length c0_0, .slice A0_1 l0_1.length c0_1, .slice A0_2 l0_2.length c0_2] 25 (0, 0)) bk hb); have n3_ := Aside0.mk (below_step bl hb); clear HO_8; clear BK375; clear HB; have HO_8 := n0_; have HO384 := n1_; have BK375 := n2_; have HB := n3_; clear n0_ n1_ n2_ n3_; (try clear hb); (try clear hb2); (try clear hk); (try clear hi); (try clear ho0); obtain ⟨Ao23, co23, eo23⟩ := Kd.R_slice HO384.out; subst eo23) | ((with_reducible refine gate_builtin (b := .append) (xs := #[.tmp 50, .tmp 60]) rfl ?_); at_builtin; refine Kd.S_append (Kd.slice 5 (Kd.int .u8)) (w0 := w) w.heap.size rfl (.tmp 50) (.tmp 60) 38 45 (.slice none 0 0) 24 rfl Try.underlying38 info45 rfl (by decide) (by omega) u8 x8_2 t382 [.slice Ao23 t382.length co23] (fun _ => True) (fun k_ => some k_ = (.slice Ao23 t382.length co23 : Value).ownBlock) rfl rfl ?aP (fun k_ hk_ => ((Kd.R_mono (ok' := fun k_ => ((fun _ => True)) k_ ∧ some k_ ≠ (u8 : Value).ownBlock) (Kd.R_apart' (HO384.out) (Kd.S_typed HO_8.out) (by decide)) (fun k_ hk => ⟨trivial, hk.2⟩))).1 k_ hk_.symm) ?aF ?aO ?aB ?aS ?aL ?_; (case aP => exact Kd.M_row (Kd.R_mono (Kd.R_tight rfl (Kd.R_mono (ok' := fun k_ => ((fun _ => True)) k_ ∧ some k_ ≠ (u8 : Value).ownBlock) (Kd.R_apart' (HO384.out) (Kd.S_typed HO_8.out) (by decide)) (fun k_ hk => ⟨trivial, hk.2⟩))) (fun _ h_ => h_))); (case aB => exact bl); (case aF => exact (fun _ _ => trivial)); (case aO => exact (by (with_reducible repeat (first | apply Kd.S_alloc | apply Kd.S_drewN | apply Kd.S_drew)); exact Kd.S_mono HO_8.out (fun k_ hk => ⟨trivial, fun e_ => hk.2 e_⟩))); (case aS => exact (below_size bl)); (case aL => have := LMc19.out; omega); intro v386 w22 ho hb hg hat; rw [← Ny385.out] at ho; have n0_ := Aside0.mk (blk_grown (g := gb375) (o := .cells #[.slice (some ad379) l0_0.length c0_0, .slice A0_1 l0_1.length c0_1, .slice A0_2 l0_2.length c0_2] 25 (0, 0)) bk hg (Kd.S_ne HO_8.out BK375.out (by decide))); have n1_ := Aside0.mk (hb); have n2_ := Aside0.mk (ho); clear BK375; clear HB; clear HO_8; clear HO384; have BK375 := n0_; have HB := n1_; have HO387 := n2_; clear n0_ n1_ n2_; clear ho hb hg hat))
             go_roundg k2
             case measure => have := HK1.out; have := HK2.out; omega
             case rel => exact ⟨(y385), (wrap64 (x9_2 + 1)), (by first | rfl | (simp; done) | (simp [*]; done)), H', ⟨by have := HK1.out; have := HK2.out; omega⟩, ⟨kS HO387⟩, ⟨bk⟩, ⟨bl⟩⟩
            ·rw [if_neg c19] at H
             exact absurd H (by simp)
           ·rw [if_neg c17] at H
            exact absurd H (by simp)
          ·rw [if_neg c16] at H
           exact absurd H (by simp)
        ·rw [if_neg c13] at H
         exact absurd H (by simp)
       ·rw [if_neg c12] at H
        have c12b0 : decide (x9_2 < (l0_0.length : Int)) = false := decide_eq_false c12
        clear c12
        have H' := Aside0.mk H
        clear H
        obtain ⟨⟨hcz24_0, hcz24_1, hcz24_2⟩, hfz24_0, hfz24_1, hfz24_2⟩ := b3 BK375.out
        go_wp2
        go_loopg [8, 10] k2 (fun kq v8 v10 w' => ∃ (x8_3 : List (List Int)) (x10_3 : Int), v10 = .int .i64 x10_3 ∧ Aside0 (recoupref21_Run.l2 kq x6_1 x8_3 x10_3 l0_0 l0_1 l0_2 = some (r1, r2)) ∧ Aside0 (kq ≤ k2) ∧ Aside0 (Kd.S (Kd.slice 5 (Kd.int .u8)) 45 w' w.heap.size (fun _ => True) v8 x8_3) ∧ Aside0 (w'.heap[gb375]? = some (.cells #[(.slice A0_0 l0_0.length c0_0), (.slice A0_1 l0_1.length c0_1), (.slice A0_2 l0_2.length c0_2)] 25 (0, 0))) ∧ Aside0 (Below w.heap.size w w'))
        case atStart => exact ⟨(x8_2), (0), (by first | rfl | (simp; done) | (simp [*]; done)), H', ⟨Nat.le_refl _⟩, ⟨kS HO_8⟩, ⟨bk⟩, ⟨bl⟩⟩
        case round =>
         clear H'
         (try clear c1); (try clear c2); (try clear p2); (try clear c3); (try clear p3); (try clear q3); (try clear hx3); (try clear qi3); (try clear c4); (try clear p6); (try clear c8); (try clear c8b0); (try clear c9); (try clear c9b0); (try clear c9b1); (try clear c10); (try clear c10b0); (try clear c11); (try clear c11b0); (try clear c11b1); (try clear c11b2); (try clear c12); (try clear c12b0); (try clear c13); (try clear c13b0); (try clear c14); (try clear c14b0); (try clear c16); (try clear c16b0); (try clear c17); (try clear c17b0); (try clear c19); (try clear c21); (try clear hcz15_0 hcz15_1 hcz15_2 hfz15_0 hfz15_1 hfz15_2); (try clear hcz20_0 hcz20_1 hcz20_2 hfz20_0 hfz20_1 hfz20_2); (try clear hcz24_0 hcz24_1 hcz24_2 hfz24_0 hfz24_1 hfz24_2); (try clear hcz6_0 hcz6_1 hcz6_2 hfz6_0 hfz6_1 hfz6_2); (try clear hx377_0); (try clear hx378_0); (try clear hx379_0); (try clear hx380_0); (try clear hx381_0); (try clear p377); (try clear p378); (try clear p379); (try clear p380); (try clear p381); (try clear q377); (try clear q378); (try clear q379); (try clear q380); (try clear q381)
         obtain ⟨x8_3, x10_3, rfl, HA, HK3, HO_8, BK375, HB⟩ := hrel
         cases gk with
         | zero => exact absurd HA.out (by simp [recoupref21_Run.l2])
         | succ k3 =>
          have H := HA.out
          clear HA
          simp only [recoupref21_Run.l2] at H
          by_cases c25 : x10_3 < (l0_1.length : Int)
          ·rw [if_pos c25] at H
           have c25b0 : decide (x10_3 < (l0_1.length : Int)) = true := decide_eq_true c25
           clear c25
           by_cases c26 : 0 ≤ x6_1
           ·rw [if_pos c26] at H
            have c26b0 := eq_true c26
            have c26b1 : decide (0 ≤ x6_1) = true := decide_eq_true c26
            clear c26
            by_cases c27 : (x6_1 : Int).toNat ≤ 281474976710656
            ·rw [if_pos c27] at H
             have c27b0 := eq_true c27
             have c27b1 : decide ((x6_1 : Int).toNat ≤ 281474976710656) = true := decide_eq_true c27
             clear c27
             obtain ⟨y388, hy388⟩ : ∃ y_ : List Int, y_ = (List.replicate (x6_1 : Int).toNat 0) := ⟨_, rfl⟩
             replace H : (recoupref21_Run.l3 k3 x6_1 x8_3 x10_3 y388 0 l0_0 l0_1 l0_2) = some (r1, r2) := by first | (rw [hy388]; with_reducible exact H) | (have H2_ := (Option.bind_some _ _).symm.trans H; rw [hy388]; with_reducible exact H2_) | (have H2_ := (Option.bind_some _ _).symm.trans H; with_reducible exact H2_) | with_reducible exact H | (rw [hy388]; exact H) | exact H
             have Ny388 := Aside0.mk hy388
             clear hy388
             have H' := Aside0.mk H
             clear H
             obtain ⟨⟨hcz28_0, hcz28_1, hcz28_2⟩, hfz28_0, hfz28_1, hfz28_2⟩ := b3 BK375.out
             go_wp2_with (first | ((with_reducible refine gate_dst (N := 70) rfl ?_); refine Kd.R_make (Kd.int .u8) _ 5 rfl (N := 70) rfl 45 _ _ rfl x6_1 rfl rfl Try.underlying45 (.int .u8 0) 1 info5 rfl (by decide) (by omega) 0 (ok := fun _ => True) (okp := fun _ => True) rfl (fun _ hk => hk) trivial (dt) (Nat.le_trans (Nat.mul_le_mul_right _ (dt : x6_1.toNat ≤ 281474976710656)) (by omega)) (Below.refl _ _) (Nat.le_refl _) ?_; intro v389 w29 ho30 hb hg_ hnew_; clear hg_ hnew_; (first | rw [← Ny388.out] at ho30 | (simp only [Int.reduceToNat] at ho30; rw [← Ny388.out] at ho30)); have n0_ := Aside0.mk (Kd.S_elder' (kS HO_8) (Kd.R_base ho30) hb); have n1_ := Aside0.mk (Kd.R_lower ho30 (below_size bl)); have n2_ := Aside0.mk (blk_below (g := gb375) (o := .cells #[.slice A0_0 l0_0.length c0_0, .slice A0_1 l0_1.length c0_1, .slice A0_2 l0_2.length c0_2] 25 (0, 0)) bk hb); have n3_ := Aside0.mk (below_step bl hb); clear HO_8; clear BK375; clear HB; have HO_8 := n0_; have HO390 := n1_; have BK375 := n2_; have HB := n3_; clear n0_ n1_ n2_ n3_; clear hb ho30))
             go_loopg [11, 12] k3 (fun kq v11 v12 w' => ∃ (x11_4 : List Int) (x12_4 : Int), v12 = .int .i64 x12_4 ∧ Aside0 (recoupref21_Run.l3 kq x6_1 x8_3 x10_3 x11_4 x12_4 l0_0 l0_1 l0_2 = some (r1, r2)) ∧ Aside0 (kq ≤ k3) ∧ Aside0 (Kd.S (Kd.slice 5 (Kd.int .u8)) 45 w' w.heap.size (fun k_ => some k_ ≠ (v11 : Value).ownBlock) u8 x8_3) ∧ Aside0 (Kd.R (Kd.int .u8) 5 w' w.heap.size (fun _ => True) v11 x11_4) ∧ Aside0 (w'.heap[gb375]? = some (.cells #[(.slice A0_0 l0_0.length c0_0), (.slice A0_1 l0_1.length c0_1), (.slice A0_2 l0_2.length c0_2)] 25 (0, 0))) ∧ Aside0 (Below w.heap.size w w'))
             case atStart => exact ⟨(y388), (0), (by first | rfl | (simp; done) | (simp [*]; done)), H', ⟨Nat.le_refl _⟩, ⟨by (with_reducible repeat (first | apply Kd.S_alloc | apply Kd.S_drewN | apply Kd.S_drew)); exact Kd.S_mono HO_8.out (fun _ hk => hk.2)⟩, ⟨kR HO390⟩, ⟨bk⟩, ⟨bl⟩⟩
             case round =>
              clear H'
              (try clear c1); (try clear c2); (try clear p2); (try clear c3); (try clear p3); (try clear q3); (try clear hx3); (try clear qi3); (try clear c4); (try clear p6); (try clear c8); (try clear c8b0); (try clear c9); (try clear c9b0); (try clear c9b1); (try clear c10); (try clear c10b0); (try clear c11); (try clear c11b0); (try clear c11b1); (try clear c11b2); (try clear c12); (try clear c12b0); (try clear c13); (try clear c13b0); (try clear c14); (try clear c14b0); (try clear c16); (try clear c16b0); (try clear c17); (try clear c17b0); (try clear c19); (try clear c21); (try clear c25); (try clear c25b0); (try clear c26); (try clear c26b0); (try clear c26b1); (try clear c27); (try clear c27b0); (try clear c27b1); (try clear hcz15_0 hcz15_1 hcz15_2 hfz15_0 hfz15_1 hfz15_2); (try clear hcz20_0 hcz20_1 hcz20_2 hfz20_0 hfz20_1 hfz20_2); (try clear hcz24_0 hcz24_1 hcz24_2 hfz24_0 hfz24_1 hfz24_2); (try clear hcz28_0 hcz28_1 hcz28_2 hfz28_0 hfz28_1 hfz28_2); (try clear hcz6_0 hcz6_1 hcz6_2 hfz6_0 hfz6_1 hfz6_2); (try clear hx377_0); (try clear hx378_0); (try clear hx379_0); (try clear hx380_0); (try clear hx381_0); (try clear p377); (try clear p378); (try clear p379); (try clear p380); (try clear p381); (try clear q377); (try clear q378); (try clear q379); (try clear q380); (try clear q381)
              obtain ⟨x11_4, x12_4, rfl, HA, HK4, HO_8, HO_11, BK375, HB⟩ := hrel
              cases gk with
              | zero => exact absurd HA.out (by simp [recoupref21_Run.l3])
              | succ k4 =>
               have H := HA.out
               clear HA
               simp only [recoupref21_Run.l3] at H
               by_cases c31 : 0 ≤ x10_3
               ·rw [if_pos c31] at H
                have c31b0 : decide (0 ≤ x10_3) = true := decide_eq_true c31
                clear c31
                by_cases c32 : x10_3 < (l0_1.length : Int)
                ·rw [if_pos c32] at H
                 have c32b0 : decide (x10_3 < (l0_1.length : Int)) = true := decide_eq_true c32
                 clear c32
                 by_cases c33 : x12_4 < ((rd_L4 l0_1 x10_3).length : Int)
                 ·rw [if_pos c33] at H
                  have c33b0 : decide (x12_4 < ((rd_L4 l0_1 x10_3).length : Int)) = true := decide_eq_true c33
                  clear c33
                  by_cases c34 : 0 ≤ x12_4
                  ·rw [if_pos c34] at H
                   have c34b0 : decide (0 ≤ x12_4) = true := decide_eq_true c34
                   clear c34
                   by_cases c35 : 0 ≤ ((rd_T64 (rd_L4 l0_1 x10_3) x12_4).f0)
                   ·rw [if_pos c35] at H
                    have c35b0 : decide (0 ≤ ((rd_T64 (rd_L4 l0_1 x10_3) x12_4).f0)) = true := decide_eq_true c35
                    clear c35
                    by_cases c36 : ((rd_T64 (rd_L4 l0_1 x10_3) x12_4).f0) < (x8_3.length : Int)
                    ·rw [if_pos c36] at H
                     have c36b0 : decide (((rd_T64 (rd_L4 l0_1 x10_3) x12_4).f0) < (x8_3.length : Int)) = true := decide_eq_true c36
                     clear c36
                     replace H := Option.bind_eq_some_iff.mp H
                     obtain ⟨⟨t397, t398⟩, A370, H⟩ := H
                     replace H : (recoupref21_Run.l3 k4 x6_1 x8_3 x10_3 t397 (wrap64 (x12_4 + 1)) l0_0 l0_1 l0_2) = some (r1, r2) := H
                     have A37 := Aside0.mk A370
                     clear A370
                     have H' := Aside0.mk H
                     clear H
                     obtain ⟨⟨hcz38_0, hcz38_1, hcz38_2⟩, hfz38_0, hfz38_1, hfz38_2⟩ := b3 BK375.out
                     have p391 : 0 ≤ (x10_3 : Int) := dt
                     have q391 : x10_3 < (l0_1.length : Int) := dt
                     obtain ⟨ad391, A391_0, c391_0, e391, hx391_0, hl391_0, hi391_0⟩ := at_L4 HR0_1.out x10_3 p391 q391
                     cases e391
                     replace hx391_0 := cx HB hx391_0
                     have HR391_0 := Aside0.mk hi391_0
                     have HC391_0 := Aside0.mk hl391_0
                     clear hi391_0 hl391_0
                     replace p391 := eq_true p391
                     replace q391 := eq_true q391
                     try go_wp2
                     have n0_ := Aside0.mk (Kd.S_drew HO_8.out)
                     have n1_ := Aside0.mk (Kd.R_drew HO_11.out)
                     have n2_ := Aside0.mk (blk_drew BK375.out)
                     have n3_ := Aside0.mk (below_drew1 HB.out)
                     clear HO_8
                     clear HO_11
                     clear BK375
                     clear HB
                     have HO_8 := n0_
                     have HO_11 := n1_
                     have BK375 := n2_
                     have HB := n3_
                     clear n0_ n1_ n2_ n3_
                     have p392 : 0 ≤ (x10_3 : Int) := dt
                     have q392 : x10_3 < (l0_1.length : Int) := dt
                     obtain ⟨ad392, A392_0, c392_0, e392, hx392_0, hl392_0, hi392_0⟩ := at_L4 HR0_1.out x10_3 p392 q392
                     have hw392_0 := hx392_0
                     obtain rfl : ad391 = ad392 := (by injection e392)
                     replace hx392_0 := cx HB hx392_0
                     have HR392_0 := Aside0.mk hi392_0
                     have HC392_0 := Aside0.mk hl392_0
                     clear hi392_0 hl392_0
                     replace p392 := eq_true p392
                     replace q392 := eq_true q392
                     have p393 : 0 ≤ (x12_4 : Int) := dt
                     have q393 : x12_4 < ((rd_L4 l0_1 x10_3).length : Int) := dt
                     obtain ⟨ad393, e393, hx393_0, hx393_1⟩ := at_T64 HR392_0.out x12_4 p393 q393
                     have hw393_1 := hx393_1
                     have hw393_0 := hx393_0
                     cases e393
                     replace hx393_0 := cx HB hx393_0
                     replace hx393_1 := cx HB hx393_1
                     replace p393 := eq_true p393
                     replace q393 := eq_true q393
                     have p394 : 0 ≤ (x10_3 : Int) := dt
                     have q394 : x10_3 < (l0_1.length : Int) := dt
                     obtain ⟨ad394, A394_0, c394_0, e394, hx394_0, hl394_0, hi394_0⟩ := at_L4 HR0_1.out x10_3 p394 q394
                     have hw394_0 := hx394_0
                     obtain rfl : ad391 = ad394 := (by injection e394)
                     replace hx394_0 := cx HB hx394_0
                     have HR394_0 := Aside0.mk hi394_0
                     have HC394_0 := Aside0.mk hl394_0
                     clear hi394_0 hl394_0
                     replace p394 := eq_true p394
                     replace q394 := eq_true q394
                     have ea_ := Option.some.inj (hx392_0.symm.trans hx394_0)
                     injection ea_ with ea_ en_ ec_
                     subst ea_
                     subst ec_
                     clear en_
                     have p395 : 0 ≤ (x12_4 : Int) := dt
                     have q395 : x12_4 < ((rd_L4 l0_1 x10_3).length : Int) := dt
                     obtain ⟨ad395, e395, hx395_0, hx395_1⟩ := at_T64 HR394_0.out x12_4 p395 q395
                     have hw395_1 := hx395_1
                     have hw395_0 := hx395_0
                     obtain rfl : ad393 = ad395 := (by injection e395)
                     replace hx395_0 := cx HB hx395_0
                     replace hx395_1 := cx HB hx395_1
                     replace p395 := eq_true p395
                     replace q395 := eq_true q395
                     obtain ⟨Ao40, co40, eo40⟩ := Kd.S_slice HO_8.out
                     (first | subst eo40 | (injection eo40 with f1_ f2_ f3_; have f4_ := f1_.symm; have f5_ := f3_.symm; clear f1_ f2_ f3_; subst f4_; subst f5_))
                     have p396 : 0 ≤ (((rd_T64 (rd_L4 l0_1 x10_3) x12_4).f0) : Int) := dt
                     have q396 : ((rd_T64 (rd_L4 l0_1 x10_3) x12_4).f0) < (x8_3.length : Int) := dt
                     obtain ⟨ad396, A396_0, c396_0, e396, hx396_0, hl396_0, hi396_0⟩ := at_L9 (Kd.S_reads' HO_8.out).2.2 ((rd_T64 (rd_L4 l0_1 x10_3) x12_4).f0) p396 q396
                     cases e396
                     obtain ⟨ce396, hce396, hMe396, hcc396⟩ := Kd.S_get HO_8.out [] ((rd_T64 (rd_L4 l0_1 x10_3) x12_4).f0) p396 (by first | exact q396 | exact dt | (have e_ := (Kd.S_reads' HO_8.out).1; omega))
                     obtain ⟨ve396_0, rfl, ge396_0⟩ := hMe396
                     have hv396_0 := hcc396 0 _ rfl
                     rw [Nat.add_zero, show ((Kd.slice 5 (Kd.int .u8))).sz = 1 from rfl, Nat.mul_one] at hv396_0
                     replace hv396_0 := Option.some.inj (hv396_0.symm.trans hx396_0)
                     rw [hv396_0] at ge396_0
                     have HL396_0 := Aside0.mk (show Kd.R (Kd.int .u8) 5 _ _ _ _ (rd_L9 x8_3 ((rd_T64 (rd_L4 l0_1 x10_3) x12_4).f0)) from ge396_0)
                     clear hv396_0 ge396_0
                     clear hcc396 hce396
                     have HR396_0 := Aside0.mk hi396_0
                     have HC396_0 := Aside0.mk hl396_0
                     clear hi396_0 hl396_0
                     replace p396 := eq_true p396
                     replace q396 := eq_true q396
                     obtain ⟨Ao41, co41, eo41⟩ := Kd.R_slice HO_11.out
                     (first | subst eo41 | (injection eo41 with f1_ f2_ f3_; have f4_ := f1_.symm; have f5_ := f3_.symm; clear f1_ f2_ f3_; subst f4_; subst f5_))
                     refine start_ (n := 27) (S := fun w' => w'.cell? ⟨gb375, 0, none⟩ = some (.slice A0_0 l0_0.length c0_0) ∧ w'.cell? ⟨gb375, 1, none⟩ = some (.slice (some ad391) l0_1.length c0_1) ∧ w'.cell? ⟨gb375, 2, none⟩ = some (.slice A0_2 l0_2.length c0_2) ∧ w'.cell? (ad391.add (x10_3).toNat) = some (.slice (some ad393) (rd_L4 l0_1 x10_3).length c392_0) ∧ w'.cell? (ad393.add ((x12_4).toNat * 2)) = some (.int .i64 ((rd_T64 (rd_L4 l0_1 x10_3) x12_4).f0)) ∧ w'.cell? ⟨(ad393.add ((x12_4).toNat * 2)).block, (ad393.add ((x12_4).toNat * 2)).off + 1, none⟩ = some (.int .u8 ((rd_T64 (rd_L4 l0_1 x10_3) x12_4).f1)) ∧ w'.cell? (ad391.add (x10_3).toNat) = some (.slice (some ad393) (rd_L4 l0_1 x10_3).length c392_0) ∧ w'.cell? (ad393.add ((x12_4).toNat * 2)) = some (.int .i64 ((rd_T64 (rd_L4 l0_1 x10_3) x12_4).f0)) ∧ w'.cell? ⟨(ad393.add ((x12_4).toNat * 2)).block, (ad393.add ((x12_4).toNat * 2)).off + 1, none⟩ = some (.int .u8 ((rd_T64 (rd_L4 l0_1 x10_3) x12_4).f1)) ∧ w'.cell? (ad396.add (((rd_T64 (rd_L4 l0_1 x10_3) x12_4).f0)).toNat) = some (.slice A396_0 (rd_L9 x8_3 ((rd_T64 (rd_L4 l0_1 x10_3) x12_4).f0)).length c396_0)) (ds := []) #[false, false, false, false, false, false, false, false, false, false, false, false, false, false, false, false, false, false, false, false, false, false, false, false, false, false, false] (by kernel_rfl) rfl rfl ⟨(blk_cell BK375.out 0).trans rfl, (blk_cell BK375.out 1).trans rfl, (blk_cell BK375.out 2).trans rfl, (cx HB hw392_0), (cx HB hw393_0), (cx HB hw393_1), (cx HB hw394_0), (cx HB hw395_0), (cx HB hw395_1), hx396_0⟩ (fun hHeld => ?_); refine with_tabW recoupref21_Run.tab24 recoupref21_Run.bits24 (fun HT_ HW_ => ?_)
                     generalize wr.drew = w39 at HO_8 HO_11 BK375 HB HL396_0 HR392_0 HR394_0 HR396_0 hx392_0 hx393_0 hx393_1 hx394_0 hx395_0 hx395_1 hx396_0 hHeld ⊢
                     refine pure_ (i := 0) (N := some 82) (v := ?_) (a' := ?_) #[true, false, false, false, false, false, false, false, false, false, false, false, false, false, false, false, false, false, false, false, false, false, false, false, false, false, false] rfl rfl (any_of HT_.out (by kernel_rfl)) (fun _ _ _ h => h) (Or.inl ⟨by rfl, ?_⟩) ?_ ?_
                     rotate_left
                     ·intro w'
                      go_simp
                      with_reducible rfl
                     rotate_left
                     ·simp only [Act.put, List.setIfInBounds_toArray, List.set_cons_zero, List.set_cons_succ, i64_w, i32_w]
                      rfl
                     refine pure_ (i := 1) (N := some 83) (v := ?_) (a' := ?_) #[true, true, false, false, false, false, false, false, false, false, false, false, false, false, false, false, false, false, false, false, false, false, false, false, false, false, false] rfl rfl (any_of HT_.out (by kernel_rfl)) (fun _ _ _ h => h) (Or.inl ⟨by rfl, ?_⟩) ?_ ?_
                     rotate_left
                     ·intro w'
                      go_simp
                      with_reducible rfl
                     rotate_left
                     ·simp only [Act.put, List.setIfInBounds_toArray, List.set_cons_zero, List.set_cons_succ, i64_w, i32_w]
                      rfl
                     refine pure_ (i := 3) (N := some 85) (v := ?_) (a' := ?_) #[true, true, false, true, false, false, false, false, false, false, false, false, false, false, false, false, false, false, false, false, false, false, false, false, false, false, false] rfl rfl (any_of HT_.out (by kernel_rfl)) (fun _ _ _ h => h) (Or.inl ⟨by rfl, ?_⟩) ?_ ?_
                     rotate_left
                     ·intro w'
                      go_simp
                      with_reducible rfl
                     rotate_left
                     ·simp only [Act.put, List.setIfInBounds_toArray, List.set_cons_zero, List.set_cons_succ, i64_w, i32_w]
                      rfl
                     refine pure_ (i := 6) (N := some 88) (v := ?_) (a' := ?_) #[true, true, false, true, false, false, true, false, false, false, false, false, false, false, false, false, false, false, false, false, false, false, false, false, false, false, false] rfl rfl (any_of HT_.out (by kernel_rfl)) (fun _ _ _ h => h) (Or.inl ⟨by rfl, ?_⟩) ?_ ?_
                     rotate_left
                     ·intro w'
                      go_simp
                      with_reducible rfl
                     rotate_left
                     ·simp only [Act.put, List.setIfInBounds_toArray, List.set_cons_zero, List.set_cons_succ, i64_w, i32_w]
                      rfl
                     refine pure_ (i := 10) (N := some 92) (v := ?_) (a' := ?_) #[true, true, false, true, false, false, true, false, false, false, true, false, false, false, false, false, false, false, false, false, false, false, false, false, false, false, false] rfl rfl (any_of HT_.out (by kernel_rfl)) (fun _ _ _ h => h) (Or.inl ⟨by rfl, ?_⟩) ?_ ?_
                     rotate_left
                     ·intro w'
                      go_simp
                      with_reducible rfl
                     rotate_left
                     ·simp only [Act.put, List.setIfInBounds_toArray, List.set_cons_zero, List.set_cons_succ, i64_w, i32_w]
                      rfl
                     refine pure_ (i := 11) (N := some 93) (v := ?_) (a' := ?_) #[true, true, false, true, false, false, true, false, false, false, true, true, false, false, false, false, false, false, false, false, false, false, false, false, false, false, false] rfl rfl (any_of HT_.out (by kernel_rfl)) (fun _ _ _ h => h) (Or.inl ⟨by rfl, ?_⟩) ?_ ?_
                     rotate_left
                     ·intro w'
                      go_simp
                      with_reducible rfl
                     rotate_left
                     ·simp only [Act.put, List.setIfInBounds_toArray, List.set_cons_zero, List.set_cons_succ, i64_w, i32_w]
                      rfl
                     refine pure_ (i := 13) (N := some 95) (v := ?_) (a' := ?_) #[true, true, false, true, false, false, true, false, false, false, true, true, false, true, false, false, false, false, false, false, false, false, false, false, false, false, false] rfl rfl (any_of HT_.out (by kernel_rfl)) (fun _ _ _ h => h) (Or.inl ⟨by rfl, ?_⟩) ?_ ?_
                     rotate_left
                     ·intro w'
                      go_simp
                      with_reducible rfl
                     rotate_left
                     ·simp only [Act.put, List.setIfInBounds_toArray, List.set_cons_zero, List.set_cons_succ, i64_w, i32_w]
                      rfl
                     refine pure_ (i := 16) (N := some 98) (v := ?_) (a' := ?_) #[true, true, false, true, false, false, true, false, false, false, true, true, false, true, false, false, true, false, false, false, false, false, false, false, false, false, false] rfl rfl (any_of HT_.out (by kernel_rfl)) (fun _ _ _ h => h) (Or.inl ⟨by rfl, ?_⟩) ?_ ?_
                     rotate_left
                     ·intro w'
                      go_simp
                      with_reducible rfl
                     rotate_left
                     ·simp only [Act.put, List.setIfInBounds_toArray, List.set_cons_zero, List.set_cons_succ, i64_w, i32_w]
                      rfl
                     refine take_ (i := 2) (N := some 84) (v := ?_) (a' := ?_) #[true, true, true, true, false, false, true, false, false, false, true, true, false, true, false, false, true, false, false, false, false, false, false, false, false, false, false] rfl rfl (take_ofW HT_.out HW_.out (by kernel_rfl)) (fun _ _ _ h => h) (Or.inl ⟨by rfl, ?_⟩) hHeld ?_ ?_
                     rotate_left
                     ·rintro w' ⟨s0, s1, s2, s3, s4, s5, s6, s7, s8, s9⟩
                      go_simp
                      with_reducible rfl
                     rotate_left
                     ·simp only [Act.put, List.setIfInBounds_toArray, List.set_cons_zero, List.set_cons_succ, i64_w, i32_w]
                      rfl
                     refine pure_ (i := 4) (N := some 86) (v := ?_) (a' := ?_) #[true, true, true, true, true, false, true, false, false, false, true, true, false, true, false, false, true, false, false, false, false, false, false, false, false, false, false] rfl rfl (any_of HT_.out (by kernel_rfl)) (fun _ _ _ h => h) (Or.inl ⟨by rfl, ?_⟩) ?_ ?_
                     rotate_left
                     ·intro w'
                      go_simp
                      with_reducible rfl
                     rotate_left
                     ·simp only [Act.put, List.setIfInBounds_toArray, List.set_cons_zero, List.set_cons_succ, i64_w, i32_w]
                      rfl
                     refine take_ (i := 5) (N := some 87) (v := ?_) (a' := ?_) #[true, true, true, true, true, true, true, false, false, false, true, true, false, true, false, false, true, false, false, false, false, false, false, false, false, false, false] rfl rfl (take_ofW HT_.out HW_.out (by kernel_rfl)) (fun _ _ _ h => h) (Or.inl ⟨by rfl, ?_⟩) hHeld ?_ ?_
                     rotate_left
                     ·rintro w' ⟨s0, s1, s2, s3, s4, s5, s6, s7, s8, s9⟩
                      go_simp
                      with_reducible rfl
                     rotate_left
                     ·simp only [Act.put, List.setIfInBounds_toArray, List.set_cons_zero, List.set_cons_succ, i64_w, i32_w]
                      rfl
                     refine pure_ (i := 7) (N := some 89) (v := ?_) (a' := ?_) #[true, true, true, true, true, true, true, true, false, false, true, true, false, true, false, false, true, false, false, false, false, false, false, false, false, false, false] rfl rfl (any_of HT_.out (by kernel_rfl)) (fun _ _ _ h => h) (Or.inl ⟨by rfl, ?_⟩) ?_ ?_
                     rotate_left
                     ·intro w'
                      go_simp
                      with_reducible rfl
                     rotate_left
                     ·simp only [Act.put, List.setIfInBounds_toArray, List.set_cons_zero, List.set_cons_succ, i64_w, i32_w]
                      rfl
                     refine pure_ (i := 8) (N := some 90) (v := ?_) (a' := ?_) #[true, true, true, true, true, true, true, true, true, false, true, true, false, true, false, false, true, false, false, false, false, false, false, false, false, false, false] rfl rfl (any_of HT_.out (by kernel_rfl)) (fun _ _ _ h => h) (Or.inl ⟨by rfl, ?_⟩) ?_ ?_
                     rotate_left
                     ·intro w'
                      go_simp
                      with_reducible rfl
                     rotate_left
                     ·simp only [Act.put, List.setIfInBounds_toArray, List.set_cons_zero, List.set_cons_succ, i64_w, i32_w]
                      rfl
                     refine take_ (i := 9) (N := some 91) (v := ?_) (a' := ?_) #[true, true, true, true, true, true, true, true, true, true, true, true, false, true, false, false, true, false, false, false, false, false, false, false, false, false, false] rfl rfl (take_ofW HT_.out HW_.out (by kernel_rfl)) (fun _ _ _ h => h) (Or.inl ⟨by rfl, ?_⟩) hHeld ?_ ?_
                     rotate_left
                     ·rintro w' ⟨s0, s1, s2, s3, s4, s5, s6, s7, s8, s9⟩
                      go_simp
                      with_reducible rfl
                     rotate_left
                     ·simp only [Act.put, List.setIfInBounds_toArray, List.set_cons_zero, List.set_cons_succ, i64_w, i32_w]
                      rfl
                     refine take_ (i := 12) (N := some 94) (v := ?_) (a' := ?_) #[true, true, true, true, true, true, true, true, true, true, true, true, true, true, false, false, true, false, false, false, false, false, false, false, false, false, false] rfl rfl (take_ofW HT_.out HW_.out (by kernel_rfl)) (fun _ _ _ h => h) (Or.inl ⟨by rfl, ?_⟩) hHeld ?_ ?_
                     rotate_left
                     ·rintro w' ⟨s0, s1, s2, s3, s4, s5, s6, s7, s8, s9⟩
                      go_simp
                      with_reducible rfl
                     rotate_left
                     ·simp only [Act.put, List.setIfInBounds_toArray, List.set_cons_zero, List.set_cons_succ, i64_w, i32_w]
                      rfl
                     refine pure_ (i := 14) (N := some 96) (v := ?_) (a' := ?_) #[true, true, true, true, true, true, true, true, true, true, true, true, true, true, true, false, true, false, false, false, false, false, false, false, false, false, false] rfl rfl (any_of HT_.out (by kernel_rfl)) (fun _ _ _ h => h) (Or.inl ⟨by rfl, ?_⟩) ?_ ?_
                     rotate_left
                     ·intro w'
                      go_simp
                      with_reducible rfl
                     rotate_left
                     ·simp only [Act.put, List.setIfInBounds_toArray, List.set_cons_zero, List.set_cons_succ, i64_w, i32_w]
                      rfl
                     refine take_ (i := 15) (N := some 97) (v := ?_) (a' := ?_) #[true, true, true, true, true, true, true, true, true, true, true, true, true, true, true, true, true, false, false, false, false, false, false, false, false, false, false] rfl rfl (take_ofW HT_.out HW_.out (by kernel_rfl)) (fun _ _ _ h => h) (Or.inl ⟨by rfl, ?_⟩) hHeld ?_ ?_
                     rotate_left
                     ·rintro w' ⟨s0, s1, s2, s3, s4, s5, s6, s7, s8, s9⟩
                      go_simp
                      with_reducible rfl
                     rotate_left
                     ·simp only [Act.put, List.setIfInBounds_toArray, List.set_cons_zero, List.set_cons_succ, i64_w, i32_w]
                      rfl
                     refine pure_ (i := 17) (N := some 99) (v := ?_) (a' := ?_) #[true, true, true, true, true, true, true, true, true, true, true, true, true, true, true, true, true, true, false, false, false, false, false, false, false, false, false] rfl rfl (any_of HT_.out (by kernel_rfl)) (fun _ _ _ h => h) (Or.inl ⟨by rfl, ?_⟩) ?_ ?_
                     rotate_left
                     ·intro w'
                      go_simp
                      with_reducible rfl
                     rotate_left
                     ·simp only [Act.put, List.setIfInBounds_toArray, List.set_cons_zero, List.set_cons_succ, i64_w, i32_w]
                      rfl
                     refine pure_ (i := 18) (N := some 100) (v := ?_) (a' := ?_) #[true, true, true, true, true, true, true, true, true, true, true, true, true, true, true, true, true, true, true, false, false, false, false, false, false, false, false] rfl rfl (any_of HT_.out (by kernel_rfl)) (fun _ _ _ h => h) (Or.inl ⟨by rfl, ?_⟩) ?_ ?_
                     rotate_left
                     ·intro w'
                      go_simp
                      with_reducible rfl
                     rotate_left
                     ·simp only [Act.put, List.setIfInBounds_toArray, List.set_cons_zero, List.set_cons_succ, i64_w, i32_w]
                      rfl
                     refine take_ (i := 19) (N := some 101) (v := ?_) (a' := ?_) #[true, true, true, true, true, true, true, true, true, true, true, true, true, true, true, true, true, true, true, true, false, false, false, false, false, false, false] rfl rfl (take_ofW HT_.out HW_.out (by kernel_rfl)) (fun _ _ _ h => h) (Or.inl ⟨by rfl, ?_⟩) hHeld ?_ ?_
                     rotate_left
                     ·rintro w' ⟨s0, s1, s2, s3, s4, s5, s6, s7, s8, s9⟩
                      go_simp
                      with_reducible rfl
                     rotate_left
                     ·simp only [Act.put, List.setIfInBounds_toArray, List.set_cons_zero, List.set_cons_succ, i64_w, i32_w]
                      rfl
                     refine pure_ (i := 20) (N := some 102) (v := ?_) (a' := ?_) #[true, true, true, true, true, true, true, true, true, true, true, true, true, true, true, true, true, true, true, true, true, false, false, false, false, false, false] rfl rfl (any_of HT_.out (by kernel_rfl)) (fun _ _ _ h => h) (Or.inl ⟨by rfl, ?_⟩) ?_ ?_
                     rotate_left
                     ·intro w'
                      go_simp
                      with_reducible rfl
                     rotate_left
                     ·simp only [Act.put, List.setIfInBounds_toArray, List.set_cons_zero, List.set_cons_succ, i64_w, i32_w]
                      rfl
                     refine take_ (i := 21) (N := some 103) (v := ?_) (a' := ?_) #[true, true, true, true, true, true, true, true, true, true, true, true, true, true, true, true, true, true, true, true, true, true, false, false, false, false, false] rfl rfl (take_ofW HT_.out HW_.out (by kernel_rfl)) (fun _ _ _ h => h) (Or.inl ⟨by rfl, ?_⟩) hHeld ?_ ?_
                     rotate_left
                     ·rintro w' ⟨s0, s1, s2, s3, s4, s5, s6, s7, s8, s9⟩
                      go_simp
                      with_reducible rfl
                     rotate_left
                     ·simp only [Act.put, List.setIfInBounds_toArray, List.set_cons_zero, List.set_cons_succ, i64_w, i32_w]
                      rfl
                     refine one_ (i := 22) (N := some 104) #[true, true, true, true, true, true, true, true, true, true, true, true, true, true, true, true, true, true, true, true, true, true, true, false, false, false, false] rfl rfl (one_of HT_.out (by kernel_rfl)) (by decide) (fun K hK => ?_)
                     refine goes_ Try.func45 (by kernel_rfl) rfl #[.slice Ao41 x11_4.length co41, .int .u8 ((rd_T64 (rd_L4 l0_1 x10_3) x12_4).f1), .slice A396_0 (rd_L9 x8_3 ((rd_T64 (rd_L4 l0_1 x10_3) x12_4).f0)).length c396_0] (by rfl) rfl rfl (by (try simp only [List.map_toArray, List.map_cons, List.map_nil]); first | done | rfl | (simp only [List.length_drop, List.length_take]; rfl)) ?_
                     with_reducible refine (recoupref01_Mac.calls k4 _ _ x11_4 ((rd_T64 (rd_L4 l0_1 x10_3) x12_4).f1) _ _ (rd_L9 x8_3 ((rd_T64 (rd_L4 l0_1 x10_3) x12_4).f0)) t397 t398 _ ?side1 ?side2 ?side3 ?side4 A37.out).mono ?_
                     (case side1 => repeat (first | exact (Kd.R_reads' HO_11.out).2.2 | (with_reducible refine Kd.C_alloc ?_ _) | (with_reducible refine Kd.C_drewN ?_ _) | (with_reducible refine Kd.C_drew ?_)))
                     (case side2 => exact (Kd.R_reads' HO_11.out).2.1)
                     (case side3 => repeat (first | exact (by repeat (first | (with_reducible exact HR396_0.out) | (with_reducible refine Kd.C_alloc ?_ _) | (with_reducible refine Kd.C_drewN ?_ _) | (with_reducible refine Kd.C_drew ?_) | exact HR396_0.out)) | (with_reducible refine Kd.C_alloc ?_ _) | (with_reducible refine Kd.C_drewN ?_ _) | (with_reducible refine Kd.C_drew ?_)))
                     (case side4 => exact HC396_0.out)
                     rintro e w42 ⟨v399, rfl, ho0, hb⟩
                     have HS9_ := (hb.cell (World.block_lt_of_cell? _ _ (hHeld.2.2.2.2.2.2.2.2.2))).trans (hHeld.2.2.2.2.2.2.2.2.2)
                     refine ⟨_, rfl, ?_⟩
                     have n0_ := Aside0.mk (Kd.S_elder' (kS HO_8) (Kd.R_base ho0) hb)
                     have n1_ := Aside0.mk (Kd.R_elder' (kR HO_11) (Kd.R_base ho0) hb)
                     have n2_ := Aside0.mk (Kd.R_elder' (kR HL396_0) (Kd.R_base ho0) hb)
                     have n3_ := Aside0.mk (Kd.R_lower (Kd.R_new' (Kd.R_new' ho0 (Kd.R_lt (kR HO_11))) (Kd.R_lt (kR HL396_0))) (below_size bl))
                     have n4_ := Aside0.mk (blk_below (g := gb375) (o := .cells #[.slice A0_0 l0_0.length c0_0, .slice (some ad391) l0_1.length c0_1, .slice A0_2 l0_2.length c0_2] 25 (0, 0)) bk hb)
                     have n5_ := Aside0.mk (Kd.C_below (by repeat (first | (with_reducible exact HR396_0.out) | (with_reducible refine Kd.C_alloc ?_ _) | (with_reducible refine Kd.C_drewN ?_ _) | (with_reducible refine Kd.C_drew ?_) | exact HR396_0.out)) hb)
                     have n6_ := Aside0.mk (below_step bl hb)
                     clear HO_8
                     clear HO_11
                     clear HL396_0
                     clear BK375
                     clear HR396_0
                     clear HB
                     have HO_8 := n0_
                     have HO_11 := n1_
                     have HL396_0 := n2_
                     have HO400 := n3_
                     have BK375 := n4_
                     have HR396_0 := n5_
                     have HB := n6_
                     clear n0_ n1_ n2_ n3_ n4_ n5_ n6_
                     (try clear hb)
                     (try clear hb2)
                     (try clear hk)
                     (try clear hi)
                     (try clear ho0)
                     refine hK.out _ _ ⟨(blk_cell BK375.out 0).trans rfl, (blk_cell BK375.out 1).trans rfl, (blk_cell BK375.out 2).trans rfl, (cx HB hw392_0), (cx HB hw393_0), (cx HB hw393_1), (cx HB hw394_0), (cx HB hw395_0), (cx HB hw395_1), HS9_⟩ (fun hHeld => ?_)
                     clear hK K
                     refine norm_ (a' := ?_) ?_ ?_
                     rotate_left
                     ·show Act.put _ (some 104) _ = _
                      simp only [Act.put, List.setIfInBounds_toArray, List.set_cons_zero, List.set_cons_succ, i64_w, i32_w]
                      rfl
                     refine pure_ (i := 23) (N := some 81) (v := ?_) (a' := ?_) #[true, true, true, true, true, true, true, true, true, true, true, true, true, true, true, true, true, true, true, true, true, true, true, true, false, false, false] rfl rfl (any_of HT_.out (by kernel_rfl)) (fun _ _ _ h => h) (Or.inl ⟨by rfl, ?_⟩) ?_ ?_
                     rotate_left
                     ·intro w'
                      go_simp
                      with_reducible rfl
                     rotate_left
                     ·simp only [Act.put, List.setIfInBounds_toArray, List.set_cons_zero, List.set_cons_succ, i64_w, i32_w]
                      rfl
                     refine pure_ (i := 24) (N := some 105) (v := ?_) (a' := ?_) #[true, true, true, true, true, true, true, true, true, true, true, true, true, true, true, true, true, true, true, true, true, true, true, true, true, false, false] rfl rfl (any_of HT_.out (by kernel_rfl)) (fun _ _ _ h => h) (Or.inl ⟨by rfl, ?_⟩) ?_ ?_
                     rotate_left
                     ·intro w'
                      go_simp
                      with_reducible rfl
                     rotate_left
                     ·simp only [Act.put, List.setIfInBounds_toArray, List.set_cons_zero, List.set_cons_succ, i64_w, i32_w]
                      rfl
                     refine pure_ (i := 25) (N := some 106) (v := ?_) (a' := ?_) #[true, true, true, true, true, true, true, true, true, true, true, true, true, true, true, true, true, true, true, true, true, true, true, true, true, true, false] rfl rfl (any_of HT_.out (by kernel_rfl)) (fun _ _ _ h => h) (Or.inl ⟨by rfl, ?_⟩) ?_ ?_
                     rotate_left
                     ·intro w'
                      go_simp
                      with_reducible rfl
                     rotate_left
                     ·simp only [Act.put, List.setIfInBounds_toArray, List.set_cons_zero, List.set_cons_succ, i64_w, i32_w]
                      rfl
                     refine pure_ (i := 26) (N := some 11) (v := ?_) (a' := ?_) #[true, true, true, true, true, true, true, true, true, true, true, true, true, true, true, true, true, true, true, true, true, true, true, true, true, true, true] rfl rfl (any_of HT_.out (by kernel_rfl)) (fun _ _ _ h => h) (Or.inl ⟨by rfl, ?_⟩) ?_ ?_
                     rotate_left
                     ·intro w'
                      go_simp
                      with_reducible rfl
                     rotate_left
                     ·simp only [Act.put, List.setIfInBounds_toArray, List.set_cons_zero, List.set_cons_succ, i64_w, i32_w]
                      rfl
                     refine done_ (done_of HT_.out (by kernel_rfl)) ?_
                     try go_wp2
                     go_roundg k4
                     case measure => have := HK1.out; have := HK2.out; have := HK3.out; have := HK4.out; omega
                     case rel => exact ⟨(t397), (wrap64 (x12_4 + 1)), (by first | rfl | (simp; done) | (simp [*]; done)), H', ⟨by have := HK1.out; have := HK2.out; have := HK3.out; have := HK4.out; omega⟩, ⟨by (with_reducible repeat (first | apply Kd.S_alloc | apply Kd.S_drewN | apply Kd.S_drew)); exact Kd.S_mono HO_8.out (fun _ hk => hk.2)⟩, ⟨by (with_reducible repeat (first | apply Kd.R_alloc | apply Kd.R_drewN | apply Kd.R_drew)); exact Kd.R_mono HO400.out (fun _ hk => trivial)⟩, ⟨bk⟩, ⟨bl⟩⟩
                    ·rw [if_neg c36] at H
                     exact absurd H (by simp)
                   ·rw [if_neg c35] at H
                    exact absurd H (by simp)
                  ·rw [if_neg c34] at H
                   exact absurd H (by simp)
                 ·rw [if_neg c33] at H
                  have c33b0 : decide (x12_4 < ((rd_L4 l0_1 x10_3).length : Int)) = false := decide_eq_false c33
                  clear c33
                  by_cases c43 : x8_3.length < 5864062014805
                  ·rw [if_pos c43] at H
                   have LMc43 := Aside0.mk c43
                   clear c43
                   obtain ⟨y401, hy401⟩ : ∃ y_ : List (List Int), y_ = (x8_3 ++ [x11_4]) := ⟨_, rfl⟩
                   replace H : (recoupref21_Run.l2 k4 x6_1 y401 (wrap64 (x10_3 + 1)) l0_0 l0_1 l0_2) = some (r1, r2) := by first | (rw [hy401]; with_reducible exact H) | (have H2_ := (Option.bind_some _ _).symm.trans H; rw [hy401]; with_reducible exact H2_) | (have H2_ := (Option.bind_some _ _).symm.trans H; with_reducible exact H2_) | with_reducible exact H | (rw [hy401]; exact H) | exact H
                   have Ny401 := Aside0.mk hy401
                   clear hy401
                   have H' := Aside0.mk H
                   clear H
                   obtain ⟨⟨hcz44_0, hcz44_1, hcz44_2⟩, hfz44_0, hfz44_1, hfz44_2⟩ := b3 BK375.out
                   have p391 : 0 ≤ (x10_3 : Int) := dt
                   have q391 : x10_3 < (l0_1.length : Int) := dt
                   obtain ⟨ad391, A391_0, c391_0, e391, hx391_0, hl391_0, hi391_0⟩ := at_L4 HR0_1.out x10_3 p391 q391
                   cases e391
                   replace hx391_0 := cx HB hx391_0
                   have HR391_0 := Aside0.mk hi391_0
                   have HC391_0 := Aside0.mk hl391_0
                   clear hi391_0 hl391_0
                   replace p391 := eq_true p391
                   replace q391 := eq_true q391
                   obtain ⟨Ao46, co46, eo46⟩ := Kd.R_slice HO_11.out
                   subst eo46
                   go_wp2_with (first | ((with_reducible refine gate_builtin (b := .append) (xs := #[.tmp 107, .tmp 109]) rfl ?_); at_builtin; refine Kd.S_append (Kd.slice 5 (Kd.int .u8)) (w0 := w) w.heap.size rfl (.tmp 107) (.tmp 109) 38 45 (.slice none 0 0) 24 rfl Try.underlying38 info45 rfl (by decide) (by omega) u8 x8_3 x11_4 [.slice Ao46 x11_4.length co46] (fun _ => True) (fun k_ => some k_ = (.slice Ao46 x11_4.length co46 : Value).ownBlock) rfl rfl ?aP (fun k_ hk_ => ((Kd.R_mono (ok' := fun k_ => ((fun _ => True)) k_ ∧ some k_ ≠ (u8 : Value).ownBlock) (Kd.R_apart' (HO_11.out) (Kd.S_typed HO_8.out) (by decide)) (fun k_ hk => ⟨trivial, hk.2⟩))).1 k_ hk_.symm) ?aF ?aO ?aB ?aS ?aL ?_; (case aP => exact Kd.M_row (Kd.R_mono (Kd.R_tight rfl (Kd.R_mono (ok' := fun k_ => ((fun _ => True)) k_ ∧ some k_ ≠ (u8 : Value).ownBlock) (Kd.R_apart' (HO_11.out) (Kd.S_typed HO_8.out) (by decide)) (fun k_ hk => ⟨trivial, hk.2⟩))) (fun _ h_ => h_))); (case aB => exact bl); (case aF => exact (fun _ _ => trivial)); (case aO => exact (by (with_reducible repeat (first | apply Kd.S_alloc | apply Kd.S_drewN | apply Kd.S_drew)); exact Kd.S_mono HO_8.out (fun k_ hk => ⟨trivial, fun e_ => hk e_⟩))); (case aS => exact (below_size bl)); (case aL => have := LMc43.out; omega); intro v402 w45 ho hb hg hat; rw [← Ny401.out] at ho; have n0_ := Aside0.mk (blk_grown (g := gb375) (o := .cells #[.slice A0_0 l0_0.length c0_0, .slice (some ad391) l0_1.length c0_1, .slice A0_2 l0_2.length c0_2] 25 (0, 0)) bk hg (Kd.S_ne HO_8.out BK375.out (by decide))); have n1_ := Aside0.mk (hb); have n2_ := Aside0.mk (ho); clear BK375; clear HB; clear HO_8; clear HO_11; have BK375 := n0_; have HB := n1_; have HO403 := n2_; clear n0_ n1_ n2_; clear ho hb hg hat))
                   go_roundg k4
                   case measure => have := HK1.out; have := HK2.out; have := HK3.out; have := HK4.out; omega
                   case rel => exact ⟨(y401), (wrap64 (x10_3 + 1)), (by first | rfl | (simp; done) | (simp [*]; done)), H', ⟨by have := HK1.out; have := HK2.out; have := HK3.out; have := HK4.out; omega⟩, ⟨kS HO403⟩, ⟨bk⟩, ⟨bl⟩⟩
                  ·rw [if_neg c43] at H
                   exact absurd H (by simp)
                ·rw [if_neg c32] at H
                 exact absurd H (by simp)
               ·rw [if_neg c31] at H
                exact absurd H (by simp)
            ·rw [if_neg c27] at H
             exact absurd H (by simp)
           ·rw [if_neg c26] at H
            exact absurd H (by simp)
          ·rw [if_neg c25] at H
           have c25b0 : decide (x10_3 < (l0_1.length : Int)) = false := decide_eq_false c25
           clear c25
           have H' := Aside0.mk H
           clear H
           obtain ⟨⟨hcz47_0, hcz47_1, hcz47_2⟩, hfz47_0, hfz47_1, hfz47_2⟩ := b3 BK375.out
           go_wp2
           go_loopg [13, 14] k3 (fun kq v13 v14 w' => ∃ (x13_4 : List (List Int)) (x14_4 : Int), v14 = .int .i64 x14_4 ∧ Aside0 (recoupref21_Run.l4 kq x8_3 x13_4 x14_4 l0_0 l0_1 l0_2 = some (r1, r2)) ∧ Aside0 (kq ≤ k3) ∧ Aside0 (Kd.S (Kd.slice 5 (Kd.int .u8)) 45 w' w.heap.size (fun k_ => some k_ ≠ (v13 : Value).ownBlock) u8 x8_3) ∧ Aside0 (Kd.S (Kd.slice 5 (Kd.int .u8)) 45 w' w.heap.size (fun k_ => some k_ ≠ (u8 : Value).ownBlock) v13 x13_4) ∧ Aside0 (w'.heap[gb375]? = some (.cells #[(.slice A0_0 l0_0.length c0_0), (.slice A0_1 l0_1.length c0_1), (.slice A0_2 l0_2.length c0_2)] 25 (0, 0))) ∧ Aside0 (Below w.heap.size w w'))
           case atStart => exact ⟨(([] : List (List Int))), (0), (by first | rfl | (simp; done) | (simp [*]; done)), H', ⟨Nat.le_refl _⟩, ⟨by (with_reducible repeat (first | apply Kd.S_alloc | apply Kd.S_drewN | apply Kd.S_drew)); exact Kd.S_mono HO_8.out (fun _ hk => (by simp [Value.ownBlock]))⟩, ⟨by first | exact Kd.S_nil _ _ _ _ _ | exact Kd.N_nil _ _ _ _ _ | exact Kd.V_nil _ _ _ _ _ | exact Kd.Q_nil _ _ _ _ _ | exact Kd.R_nil _ _ _ _ _⟩, ⟨bk⟩, ⟨bl⟩⟩
           case round =>
            clear H'
            (try clear c1); (try clear c2); (try clear p2); (try clear c3); (try clear p3); (try clear q3); (try clear hx3); (try clear qi3); (try clear c4); (try clear p6); (try clear c8); (try clear c8b0); (try clear c9); (try clear c9b0); (try clear c9b1); (try clear c10); (try clear c10b0); (try clear c11); (try clear c11b0); (try clear c11b1); (try clear c11b2); (try clear c12); (try clear c12b0); (try clear c13); (try clear c13b0); (try clear c14); (try clear c14b0); (try clear c16); (try clear c16b0); (try clear c17); (try clear c17b0); (try clear c19); (try clear c21); (try clear c25); (try clear c25b0); (try clear c26); (try clear c26b0); (try clear c26b1); (try clear c27); (try clear c27b0); (try clear c27b1); (try clear c31); (try clear c31b0); (try clear c32); (try clear c32b0); (try clear c33); (try clear c33b0); (try clear c34); (try clear c34b0); (try clear c35); (try clear c35b0); (try clear c36); (try clear c36b0); (try clear p37); (try clear q37); (try clear hx37); (try clear p38); (try clear q38); (try clear hx38); (try clear c39); (try clear p39); (try clear q39); (try clear hx39); (try clear c43); (try clear c45); (try clear hcz15_0 hcz15_1 hcz15_2 hfz15_0 hfz15_1 hfz15_2); (try clear hcz20_0 hcz20_1 hcz20_2 hfz20_0 hfz20_1 hfz20_2); (try clear hcz24_0 hcz24_1 hcz24_2 hfz24_0 hfz24_1 hfz24_2); (try clear hcz28_0 hcz28_1 hcz28_2 hfz28_0 hfz28_1 hfz28_2); (try clear hcz38_0 hcz38_1 hcz38_2 hfz38_0 hfz38_1 hfz38_2); (try clear hcz44_0 hcz44_1 hcz44_2 hfz44_0 hfz44_1 hfz44_2); (try clear hcz47_0 hcz47_1 hcz47_2 hfz47_0 hfz47_1 hfz47_2); (try clear hcz6_0 hcz6_1 hcz6_2 hfz6_0 hfz6_1 hfz6_2); (try clear hx377_0); (try clear hx378_0); (try clear hx379_0); (try clear hx380_0); (try clear hx381_0); (try clear hx391_0); (try clear hx392_0); (try clear hx393_0); (try clear hx393_1); (try clear hx394_0); (try clear hx395_0); (try clear hx395_1); (try clear hx396_0); (try clear p377); (try clear p378); (try clear p379); (try clear p380); (try clear p381); (try clear p391); (try clear p392); (try clear p393); (try clear p394); (try clear p395); (try clear p396); (try clear q377); (try clear q378); (try clear q379); (try clear q380); (try clear q381); (try clear q391); (try clear q392); (try clear q393); (try clear q394); (try clear q395); (try clear q396)
            obtain ⟨x13_4, x14_4, rfl, HA, HK4, HO_8, HO_13, BK375, HB⟩ := hrel
            cases gk with
            | zero => exact absurd HA.out (by simp [recoupref21_Run.l4])
            | succ k4 =>
             have H := HA.out
             clear HA
             simp only [recoupref21_Run.l4] at H
             by_cases c48 : x14_4 < (l0_2.length : Int)
             ·rw [if_pos c48] at H
              have c48b0 : decide (x14_4 < (l0_2.length : Int)) = true := decide_eq_true c48
              clear c48
              by_cases c49 : 0 ≤ x14_4
              ·rw [if_pos c49] at H
               have c49b0 : decide (0 ≤ x14_4) = true := decide_eq_true c49
               clear c49
               by_cases c50 : 0 ≤ (rd l0_2 x14_4)
               ·rw [if_pos c50] at H
                have c50b0 : decide (0 ≤ (rd l0_2 x14_4)) = true := decide_eq_true c50
                clear c50
                by_cases c51 : (rd l0_2 x14_4) < (x8_3.length : Int)
                ·rw [if_pos c51] at H
                 have c51b0 : decide ((rd l0_2 x14_4) < (x8_3.length : Int)) = true := decide_eq_true c51
                 clear c51
                 replace H := Option.bind_eq_some_iff.mp H
                 obtain ⟨t406, A520, H⟩ := H
                 replace H : (if x13_4.length < 5864062014805 then (recoupref21_Run.l4 k4 x8_3 (x13_4 ++ [t406]) (wrap64 (x14_4 + 1)) l0_0 l0_1 l0_2) else (none)) = some (r1, r2) := H
                 have A52 := Aside0.mk A520
                 clear A520
                 by_cases c53 : x13_4.length < 5864062014805
                 ·rw [if_pos c53] at H
                  have LMc53 := Aside0.mk c53
                  clear c53
                  obtain ⟨y409, hy409⟩ : ∃ y_ : List (List Int), y_ = (x13_4 ++ [t406]) := ⟨_, rfl⟩
                  replace H : (recoupref21_Run.l4 k4 x8_3 y409 (wrap64 (x14_4 + 1)) l0_0 l0_1 l0_2) = some (r1, r2) := by first | (rw [hy409]; with_reducible exact H) | (have H2_ := (Option.bind_some _ _).symm.trans H; rw [hy409]; with_reducible exact H2_) | (have H2_ := (Option.bind_some _ _).symm.trans H; with_reducible exact H2_) | with_reducible exact H | (rw [hy409]; exact H) | exact H
                  have Ny409 := Aside0.mk hy409
                  clear hy409
                  have H' := Aside0.mk H
                  clear H
                  obtain ⟨⟨hcz54_0, hcz54_1, hcz54_2⟩, hfz54_0, hfz54_1, hfz54_2⟩ := b3 BK375.out
                  have p404 : 0 ≤ (x14_4 : Int) := dt
                  have q404 : x14_4 < (l0_2.length : Int) := dt
                  obtain ⟨ad404, e404, hx404_0⟩ := Kd.at_int HR0_2.out x14_4 p404 q404
                  cases e404
                  replace hx404_0 := cx HB hx404_0
                  replace p404 := eq_true p404
                  replace q404 := eq_true q404
                  obtain ⟨Ao55, co55, eo55⟩ := Kd.S_slice HO_8.out
                  subst eo55
                  have p405 : 0 ≤ ((rd l0_2 x14_4) : Int) := dt
                  have q405 : (rd l0_2 x14_4) < (x8_3.length : Int) := dt
                  obtain ⟨ad405, A405_0, c405_0, e405, hx405_0, hl405_0, hi405_0⟩ := at_L9 (Kd.S_reads' HO_8.out).2.2 (rd l0_2 x14_4) p405 q405
                  cases e405
                  obtain ⟨ce405, hce405, hMe405, hcc405⟩ := Kd.S_get HO_8.out [] (rd l0_2 x14_4) p405 (by first | exact q405 | exact dt | (have e_ := (Kd.S_reads' HO_8.out).1; omega))
                  obtain ⟨ve405_0, rfl, ge405_0⟩ := hMe405
                  have hv405_0 := hcc405 0 _ rfl
                  rw [Nat.add_zero, show ((Kd.slice 5 (Kd.int .u8))).sz = 1 from rfl, Nat.mul_one] at hv405_0
                  replace hv405_0 := Option.some.inj (hv405_0.symm.trans hx405_0)
                  rw [hv405_0] at ge405_0
                  have HL405_0 := Aside0.mk (show Kd.R (Kd.int .u8) 5 _ _ _ _ (rd_L9 x8_3 (rd l0_2 x14_4)) from ge405_0)
                  clear hv405_0 ge405_0
                  clear hcc405 hce405
                  have HR405_0 := Aside0.mk hi405_0
                  have HC405_0 := Aside0.mk hl405_0
                  clear hi405_0 hl405_0
                  replace p405 := eq_true p405
                  replace q405 := eq_true q405
                  go_wp2_with (first | ((with_reducible refine gate_callee (f := 44) rfl ?_); refine goesL_ (some 127) rfl rfl Try.func44 (by kernel_rfl) rfl #[.slice A405_0 (rd_L9 x8_3 (rd l0_2 x14_4)).length c405_0] rfl (by (try simp only [List.map_toArray, List.map_cons, List.map_nil]); first | done | rfl | (simp only [List.length_drop, List.length_take]; rfl)) ?_; (with_reducible refine (recoupref01_Copy.calls _ _ (rd_L9 x8_3 (rd l0_2 x14_4)) t406 _ ?side1 ?side2 A52.out).mono ?_); (case side1 => repeat (first | exact (by repeat (first | (with_reducible exact HR405_0.out) | (with_reducible refine Kd.C_alloc ?_ _) | (with_reducible refine Kd.C_drewN ?_ _) | (with_reducible refine Kd.C_drew ?_) | exact HR405_0.out)) | (with_reducible refine Kd.C_alloc ?_ _) | (with_reducible refine Kd.C_drewN ?_ _) | (with_reducible refine Kd.C_drew ?_))); (case side2 => exact HC405_0.out); rintro e w56 ⟨v407, rfl, ho0, hb⟩; refine ⟨_, rfl, ?_⟩; have n0_ := Aside0.mk (Kd.S_elder' (kS HO_8) (Kd.R_base ho0) hb); have n1_ := Aside0.mk (Kd.S_elder' (kS HO_13) (Kd.R_base ho0) hb); have n2_ := Aside0.mk (Kd.R_elder' (kR HL405_0) (Kd.R_base ho0) hb); have n3_ := Aside0.mk (Kd.R_lower (Kd.R_new' ho0 (Kd.R_lt (kR HL405_0))) (below_size bl)); have n4_ := Aside0.mk (blk_below (g := gb375) (o := .cells #[.slice A0_0 l0_0.length c0_0, .slice A0_1 l0_1.length c0_1, .slice (some ad404) l0_2.length c0_2] 25 (0, 0)) bk hb); have n5_ := Aside0.mk (Kd.C_below (by repeat (first | (with_reducible exact HR405_0.out) | (with_reducible refine Kd.C_alloc ?_ _) | (with_reducible refine Kd.C_drewN ?_ _) | (with_reducible refine Kd.C_drew ?_) | exact HR405_0.out)) hb); have n6_ := Aside0.mk (below_step bl hb); clear HO_8; clear HO_13; clear HL405_0; clear BK375; clear HR405_0; clear HB; have HO_8 := n0_; have HO_13 := n1_; have HL405_0 := n2_; have HO408 := n3_; have BK375 := n4_; have HR405_0 := n5_; have HB := n6_; clear n0_ n1_ n2_ n3_ n4_ n5_ n6_; (try clear hb); (try clear hb2); (try clear hk); (try clear hi); (try clear ho0); obtain ⟨Ao58, co58, eo58⟩ := Kd.R_slice HO408.out; subst eo58) | ((with_reducible refine gate_builtin (b := .append) (xs := #[.tmp 118, .tmp 128]) rfl ?_); at_builtin; refine Kd.S_append (Kd.slice 5 (Kd.int .u8)) (w0 := w) w.heap.size rfl (.tmp 118) (.tmp 128) 38 45 (.slice none 0 0) 24 rfl Try.underlying38 info45 rfl (by decide) (by omega) u13 x13_4 t406 [.slice Ao58 t406.length co58] (fun k_ => some k_ ≠ (.slice (some ad405) x8_3.length co55 : Value).ownBlock) (fun k_ => some k_ = (.slice Ao58 t406.length co58 : Value).ownBlock) rfl rfl ?aP (fun k_ hk_ => ((Kd.R_mono (ok' := fun k_ => ((fun k_ => some k_ ≠ (.slice (some ad405) x8_3.length co55 : Value).ownBlock)) k_ ∧ some k_ ≠ (u13 : Value).ownBlock) (Kd.R_apart' (Kd.R_apart' (HO408.out) (Kd.S_typed HO_8.out) (by decide)) (Kd.S_typed HO_13.out) (by decide)) (fun k_ hk => ⟨hk.1.2, hk.2⟩))).1 k_ hk_.symm) ?aF ?aO ?aB ?aS ?aL ?_; (case aP => exact Kd.M_row (Kd.R_mono (Kd.R_tight rfl (Kd.R_mono (ok' := fun k_ => ((fun k_ => some k_ ≠ (.slice (some ad405) x8_3.length co55 : Value).ownBlock)) k_ ∧ some k_ ≠ (u13 : Value).ownBlock) (Kd.R_apart' (Kd.R_apart' (HO408.out) (Kd.S_typed HO_8.out) (by decide)) (Kd.S_typed HO_13.out) (by decide)) (fun k_ hk => ⟨hk.1.2, hk.2⟩))) (fun _ h_ => h_))); (case aB => exact bl); (case aF => exact (fun k_ hk => Kd.fresh' (Kd.S_lt (kS HO_8)) k_ hk)); (case aO => exact (by (with_reducible repeat (first | apply Kd.S_alloc | apply Kd.S_drewN | apply Kd.S_drew)); exact Kd.S_mono HO_13.out (fun k_ hk => ⟨hk.1, fun e_ => hk.2 e_⟩))); (case aS => exact (below_size bl)); (case aL => have := LMc53.out; omega); intro v410 w57 ho hb hg hat; rw [← Ny409.out] at ho; have n0_ := Aside0.mk (Kd.S_after (ok := (fun k_ => some k_ ≠ (.slice Ao58 t406.length co58 : Value).ownBlock)) (by (with_reducible repeat (first | apply Kd.S_alloc | apply Kd.S_drewN | apply Kd.S_drew)); exact Kd.S_mono HO_8.out (fun _ hk => ⟨hk.2, hk.1⟩)) hg hat); have n1_ := Aside0.mk (blk_grown (g := gb375) (o := .cells #[.slice A0_0 l0_0.length c0_0, .slice A0_1 l0_1.length c0_1, .slice (some ad404) l0_2.length c0_2] 25 (0, 0)) bk hg (Kd.S_ne HO_13.out BK375.out (by decide))); have n2_ := Aside0.mk (Kd.R_after (ok := (fun k_ => some k_ ≠ (.slice (some ad405) x8_3.length co55 : Value).ownBlock ∧ some k_ ≠ (.slice Ao58 t406.length co58 : Value).ownBlock)) (by (with_reducible repeat (first | apply Kd.R_alloc | apply Kd.R_drewN | apply Kd.R_drew)); exact Kd.R_mono HL405_0.out (fun _ hk => ⟨⟨hk.1.2, hk.2⟩, hk.1.1⟩)) hg hat); have n3_ := Aside0.mk (hb); have n4_ := Aside0.mk (ho); clear HO_8; clear BK375; clear HL405_0; clear HB; clear HO_13; clear HO408; have HO_8 := n0_; have BK375 := n1_; have HL405_0 := n2_; have HB := n3_; have HO411 := n4_; clear n0_ n1_ n2_ n3_ n4_; clear ho hb hg hat))
                  go_roundg k4
                  case measure => have := HK1.out; have := HK2.out; have := HK3.out; have := HK4.out; omega
                  case rel => exact ⟨(y409), (wrap64 (x14_4 + 1)), (by first | rfl | (simp; done) | (simp [*]; done)), H', ⟨by have := HK1.out; have := HK2.out; have := HK3.out; have := HK4.out; omega⟩, ⟨by (with_reducible repeat (first | apply Kd.S_alloc | apply Kd.S_drewN | apply Kd.S_drew)); exact Kd.S_mono HO_8.out (fun _ hk => hk.2)⟩, ⟨kS HO411⟩, ⟨bk⟩, ⟨bl⟩⟩
                 ·rw [if_neg c53] at H
                  exact absurd H (by simp)
                ·rw [if_neg c51] at H
                 exact absurd H (by simp)
               ·rw [if_neg c50] at H
                exact absurd H (by simp)
              ·rw [if_neg c49] at H
               exact absurd H (by simp)
             ·rw [if_neg c48] at H
              have c48b0 : decide (x14_4 < (l0_2.length : Int)) = false := decide_eq_false c48
              clear c48
              simp only [Option.some.injEq, Prod.mk.injEq] at H
              obtain ⟨rfl, rfl⟩ := H
              obtain ⟨⟨hcz59_0, hcz59_1, hcz59_2⟩, hfz59_0, hfz59_1, hfz59_2⟩ := b3 BK375.out
              go_wp2
              go_ret2
              exact ⟨_, by first | rfl | (simp [errW_none, errW_some] <;> rfl) | (simp [*, errW_none, errW_some] <;> rfl), by (with_reducible repeat (first | apply Kd.S_alloc | apply Kd.S_drewN | apply Kd.S_drew)); exact Kd.S_mono HO_13.out (fun _ hk => trivial), bl⟩
 ·replace c4 := Bool.eq_false_iff.mpr c4
  subst c4
  have H1 : (some (([] : List (List Int)), 2)) = some (r1, r2) := by rw [if_neg (show ¬ (false = true) by decide)] at H; exact H
  clear H
  have H := H1
  clear H1
  simp only [Option.some.injEq, Prod.mk.injEq] at H
  obtain ⟨rfl, rfl⟩ := H
  go_enter Try.func21, Try.ntmps21
  go_wp2_with (first | ((with_reducible refine gate_dst (N := 2) rfl ?_); refine box_event ?hg (N := 2) ?hd (cs := #[.slice A0_0 l0_0.length c0_0, .slice A0_1 l0_1.length c0_1, .slice A0_2 l0_2.length c0_2]) (t := 25) ?hr ?_; (case hd => rfl); (case hg => rfl); (case hr => first | (go_simp; done) | (go_simp; rfl)); intro gb375 hg w60 hbox hb; have n0_ := Aside0.mk (below_step bl hb); have n1_ := Aside0.mk (hbox); have n2_ := Aside0.mk ((sz hg)); have n3_ := Aside0.mk ((sz hg)); clear HB; have HB := n0_; have BK375 := n1_; have GW375 := n2_; have GE375 := n3_; clear n0_ n1_ n2_ n3_; clear hb hbox hg; obtain ⟨⟨hcz61_0, hcz61_1, hcz61_2⟩, hfz61_0, hfz61_1, hfz61_2⟩ := b3 BK375.out) | ((with_reducible refine gate_callee (f := 12) rfl ?_); refine goesL_ (some 16) rfl rfl Try.func12 (by kernel_rfl) rfl #[.agg #[.slice A0_0 l0_0.length c0_0, .slice A0_1 l0_1.length c0_1, .slice A0_2 l0_2.length c0_2]] rfl (by (try simp only [List.map_toArray, List.map_cons, List.map_nil]); first | done | rfl | (simp only [List.length_drop, List.length_take]; rfl)) ?_; (with_reducible refine (recoupref21_May.calls k _ _ l0_0 _ _ l0_1 _ _ l0_2 false _ ?side1 ?side2 ?side3 ?side4 ?side5 ?side6 A3.out).mono ?_); (case side1 => repeat (first | exact (Kd.C_below HR0_0.out HB.out) | (with_reducible refine Kd.C_alloc ?_ _) | (with_reducible refine Kd.C_drewN ?_ _) | (with_reducible refine Kd.C_drew ?_))); (case side2 => exact HC0_0.out); (case side3 => repeat (first | exact (Kd.C_below HR0_1.out HB.out) | (with_reducible refine Kd.C_alloc ?_ _) | (with_reducible refine Kd.C_drewN ?_ _) | (with_reducible refine Kd.C_drew ?_))); (case side4 => exact HC0_1.out); (case side5 => repeat (first | exact (Kd.C_below HR0_2.out HB.out) | (with_reducible refine Kd.C_alloc ?_ _) | (with_reducible refine Kd.C_drewN ?_ _) | (with_reducible refine Kd.C_drew ?_))); (case side6 => exact HC0_2.out); rintro e w62 ⟨rfl, hb⟩; refine ⟨_, rfl, ?_⟩; have n0_ := Aside0.mk (blk_below (g := gb375) (o := .cells #[.slice A0_0 l0_0.length c0_0, .slice A0_1 l0_1.length c0_1, .slice A0_2 l0_2.length c0_2] 25 (0, 0)) bk hb); have n1_ := Aside0.mk (below_step bl hb); clear BK375; clear HB; have BK375 := n0_; have HB := n1_; clear n0_ n1_; (try clear hb); (try clear hb2); (try clear hk); (try clear hi)))
  go_ret2
  exact ⟨_, by first | rfl | (simp [errW_none, errW_some] <;> rfl) | (simp [*, errW_none, errW_some] <;> rfl), by first | exact Kd.S_nil _ _ _ _ _ | exact Kd.N_nil _ _ _ _ _ | exact Kd.V_nil _ _ _ _ _ | exact Kd.Q_nil _ _ _ _ _ | exact Kd.R_nil _ _ _ _ _, bl⟩

end Go.Proofs.Ytfnhnniecclleaa.PA
