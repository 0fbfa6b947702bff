-- Written by wip/tools/mp.py (the kit's print, run over several laws with some functions given by hand).
import Derived.Test.YtfnhnniecclleaaPAx0
import Derived.Test.YtfnhnniecclleaaShort
namespace Go.Proofs.Ytfnhnniecclleaa.PA
open Go.RowKit Go.Proofs.Ytfnhnniecclleaa.Sh Go.Proofs.YtfnhnniecclleaaW.PrintWords Go.Proofs.YtfnhnniecclleaaW.PrintLast Go.Proofs.YtfnhnniecclleaaW.PrintMore
attribute [local go_sem] max2_int min2_int max_two min_two max_three min_three max_four min_four   -- for this text's walks alone
set_option linter.unusedVariables false
set_option linter.unusedSimpArgs false

/-! ### recoupref21_May: function 12 -/
mutual
def recoupref21_May.j0 : Nat → Bool → List Int → List (List (S64)) → List Int → Option (Bool)
 | 0, _, _, _, _ => none
 | k + 1, x17, x104000, x104001, x104002 => if x17 = true then (some false) else (recoupref21_May.l0 k 0 x104000 x104001 x104002)
def recoupref21_May.l0 : Nat → Int → List Int → List (List (S64)) → List Int → Option (Bool)
 | 0, _, _, _, _ => none
 | k + 1, x3, x104000, x104001, x104002 => if x3 < (x104000.length : Int) then (if 0 ≤ x3 then (if (rd x104000 x3) < 0 then (some false) else (if (rd x104000 x3) ≥ 64 then (some false) else (if x3 > 0 then (if 0 ≤ (wrap64 (x3 - 1)) then (if (wrap64 (x3 - 1)) < (x104000.length : Int) then (if (rd x104000 x3) ≤ (rd x104000 (wrap64 (x3 - 1))) then (some false) else (recoupref21_May.l0 k (wrap64 (x3 + 1)) x104000 x104001 x104002)) else (none)) else (none)) else (recoupref21_May.l0 k (wrap64 (x3 + 1)) x104000 x104001 x104002)))) else (none)) else (recoupref21_May.l1 k 0 x104000 x104001 x104002)
def recoupref21_May.l1 : Nat → Int → List Int → List (List (S64)) → List Int → Option (Bool)
 | 0, _, _, _, _ => none
 | k + 1, x4, x104000, x104001, x104002 => if x4 < (x104001.length : Int) then (recoupref21_May.l2 k x4 0 x104000 x104001 x104002) else (recoupref21_May.l3 k 0 x104000 x104001 x104002)
def recoupref21_May.l2 : Nat → Int → Int → List Int → List (List (S64)) → List Int → Option (Bool)
 | 0, _, _, _, _, _ => none
 | k + 1, x4, x5, x104000, x104001, x104002 => if 0 ≤ x4 then (if x4 < (x104001.length : Int) then (if x5 < ((rd_L4 x104001 x4).length : Int) then (if 0 ≤ x5 then (if ((rd_T64 (rd_L4 x104001 x4) x5).f1) = 0 then (some false) else (if ((rd_T64 (rd_L4 x104001 x4) x5).f0) < 0 then (some false) else (if ((rd_T64 (rd_L4 x104001 x4) x5).f0) ≥ (wrap64 ((x104000.length : Int) + x4)) then (some false) else (if x5 > 0 then (if 0 ≤ (wrap64 (x5 - 1)) then (if (wrap64 (x5 - 1)) < ((rd_L4 x104001 x4).length : Int) then (if ((rd_T64 (rd_L4 x104001 x4) x5).f0) ≤ ((rd_T64 (rd_L4 x104001 x4) (wrap64 (x5 - 1))).f0) then (some false) else (recoupref21_May.l2 k x4 (wrap64 (x5 + 1)) x104000 x104001 x104002)) else (none)) else (none)) else (recoupref21_May.l2 k x4 (wrap64 (x5 + 1)) x104000 x104001 x104002))))) else (none)) else (recoupref21_May.l1 k (wrap64 (x4 + 1)) x104000 x104001 x104002)) else (none)) else (none)
def recoupref21_May.l3 : Nat → Int → List Int → List (List (S64)) → List Int → Option (Bool)
 | 0, _, _, _, _ => none
 | k + 1, x7, x104000, x104001, x104002 => if x7 < (x104002.length : Int) then (if 0 ≤ x7 then (if (rd x104002 x7) < 0 then (some false) else (if (rd x104002 x7) ≥ (wrap64 ((x104000.length : Int) + (x104001.length : Int))) then (some false) else (recoupref21_May.l3 k (wrap64 (x7 + 1)) x104000 x104001 x104002))) else (none)) else (some true)
end
def recoupref21_May.f (k : Nat) (l0_0 : List Int) (l0_1 : List (List (S64))) (l0_2 : List Int) : Option (Bool) := if (l0_1.length : Int) > 4096 then (recoupref21_May.j0 k true l0_0 l0_1 l0_2) else (recoupref21_May.j0 k (decide ((l0_2.length : Int) > 64)) l0_0 l0_1 l0_2)
set_option maxHeartbeats 8000000 in
set_option maxRecDepth 100000 in
theorem recoupref21_May.calls (k : Nat) (A0_0 : Option Addr) (c0_0 : Nat) (l0_0 : List Int) (A0_1 : Option Addr) (c0_1 : Nat) (l0_1 : List (List (S64))) (A0_2 : Option Addr) (c0_2 : Nat) (l0_2 : List Int) (r : Bool) (w : World) (hr0_0 : Kd.C (Kd.int .i64) w A0_0 l0_0.length l0_0) (hc0_0 : l0_0.length ≤ c0_0) (hr0_1 : Kd.C (Kd.slice 64 k64) w A0_1 l0_1.length l0_1) (hc0_1 : l0_1.length ≤ c0_1) (hr0_2 : Kd.C (Kd.int .i64) w A0_2 l0_2.length l0_2) (hc0_2 : l0_2.length ≤ c0_2) (h : recoupref21_May.f k l0_0 l0_1 l0_2 = some r) :
  Calls Try.prog 12 #[.agg #[.slice A0_0 l0_0.length c0_0, .slice A0_1 l0_1.length c0_1, .slice A0_2 l0_2.length c0_2]] w fun e w' => e = .returned (.bool r) ∧ Below w.heap.size w w' := by
 have hu25 := Try.underlying25
 have hu64 := Try.underlying64
 have HR0_0 := Aside0.mk hr0_0
 have HC0_0 := Aside0.mk hc0_0
 clear hr0_0 hc0_0
 have HR0_1 := Aside0.mk hr0_1
 have HC0_1 := Aside0.mk hc0_1
 clear hr0_1 hc0_1
 have HR0_2 := Aside0.mk hr0_2
 have HC0_2 := Aside0.mk hc0_2
 clear hr0_2 hc0_2
 have HB := Aside0.mk (Below.refl w.heap.size w)
 have H : (if (l0_1.length : Int) > 4096 then (recoupref21_May.j0 k true l0_0 l0_1 l0_2) else (recoupref21_May.j0 k (decide ((l0_2.length : Int) > 64)) l0_0 l0_1 l0_2)) = some r := h
 clear h
 have HC2 := Aside0.mk H
 clear H
 go_enter Try.func12, Try.ntmps12
 go_upto_region 1 with (first | ((with_reducible refine gate_dst (N := 1) rfl ?_); (try (refine gate_guard (by rfl) ?_; dsimp only)); refine box_event ?hg (N := 1) ?hd (cs := #[.slice A0_0 l0_0.length c0_0, .slice A0_1 l0_1.length c0_1, .slice A0_2 l0_2.length c0_2]) (t := 25) ?hr ?_; (case hd => rfl); (case hg => rfl); (case hr => first | (go_simp; done) | (go_simp; rfl)); intro gb103 hg w3 hbox hb; have n0_ := Aside0.mk (below_step bl hb); have n1_ := Aside0.mk (hbox); have n2_ := Aside0.mk ((sz hg)); have n3_ := Aside0.mk ((sz hg)); clear HB; have HB := n0_; have BK103 := n1_; have GW103 := n2_; have GE103 := n3_; clear n0_ n1_ n2_ n3_; clear hb hbox hg))
 repeat (go_quiet (first | ((with_reducible refine gate_dst (N := 1) rfl ?_); (try (refine gate_guard (by rfl) ?_; dsimp only)); refine box_event ?hg (N := 1) ?hd (cs := #[.slice A0_0 l0_0.length c0_0, .slice A0_1 l0_1.length c0_1, .slice A0_2 l0_2.length c0_2]) (t := 25) ?hr ?_; (case hd => rfl); (case hg => rfl); (case hr => first | (go_simp; done) | (go_simp; rfl)); intro gb103 hg w3 hbox hb; have n0_ := Aside0.mk (below_step bl hb); have n1_ := Aside0.mk (hbox); have n2_ := Aside0.mk ((sz hg)); have n3_ := Aside0.mk ((sz hg)); clear HB; have HB := n0_; have BK103 := n1_; have GW103 := n2_; have GE103 := n3_; clear n0_ n1_ n2_ n3_; clear hb hbox hg)); go_upto_region 1 with (first | ((with_reducible refine gate_dst (N := 1) rfl ?_); (try (refine gate_guard (by rfl) ?_; dsimp only)); refine box_event ?hg (N := 1) ?hd (cs := #[.slice A0_0 l0_0.length c0_0, .slice A0_1 l0_1.length c0_1, .slice A0_2 l0_2.length c0_2]) (t := 25) ?hr ?_; (case hd => rfl); (case hg => rfl); (case hr => first | (go_simp; done) | (go_simp; rfl)); intro gb103 hg w3 hbox hb; have n0_ := Aside0.mk (below_step bl hb); have n1_ := Aside0.mk (hbox); have n2_ := Aside0.mk ((sz hg)); have n3_ := Aside0.mk ((sz hg)); clear HB; have HB := n0_; have BK103 := n1_; have GW103 := n2_; have GE103 := n3_; clear n0_ n1_ n2_ n3_; clear hb hbox hg)))
 (try simp only [Act.put, List.setIfInBounds_toArray, List.set_cons_zero, List.set_cons_succ])
 go_cut [17] (fun v17 wc => ∃ (kq : Nat) (x17_1 : Bool), v17 = .bool x17_1 ∧ Aside0 (recoupref21_May.j0 kq x17_1 l0_0 l0_1 l0_2 = some r) ∧ Aside0 (kq ≤ k) ∧ Aside0 (wc.heap[gb103]? = some (.cells #[(.slice A0_0 l0_0.length c0_0), (.slice A0_1 l0_1.length c0_1), (.slice A0_2 l0_2.length c0_2)] 25 (0, 0))) ∧ Aside0 (Below w.heap.size w wc))
 case first =>
  have H := HC2.out
  clear HC2
  by_cases c4 : (l0_1.length : Int) > 4096
  ·rw [if_pos c4] at H
   have c4b0 : decide (4096 < (l0_1.length : Int)) = true := decide_eq_true c4
   have c4b1 : decide (4096 < l0_1.length) = true := decide_eq_true (by omega)
   clear c4
   (first | rw [c4b0] | rw [c4b1] | (simp only [i64_w, i32_w]; rw [c4b0]) | skip)
   have H' := Aside0.mk H
   clear H
   obtain ⟨⟨hcz5_0, hcz5_1, hcz5_2⟩, hfz5_0, hfz5_1, hfz5_2⟩ := b3 BK103.out
   go_wp2
   repeat (go_quiet (fail); try go_wp2)
   go_meet
   case rel => exact ⟨_, (true), (by first | rfl | (simp; done) | (simp [*]; done)), H', ⟨by first | omega | exact Nat.le_refl _⟩, ⟨bk⟩, ⟨bl⟩⟩
  ·rw [if_neg c4] at H
   have c4b0 : decide (4096 < (l0_1.length : Int)) = false := decide_eq_false c4
   have c4b1 : decide (4096 < l0_1.length) = false := decide_eq_false (by omega)
   clear c4
   (first | rw [c4b0] | rw [c4b1] | (simp only [i64_w, i32_w]; rw [c4b0]) | skip)
   have H' := Aside0.mk H
   clear H
   obtain ⟨⟨hcz6_0, hcz6_1, hcz6_2⟩, hfz6_0, hfz6_1, hfz6_2⟩ := b3 BK103.out
   go_wp2
   repeat (go_quiet (fail); try go_wp2)
   go_meet
   case rel => exact ⟨_, (decide ((l0_2.length : Int) > 64)), (by first | rfl | (simp; done) | (simp [*]; done)), H', ⟨by first | omega | exact Nat.le_refl _⟩, ⟨bk⟩, ⟨bl⟩⟩
 case rest =>
  clear HC2
  (try clear c1); (try clear p2); (try clear c4); (try clear c4b0); (try clear c4b1); (try clear hcz5_0 hcz5_1 hcz5_2 hfz5_0 hfz5_1 hfz5_2); (try clear hcz6_0 hcz6_1 hcz6_2 hfz6_0 hfz6_1 hfz6_2)
  obtain ⟨kq, x17_1, rfl, HA, HJ1, BK103, HB⟩ := hcut
  cases kq with
  | zero => exact absurd HA.out (by simp [recoupref21_May.j0])
  | succ kj1 =>
   have H := HA.out
   clear HA
   simp only [recoupref21_May.j0] at H
   by_cases c7 : x17_1 = true
   ·subst c7
    have H1 : (some false) = some r := by rw [if_pos rfl] at H; exact H
    clear H
    have H := H1
    clear H1
    obtain rfl := Option.some.inj H
    go_wp2
    repeat (go_quiet (fail); try go_wp2)
    go_ret
    exact ⟨by first | rfl | (simp [errW_none, errW_some] <;> rfl) | (simp [*, errW_none, errW_some] <;> rfl), bl⟩
   ·replace c7 := Bool.eq_false_iff.mpr c7
    subst c7
    have H1 : (recoupref21_May.l0 kj1 0 l0_0 l0_1 l0_2) = some r := by rw [if_neg (show ¬ (false = true) by decide)] at H; exact H
    clear H
    have H := H1
    clear H1
    have H' := Aside0.mk H
    clear H
    go_wp2
    repeat (go_quiet (fail); try go_wp2)
    go_loopg [3] kj1 (fun kq v3 w' => ∃ (x3_2 : Int), v3 = .int .i64 x3_2 ∧ Aside0 (recoupref21_May.l0 kq x3_2 l0_0 l0_1 l0_2 = some r) ∧ Aside0 (kq ≤ kj1) ∧ Aside0 (w'.heap[gb103]? = some (.cells #[(.slice A0_0 l0_0.length c0_0), (.slice A0_1 l0_1.length c0_1), (.slice A0_2 l0_2.length c0_2)] 25 (0, 0))) ∧ Aside0 (Below w.heap.size w w'))
    case atStart => exact ⟨(0), (by first | rfl | (simp; done) | (simp [*]; done)), H', ⟨Nat.le_refl _⟩, ⟨bk⟩, ⟨bl⟩⟩
    case round =>
     clear H'
     (try clear c1); (try clear p2); (try clear c4); (try clear c4b0); (try clear c4b1); (try clear c7); (try clear hcz5_0 hcz5_1 hcz5_2 hfz5_0 hfz5_1 hfz5_2); (try clear hcz6_0 hcz6_1 hcz6_2 hfz6_0 hfz6_1 hfz6_2)
     obtain ⟨x3_2, rfl, HA, HK2, BK103, HB⟩ := hrel
     cases gk with
     | zero => exact absurd HA.out (by simp [recoupref21_May.l0])
     | succ k2 =>
      have H := HA.out
      clear HA
      simp only [recoupref21_May.l0] at H
      by_cases c8 : x3_2 < (l0_0.length : Int)
      ·rw [if_pos c8] at H
       have c8b0 : decide (x3_2 < (l0_0.length : Int)) = true := decide_eq_true c8
       clear c8
       by_cases c9 : 0 ≤ x3_2
       ·rw [if_pos c9] at H
        have c9b0 : decide (0 ≤ x3_2) = true := decide_eq_true c9
        clear c9
        by_cases c10 : (rd l0_0 x3_2) < 0
        ·rw [if_pos c10] at H
         have c10b0 : decide ((rd l0_0 x3_2) < 0) = true := decide_eq_true c10
         clear c10
         obtain rfl := Option.some.inj H
         obtain ⟨⟨hcz11_0, hcz11_1, hcz11_2⟩, hfz11_0, hfz11_1, hfz11_2⟩ := b3 BK103.out
         have p104 : 0 ≤ (x3_2 : Int) := dt
         have q104 : x3_2 < (l0_0.length : Int) := dt
         obtain ⟨ad104, e104, hx104_0⟩ := Kd.at_int HR0_0.out x3_2 p104 q104
         cases e104
         replace hx104_0 := cx HB hx104_0
         replace p104 := eq_true p104
         replace q104 := eq_true q104
         go_wp2
         repeat (go_quiet (fail); try go_wp2)
         go_ret
         exact ⟨by first | rfl | (simp [errW_none, errW_some] <;> rfl) | (simp [*, errW_none, errW_some] <;> rfl), bl⟩
        ·rw [if_neg c10] at H
         have c10b0 : decide ((rd l0_0 x3_2) < 0) = false := decide_eq_false c10
         clear c10
         by_cases c12 : (rd l0_0 x3_2) ≥ 64
         ·rw [if_pos c12] at H
          have c12b0 : decide (64 ≤ (rd l0_0 x3_2)) = true := decide_eq_true c12
          clear c12
          obtain rfl := Option.some.inj H
          obtain ⟨⟨hcz13_0, hcz13_1, hcz13_2⟩, hfz13_0, hfz13_1, hfz13_2⟩ := b3 BK103.out
          have p104 : 0 ≤ (x3_2 : Int) := dt
          have q104 : x3_2 < (l0_0.length : Int) := dt
          obtain ⟨ad104, e104, hx104_0⟩ := Kd.at_int HR0_0.out x3_2 p104 q104
          cases e104
          replace hx104_0 := cx HB hx104_0
          replace p104 := eq_true p104
          replace q104 := eq_true q104
          have p105 : 0 ≤ (x3_2 : Int) := dt
          have q105 : x3_2 < (l0_0.length : Int) := dt
          obtain ⟨ad105, e105, hx105_0⟩ := Kd.at_int HR0_0.out x3_2 p105 q105
          obtain rfl : ad104 = ad105 := (by injection e105)
          replace hx105_0 := cx HB hx105_0
          replace p105 := eq_true p105
          replace q105 := eq_true q105
          go_wp2
          repeat (go_quiet (fail); try go_wp2)
          go_ret
          exact ⟨by first | rfl | (simp [errW_none, errW_some] <;> rfl) | (simp [*, errW_none, errW_some] <;> rfl), bl⟩
         ·rw [if_neg c12] at H
          have c12b0 : decide (64 ≤ (rd l0_0 x3_2)) = false := decide_eq_false c12
          clear c12
          by_cases c14 : x3_2 > 0
          ·rw [if_pos c14] at H
           have c14b0 : decide (0 < x3_2) = true := decide_eq_true c14
           clear c14
           obtain ⟨ji15, hji15⟩ : ∃ j_ : Int, (wrap64 (x3_2 - 1)) = j_ := ⟨_, rfl⟩
           replace H : (if 0 ≤ (ji15) then (if (ji15) < (l0_0.length : Int) then (if (rd l0_0 x3_2) ≤ (rd l0_0 (ji15)) then (some false) else (recoupref21_May.l0 k2 (wrap64 (x3_2 + 1)) l0_0 l0_1 l0_2)) else (none)) else (none)) = some r := by first | (rw [hji15] at H; exact H) | (simp only [hji15] at H ⊢; exact H)
           have hji15w : (IntKind.i64.wrap (x3_2 - 1)) = ji15 := (i64_w _).trans hji15
           by_cases c16 : 0 ≤ (ji15)
           ·rw [if_pos c16] at H
            have c16b0 : decide (0 ≤ (ji15)) = true := decide_eq_true c16
            clear c16
            by_cases c17 : (ji15) < (l0_0.length : Int)
            ·rw [if_pos c17] at H
             have c17b0 : decide ((ji15) < (l0_0.length : Int)) = true := decide_eq_true c17
             clear c17
             by_cases c18 : (rd l0_0 x3_2) ≤ (rd l0_0 (ji15))
             ·rw [if_pos c18] at H
              have c18b0 : decide ((rd l0_0 x3_2) ≤ (rd l0_0 (ji15))) = true := decide_eq_true c18
              clear c18
              obtain rfl := Option.some.inj H
              obtain ⟨⟨hcz19_0, hcz19_1, hcz19_2⟩, hfz19_0, hfz19_1, hfz19_2⟩ := b3 BK103.out
              have p104 : 0 ≤ (x3_2 : Int) := dt
              have q104 : x3_2 < (l0_0.length : Int) := dt
              obtain ⟨ad104, e104, hx104_0⟩ := Kd.at_int HR0_0.out x3_2 p104 q104
              cases e104
              replace hx104_0 := cx HB hx104_0
              replace p104 := eq_true p104
              replace q104 := eq_true q104
              have p105 : 0 ≤ (x3_2 : Int) := dt
              have q105 : x3_2 < (l0_0.length : Int) := dt
              obtain ⟨ad105, e105, hx105_0⟩ := Kd.at_int HR0_0.out x3_2 p105 q105
              obtain rfl : ad104 = ad105 := (by injection e105)
              replace hx105_0 := cx HB hx105_0
              replace p105 := eq_true p105
              replace q105 := eq_true q105
              have p106 : 0 ≤ (x3_2 : Int) := dt
              have q106 : x3_2 < (l0_0.length : Int) := dt
              obtain ⟨ad106, e106, hx106_0⟩ := Kd.at_int HR0_0.out x3_2 p106 q106
              obtain rfl : ad104 = ad106 := (by injection e106)
              replace hx106_0 := cx HB hx106_0
              replace p106 := eq_true p106
              replace q106 := eq_true q106
              have p107 : 0 ≤ ((ji15) : Int) := dt
              have q107 : (ji15) < (l0_0.length : Int) := dt
              obtain ⟨ad107, e107, hx107_0⟩ := Kd.at_int HR0_0.out (ji15) p107 q107
              obtain rfl : ad104 = ad107 := (by injection e107)
              replace hx107_0 := cx HB hx107_0
              replace p107 := eq_true p107
              replace q107 := eq_true q107
              go_wp2
              repeat (go_quiet (fail); try go_wp2)
              go_ret
              exact ⟨by first | rfl | (simp [errW_none, errW_some] <;> rfl) | (simp only [← hji15]; first | rfl | (simp [errW_none, errW_some] <;> rfl)) | (simp [*, errW_none, errW_some] <;> rfl), bl⟩
             ·rw [if_neg c18] at H
              have c18b0 : decide ((rd l0_0 x3_2) ≤ (rd l0_0 (ji15))) = false := decide_eq_false c18
              clear c18
              have H' := Aside0.mk H
              clear H
              obtain ⟨⟨hcz20_0, hcz20_1, hcz20_2⟩, hfz20_0, hfz20_1, hfz20_2⟩ := b3 BK103.out
              have p104 : 0 ≤ (x3_2 : Int) := dt
              have q104 : x3_2 < (l0_0.length : Int) := dt
              obtain ⟨ad104, e104, hx104_0⟩ := Kd.at_int HR0_0.out x3_2 p104 q104
              cases e104
              replace hx104_0 := cx HB hx104_0
              replace p104 := eq_true p104
              replace q104 := eq_true q104
              have p105 : 0 ≤ (x3_2 : Int) := dt
              have q105 : x3_2 < (l0_0.length : Int) := dt
              obtain ⟨ad105, e105, hx105_0⟩ := Kd.at_int HR0_0.out x3_2 p105 q105
              obtain rfl : ad104 = ad105 := (by injection e105)
              replace hx105_0 := cx HB hx105_0
              replace p105 := eq_true p105
              replace q105 := eq_true q105
              have p106 : 0 ≤ (x3_2 : Int) := dt
              have q106 : x3_2 < (l0_0.length : Int) := dt
              obtain ⟨ad106, e106, hx106_0⟩ := Kd.at_int HR0_0.out x3_2 p106 q106
              obtain rfl : ad104 = ad106 := (by injection e106)
              replace hx106_0 := cx HB hx106_0
              replace p106 := eq_true p106
              replace q106 := eq_true q106
              have p107 : 0 ≤ ((ji15) : Int) := dt
              have q107 : (ji15) < (l0_0.length : Int) := dt
              obtain ⟨ad107, e107, hx107_0⟩ := Kd.at_int HR0_0.out (ji15) p107 q107
              obtain rfl : ad104 = ad107 := (by injection e107)
              replace hx107_0 := cx HB hx107_0
              replace p107 := eq_true p107
              replace q107 := eq_true q107
              go_wp2
              repeat (go_quiet (fail); try go_wp2)
              go_roundg k2
              case measure => have := HJ1.out; have := HK2.out; omega
              case rel => exact ⟨(wrap64 (x3_2 + 1)), (by first | rfl | (simp; done) | (simp [*]; done)), H', ⟨by have := HJ1.out; have := HK2.out; omega⟩, ⟨bk⟩, ⟨bl⟩⟩
            ·rw [if_neg c17] at H
             exact absurd H (by simp)
           ·rw [if_neg c16] at H
            exact absurd H (by simp)
          ·rw [if_neg c14] at H
           have c14b0 : decide (0 < x3_2) = false := decide_eq_false c14
           clear c14
           have H' := Aside0.mk H
           clear H
           obtain ⟨⟨hcz21_0, hcz21_1, hcz21_2⟩, hfz21_0, hfz21_1, hfz21_2⟩ := b3 BK103.out
           have p104 : 0 ≤ (x3_2 : Int) := dt
           have q104 : x3_2 < (l0_0.length : Int) := dt
           obtain ⟨ad104, e104, hx104_0⟩ := Kd.at_int HR0_0.out x3_2 p104 q104
           cases e104
           replace hx104_0 := cx HB hx104_0
           replace p104 := eq_true p104
           replace q104 := eq_true q104
           have p105 : 0 ≤ (x3_2 : Int) := dt
           have q105 : x3_2 < (l0_0.length : Int) := dt
           obtain ⟨ad105, e105, hx105_0⟩ := Kd.at_int HR0_0.out x3_2 p105 q105
           obtain rfl : ad104 = ad105 := (by injection e105)
           replace hx105_0 := cx HB hx105_0
           replace p105 := eq_true p105
           replace q105 := eq_true q105
           go_wp2
           repeat (go_quiet (fail); try go_wp2)
           go_roundg k2
           case measure => have := HJ1.out; have := HK2.out; omega
           case rel => exact ⟨(wrap64 (x3_2 + 1)), (by first | rfl | (simp; done) | (simp [*]; done)), H', ⟨by have := HJ1.out; have := HK2.out; omega⟩, ⟨bk⟩, ⟨bl⟩⟩
       ·rw [if_neg c9] at H
        exact absurd H (by simp)
      ·rw [if_neg c8] at H
       have c8b0 : decide (x3_2 < (l0_0.length : Int)) = false := decide_eq_false c8
       clear c8
       have H' := Aside0.mk H
       clear H
       obtain ⟨⟨hcz22_0, hcz22_1, hcz22_2⟩, hfz22_0, hfz22_1, hfz22_2⟩ := b3 BK103.out
       go_wp2
       repeat (go_quiet (fail); try go_wp2)
       go_loopg [4] k2 (fun kq v4 w' => ∃ (x4_3 : Int), v4 = .int .i64 x4_3 ∧ Aside0 (recoupref21_May.l1 kq x4_3 l0_0 l0_1 l0_2 = some r) ∧ Aside0 (kq ≤ k2) ∧ Aside0 (w'.heap[gb103]? = some (.cells #[(.slice A0_0 l0_0.length c0_0), (.slice A0_1 l0_1.length c0_1), (.slice A0_2 l0_2.length c0_2)] 25 (0, 0))) ∧ Aside0 (Below w.heap.size w w'))
       case atStart => exact ⟨(0), (by first | rfl | (simp; done) | (simp [*]; done)), H', ⟨Nat.le_refl _⟩, ⟨bk⟩, ⟨bl⟩⟩
       case round =>
        clear H'
        (try clear c1); (try clear p1); (try clear q1); (try clear hx1); (try clear p2); (try clear c4); (try clear c4b0); (try clear c4b1); (try clear p6); (try clear c7); (try clear c8); (try clear c8b0); (try clear c9); (try clear c9b0); (try clear c10); (try clear c10b0); (try clear p10); (try clear q10); (try clear hx10); (try clear c12); (try clear c12b0); (try clear c14); (try clear c14b0); (try clear c16); (try clear c16b0); (try clear c17); (try clear c17b0); (try clear c18); (try clear c18b0); (try clear hcz11_0 hcz11_1 hcz11_2 hfz11_0 hfz11_1 hfz11_2); (try clear hcz13_0 hcz13_1 hcz13_2 hfz13_0 hfz13_1 hfz13_2); (try clear hcz19_0 hcz19_1 hcz19_2 hfz19_0 hfz19_1 hfz19_2); (try clear hcz20_0 hcz20_1 hcz20_2 hfz20_0 hfz20_1 hfz20_2); (try clear hcz21_0 hcz21_1 hcz21_2 hfz21_0 hfz21_1 hfz21_2); (try clear hcz22_0 hcz22_1 hcz22_2 hfz22_0 hfz22_1 hfz22_2); (try clear hcz5_0 hcz5_1 hcz5_2 hfz5_0 hfz5_1 hfz5_2); (try clear hcz6_0 hcz6_1 hcz6_2 hfz6_0 hfz6_1 hfz6_2); (try clear hx104_0); (try clear hx105_0); (try clear hx106_0); (try clear hx107_0); (try clear p104); (try clear p105); (try clear p106); (try clear p107); (try clear q104); (try clear q105); (try clear q106); (try clear q107)
        obtain ⟨x4_3, rfl, HA, HK3, BK103, HB⟩ := hrel
        cases gk with
        | zero => exact absurd HA.out (by simp [recoupref21_May.l1])
        | succ k3 =>
         have H := HA.out
         clear HA
         simp only [recoupref21_May.l1] at H
         by_cases c23 : x4_3 < (l0_1.length : Int)
         ·rw [if_pos c23] at H
          have c23b0 : decide (x4_3 < (l0_1.length : Int)) = true := decide_eq_true c23
          clear c23
          have H' := Aside0.mk H
          clear H
          obtain ⟨⟨hcz24_0, hcz24_1, hcz24_2⟩, hfz24_0, hfz24_1, hfz24_2⟩ := b3 BK103.out
          go_wp2
          repeat (go_quiet (fail); try go_wp2)
          go_loopg [5] k3 (fun kq v5 w' => ∃ (x5_4 : Int), v5 = .int .i64 x5_4 ∧ Aside0 (recoupref21_May.l2 kq x4_3 x5_4 l0_0 l0_1 l0_2 = some r) ∧ Aside0 (kq ≤ k3) ∧ Aside0 (w'.heap[gb103]? = some (.cells #[(.slice A0_0 l0_0.length c0_0), (.slice A0_1 l0_1.length c0_1), (.slice A0_2 l0_2.length c0_2)] 25 (0, 0))) ∧ Aside0 (Below w.heap.size w w'))
          case atStart => exact ⟨(0), (by first | rfl | (simp; done) | (simp [*]; done)), H', ⟨Nat.le_refl _⟩, ⟨bk⟩, ⟨bl⟩⟩
          case round =>
           clear H'
           (try clear c1); (try clear p1); (try clear q1); (try clear hx1); (try clear c2); (try clear p2); (try clear c4); (try clear c4b0); (try clear c4b1); (try clear p6); (try clear c7); (try clear c8); (try clear c8b0); (try clear c9); (try clear c9b0); (try clear c10); (try clear c10b0); (try clear p10); (try clear q10); (try clear hx10); (try clear c12); (try clear c12b0); (try clear c14); (try clear c14b0); (try clear c16); (try clear c16b0); (try clear c17); (try clear c17b0); (try clear c18); (try clear c18b0); (try clear c23); (try clear c23b0); (try clear hcz11_0 hcz11_1 hcz11_2 hfz11_0 hfz11_1 hfz11_2); (try clear hcz13_0 hcz13_1 hcz13_2 hfz13_0 hfz13_1 hfz13_2); (try clear hcz19_0 hcz19_1 hcz19_2 hfz19_0 hfz19_1 hfz19_2); (try clear hcz20_0 hcz20_1 hcz20_2 hfz20_0 hfz20_1 hfz20_2); (try clear hcz21_0 hcz21_1 hcz21_2 hfz21_0 hfz21_1 hfz21_2); (try clear hcz22_0 hcz22_1 hcz22_2 hfz22_0 hfz22_1 hfz22_2); (try clear hcz24_0 hcz24_1 hcz24_2 hfz24_0 hfz24_1 hfz24_2); (try clear hcz5_0 hcz5_1 hcz5_2 hfz5_0 hfz5_1 hfz5_2); (try clear hcz6_0 hcz6_1 hcz6_2 hfz6_0 hfz6_1 hfz6_2); (try clear hx104_0); (try clear hx105_0); (try clear hx106_0); (try clear hx107_0); (try clear p104); (try clear p105); (try clear p106); (try clear p107); (try clear q104); (try clear q105); (try clear q106); (try clear q107)
           obtain ⟨x5_4, rfl, HA, HK4, BK103, HB⟩ := hrel
           cases gk with
           | zero => exact absurd HA.out (by simp [recoupref21_May.l2])
           | succ k4 =>
            have H := HA.out
            clear HA
            simp only [recoupref21_May.l2] at H
            by_cases c25 : 0 ≤ x4_3
            ·rw [if_pos c25] at H
             have c25b0 : decide (0 ≤ x4_3) = true := decide_eq_true c25
             clear c25
             by_cases c26 : x4_3 < (l0_1.length : Int)
             ·rw [if_pos c26] at H
              have c26b0 : decide (x4_3 < (l0_1.length : Int)) = true := decide_eq_true c26
              clear c26
              by_cases c27 : x5_4 < ((rd_L4 l0_1 x4_3).length : Int)
              ·rw [if_pos c27] at H
               have c27b0 : decide (x5_4 < ((rd_L4 l0_1 x4_3).length : Int)) = true := decide_eq_true c27
               clear c27
               by_cases c28 : 0 ≤ x5_4
               ·rw [if_pos c28] at H
                have c28b0 : decide (0 ≤ x5_4) = true := decide_eq_true c28
                clear c28
                by_cases c29 : ((rd_T64 (rd_L4 l0_1 x4_3) x5_4).f1) = 0
                ·rw [if_pos c29] at H
                 have c29b0 : (((rd_T64 (rd_L4 l0_1 x4_3) x5_4).f1) == 0) = true := beq_iff_eq.mpr c29
                 have c29b1 : (((rd_T64 (rd_L4 l0_1 x4_3) x5_4).f1) != 0) = false := bne_eq_false_iff_eq.mpr c29
                 clear c29
                 obtain rfl := Option.some.inj H
                 obtain ⟨⟨hcz30_0, hcz30_1, hcz30_2⟩, hfz30_0, hfz30_1, hfz30_2⟩ := b3 BK103.out
                 have p108 : 0 ≤ (x4_3 : Int) := dt
                 have q108 : x4_3 < (l0_1.length : Int) := dt
                 obtain ⟨ad108, A108_0, c108_0, e108, hx108_0, hl108_0, hi108_0⟩ := at_L4 HR0_1.out x4_3 p108 q108
                 cases e108
                 replace hx108_0 := cx HB hx108_0
                 have HR108_0 := Aside0.mk hi108_0
                 have HC108_0 := Aside0.mk hl108_0
                 clear hi108_0 hl108_0
                 replace p108 := eq_true p108
                 replace q108 := eq_true q108
                 have p109 : 0 ≤ (x4_3 : Int) := dt
                 have q109 : x4_3 < (l0_1.length : Int) := dt
                 obtain ⟨ad109, A109_0, c109_0, e109, hx109_0, hl109_0, hi109_0⟩ := at_L4 HR0_1.out x4_3 p109 q109
                 obtain rfl : ad108 = ad109 := (by injection e109)
                 replace hx109_0 := cx HB hx109_0
                 have HR109_0 := Aside0.mk hi109_0
                 have HC109_0 := Aside0.mk hl109_0
                 clear hi109_0 hl109_0
                 replace p109 := eq_true p109
                 replace q109 := eq_true q109
                 have ea_ := Option.some.inj (hx108_0.symm.trans hx109_0)
                 injection ea_ with ea_ en_ ec_
                 subst ea_
                 subst ec_
                 clear en_
                 have p110 : 0 ≤ (x5_4 : Int) := dt
                 have q110 : x5_4 < ((rd_L4 l0_1 x4_3).length : Int) := dt
                 obtain ⟨ad110, e110, hx110_0, hx110_1⟩ := at_T64 HR109_0.out x5_4 p110 q110
                 cases e110
                 replace hx110_0 := cx HB hx110_0
                 replace hx110_1 := cx HB hx110_1
                 replace p110 := eq_true p110
                 replace q110 := eq_true q110
                 go_wp2_with (first | ((with_reducible refine gate_dst (N := 6) rfl ?_); (try (refine gate_guard (by rfl) ?_; dsimp only)); refine box_event ?hg (N := 6) ?hd (cs := #[.int .i64 0, .int .u8 0]) (t := 64) ?hr ?_; (case hd => rfl); (case hg => rfl); (case hr => first | (go_simp; done) | (go_simp; rfl)); intro gb111 hg w31 hbox hb; have n0_ := Aside0.mk (blk_below (g := gb103) (o := .cells #[.slice A0_0 l0_0.length c0_0, .slice (some ad108) l0_1.length c0_1, .slice A0_2 l0_2.length c0_2] 25 (0, 0)) bk hb); have n1_ := Aside0.mk (below_step bl hb); have n2_ := Aside0.mk (hbox); have n3_ := Aside0.mk ((sz hg)); have n4_ := Aside0.mk ((sz hg)); have n5_ := Aside0.mk ((nl (g := gb103) (g' := gb111) hg)); have n6_ := Aside0.mk ((nr (g := gb103) (g' := gb111) hg)); clear BK103; clear HB; have BK103 := n0_; have HB := n1_; have BK111 := n2_; have GW111 := n3_; have GE111 := n4_; have NB103_111 := n5_; have NB111_103 := n6_; clear n0_ n1_ n2_ n3_ n4_ n5_ n6_; clear hb hbox hg; have hnb32 := NB111_103.out; have hnc32 := NB103_111.out; obtain ⟨⟨hcz33_0, hcz33_1⟩, hfz33_0, hfz33_1⟩ := b2 BK111.out))
                 repeat (go_quiet (first | ((with_reducible refine gate_dst (N := 6) rfl ?_); (try (refine gate_guard (by rfl) ?_; dsimp only)); refine box_event ?hg (N := 6) ?hd (cs := #[.int .i64 0, .int .u8 0]) (t := 64) ?hr ?_; (case hd => rfl); (case hg => rfl); (case hr => first | (go_simp; done) | (go_simp; rfl)); intro gb111 hg w31 hbox hb; have n0_ := Aside0.mk (blk_below (g := gb103) (o := .cells #[.slice A0_0 l0_0.length c0_0, .slice (some ad108) l0_1.length c0_1, .slice A0_2 l0_2.length c0_2] 25 (0, 0)) bk hb); have n1_ := Aside0.mk (below_step bl hb); have n2_ := Aside0.mk (hbox); have n3_ := Aside0.mk ((sz hg)); have n4_ := Aside0.mk ((sz hg)); have n5_ := Aside0.mk ((nl (g := gb103) (g' := gb111) hg)); have n6_ := Aside0.mk ((nr (g := gb103) (g' := gb111) hg)); clear BK103; clear HB; have BK103 := n0_; have HB := n1_; have BK111 := n2_; have GW111 := n3_; have GE111 := n4_; have NB103_111 := n5_; have NB111_103 := n6_; clear n0_ n1_ n2_ n3_ n4_ n5_ n6_; clear hb hbox hg; have hnb32 := NB111_103.out; have hnc32 := NB103_111.out; obtain ⟨⟨hcz33_0, hcz33_1⟩, hfz33_0, hfz33_1⟩ := b2 BK111.out)); try go_wp2_with (first | ((with_reducible refine gate_dst (N := 6) rfl ?_); (try (refine gate_guard (by rfl) ?_; dsimp only)); refine box_event ?hg (N := 6) ?hd (cs := #[.int .i64 0, .int .u8 0]) (t := 64) ?hr ?_; (case hd => rfl); (case hg => rfl); (case hr => first | (go_simp; done) | (go_simp; rfl)); intro gb111 hg w31 hbox hb; have n0_ := Aside0.mk (blk_below (g := gb103) (o := .cells #[.slice A0_0 l0_0.length c0_0, .slice (some ad108) l0_1.length c0_1, .slice A0_2 l0_2.length c0_2] 25 (0, 0)) bk hb); have n1_ := Aside0.mk (below_step bl hb); have n2_ := Aside0.mk (hbox); have n3_ := Aside0.mk ((sz hg)); have n4_ := Aside0.mk ((sz hg)); have n5_ := Aside0.mk ((nl (g := gb103) (g' := gb111) hg)); have n6_ := Aside0.mk ((nr (g := gb103) (g' := gb111) hg)); clear BK103; clear HB; have BK103 := n0_; have HB := n1_; have BK111 := n2_; have GW111 := n3_; have GE111 := n4_; have NB103_111 := n5_; have NB111_103 := n6_; clear n0_ n1_ n2_ n3_ n4_ n5_ n6_; clear hb hbox hg; have hnb32 := NB111_103.out; have hnc32 := NB103_111.out; obtain ⟨⟨hcz33_0, hcz33_1⟩, hfz33_0, hfz33_1⟩ := b2 BK111.out)))
                 go_ret
                 exact ⟨by first | rfl | (simp [errW_none, errW_some] <;> rfl) | (simp [*, errW_none, errW_some] <;> rfl), bl⟩
                ·rw [if_neg c29] at H
                 have c29b0 : (((rd_T64 (rd_L4 l0_1 x4_3) x5_4).f1) == 0) = false := beq_eq_false_iff_ne.mpr c29
                 have c29b1 : (((rd_T64 (rd_L4 l0_1 x4_3) x5_4).f1) != 0) = true := bne_iff_ne.mpr c29
                 by_cases c34 : ((rd_T64 (rd_L4 l0_1 x4_3) x5_4).f0) < 0
                 ·rw [if_pos c34] at H
                  have c34b0 : decide (((rd_T64 (rd_L4 l0_1 x4_3) x5_4).f0) < 0) = true := decide_eq_true c34
                  clear c34
                  obtain rfl := Option.some.inj H
                  obtain ⟨⟨hcz35_0, hcz35_1, hcz35_2⟩, hfz35_0, hfz35_1, hfz35_2⟩ := b3 BK103.out
                  have p108 : 0 ≤ (x4_3 : Int) := dt
                  have q108 : x4_3 < (l0_1.length : Int) := dt
                  obtain ⟨ad108, A108_0, c108_0, e108, hx108_0, hl108_0, hi108_0⟩ := at_L4 HR0_1.out x4_3 p108 q108
                  cases e108
                  replace hx108_0 := cx HB hx108_0
                  have HR108_0 := Aside0.mk hi108_0
                  have HC108_0 := Aside0.mk hl108_0
                  clear hi108_0 hl108_0
                  replace p108 := eq_true p108
                  replace q108 := eq_true q108
                  have p109 : 0 ≤ (x4_3 : Int) := dt
                  have q109 : x4_3 < (l0_1.length : Int) := dt
                  obtain ⟨ad109, A109_0, c109_0, e109, hx109_0, hl109_0, hi109_0⟩ := at_L4 HR0_1.out x4_3 p109 q109
                  obtain rfl : ad108 = ad109 := (by injection e109)
                  replace hx109_0 := cx HB hx109_0
                  have HR109_0 := Aside0.mk hi109_0
                  have HC109_0 := Aside0.mk hl109_0
                  clear hi109_0 hl109_0
                  replace p109 := eq_true p109
                  replace q109 := eq_true q109
                  have ea_ := Option.some.inj (hx108_0.symm.trans hx109_0)
                  injection ea_ with ea_ en_ ec_
                  subst ea_
                  subst ec_
                  clear en_
                  have p110 : 0 ≤ (x5_4 : Int) := dt
                  have q110 : x5_4 < ((rd_L4 l0_1 x4_3).length : Int) := dt
                  obtain ⟨ad110, e110, hx110_0, hx110_1⟩ := at_T64 HR109_0.out x5_4 p110 q110
                  cases e110
                  replace hx110_0 := cx HB hx110_0
                  replace hx110_1 := cx HB hx110_1
                  replace p110 := eq_true p110
                  replace q110 := eq_true q110
                  go_wp2_with (first | ((with_reducible refine gate_dst (N := 6) rfl ?_); (try (refine gate_guard (by rfl) ?_; dsimp only)); refine box_event ?hg (N := 6) ?hd (cs := #[.int .i64 0, .int .u8 0]) (t := 64) ?hr ?_; (case hd => rfl); (case hg => rfl); (case hr => first | (go_simp; done) | (go_simp; rfl)); intro gb111 hg w36 hbox hb; have n0_ := Aside0.mk (blk_below (g := gb103) (o := .cells #[.slice A0_0 l0_0.length c0_0, .slice (some ad108) l0_1.length c0_1, .slice A0_2 l0_2.length c0_2] 25 (0, 0)) bk hb); have n1_ := Aside0.mk (below_step bl hb); have n2_ := Aside0.mk (hbox); have n3_ := Aside0.mk ((sz hg)); have n4_ := Aside0.mk ((sz hg)); have n5_ := Aside0.mk ((nl (g := gb103) (g' := gb111) hg)); have n6_ := Aside0.mk ((nr (g := gb103) (g' := gb111) hg)); clear BK103; clear HB; have BK103 := n0_; have HB := n1_; have BK111 := n2_; have GW111 := n3_; have GE111 := n4_; have NB103_111 := n5_; have NB111_103 := n6_; clear n0_ n1_ n2_ n3_ n4_ n5_ n6_; clear hb hbox hg; have hnb37 := NB111_103.out; have hnc37 := NB103_111.out; obtain ⟨⟨hcz38_0, hcz38_1⟩, hfz38_0, hfz38_1⟩ := b2 BK111.out))
                  repeat (go_quiet (first | ((with_reducible refine gate_dst (N := 6) rfl ?_); (try (refine gate_guard (by rfl) ?_; dsimp only)); refine box_event ?hg (N := 6) ?hd (cs := #[.int .i64 0, .int .u8 0]) (t := 64) ?hr ?_; (case hd => rfl); (case hg => rfl); (case hr => first | (go_simp; done) | (go_simp; rfl)); intro gb111 hg w36 hbox hb; have n0_ := Aside0.mk (blk_below (g := gb103) (o := .cells #[.slice A0_0 l0_0.length c0_0, .slice (some ad108) l0_1.length c0_1, .slice A0_2 l0_2.length c0_2] 25 (0, 0)) bk hb); have n1_ := Aside0.mk (below_step bl hb); have n2_ := Aside0.mk (hbox); have n3_ := Aside0.mk ((sz hg)); have n4_ := Aside0.mk ((sz hg)); have n5_ := Aside0.mk ((nl (g := gb103) (g' := gb111) hg)); have n6_ := Aside0.mk ((nr (g := gb103) (g' := gb111) hg)); clear BK103; clear HB; have BK103 := n0_; have HB := n1_; have BK111 := n2_; have GW111 := n3_; have GE111 := n4_; have NB103_111 := n5_; have NB111_103 := n6_; clear n0_ n1_ n2_ n3_ n4_ n5_ n6_; clear hb hbox hg; have hnb37 := NB111_103.out; have hnc37 := NB103_111.out; obtain ⟨⟨hcz38_0, hcz38_1⟩, hfz38_0, hfz38_1⟩ := b2 BK111.out)); try go_wp2_with (first | ((with_reducible refine gate_dst (N := 6) rfl ?_); (try (refine gate_guard (by rfl) ?_; dsimp only)); refine box_event ?hg (N := 6) ?hd (cs := #[.int .i64 0, .int .u8 0]) (t := 64) ?hr ?_; (case hd => rfl); (case hg => rfl); (case hr => first | (go_simp; done) | (go_simp; rfl)); intro gb111 hg w36 hbox hb; have n0_ := Aside0.mk (blk_below (g := gb103) (o := .cells #[.slice A0_0 l0_0.length c0_0, .slice (some ad108) l0_1.length c0_1, .slice A0_2 l0_2.length c0_2] 25 (0, 0)) bk hb); have n1_ := Aside0.mk (below_step bl hb); have n2_ := Aside0.mk (hbox); have n3_ := Aside0.mk ((sz hg)); have n4_ := Aside0.mk ((sz hg)); have n5_ := Aside0.mk ((nl (g := gb103) (g' := gb111) hg)); have n6_ := Aside0.mk ((nr (g := gb103) (g' := gb111) hg)); clear BK103; clear HB; have BK103 := n0_; have HB := n1_; have BK111 := n2_; have GW111 := n3_; have GE111 := n4_; have NB103_111 := n5_; have NB111_103 := n6_; clear n0_ n1_ n2_ n3_ n4_ n5_ n6_; clear hb hbox hg; have hnb37 := NB111_103.out; have hnc37 := NB103_111.out; obtain ⟨⟨hcz38_0, hcz38_1⟩, hfz38_0, hfz38_1⟩ := b2 BK111.out)))
                  go_ret
                  exact ⟨by first | rfl | (simp [errW_none, errW_some] <;> rfl) | (simp [*, errW_none, errW_some] <;> rfl), bl⟩
                 ·rw [if_neg c34] at H
                  have c34b0 : decide (((rd_T64 (rd_L4 l0_1 x4_3) x5_4).f0) < 0) = false := decide_eq_false c34
                  clear c34
                  by_cases c39 : ((rd_T64 (rd_L4 l0_1 x4_3) x5_4).f0) ≥ (wrap64 ((l0_0.length : Int) + x4_3))
                  ·rw [if_pos c39] at H
                   have c39b0 : decide ((wrap64 ((l0_0.length : Int) + x4_3)) ≤ ((rd_T64 (rd_L4 l0_1 x4_3) x5_4).f0)) = true := decide_eq_true c39
                   clear c39
                   obtain rfl := Option.some.inj H
                   obtain ⟨⟨hcz40_0, hcz40_1, hcz40_2⟩, hfz40_0, hfz40_1, hfz40_2⟩ := b3 BK103.out
                   have p108 : 0 ≤ (x4_3 : Int) := dt
                   have q108 : x4_3 < (l0_1.length : Int) := dt
                   obtain ⟨ad108, A108_0, c108_0, e108, hx108_0, hl108_0, hi108_0⟩ := at_L4 HR0_1.out x4_3 p108 q108
                   cases e108
                   replace hx108_0 := cx HB hx108_0
                   have HR108_0 := Aside0.mk hi108_0
                   have HC108_0 := Aside0.mk hl108_0
                   clear hi108_0 hl108_0
                   replace p108 := eq_true p108
                   replace q108 := eq_true q108
                   have p109 : 0 ≤ (x4_3 : Int) := dt
                   have q109 : x4_3 < (l0_1.length : Int) := dt
                   obtain ⟨ad109, A109_0, c109_0, e109, hx109_0, hl109_0, hi109_0⟩ := at_L4 HR0_1.out x4_3 p109 q109
                   obtain rfl : ad108 = ad109 := (by injection e109)
                   replace hx109_0 := cx HB hx109_0
                   have HR109_0 := Aside0.mk hi109_0
                   have HC109_0 := Aside0.mk hl109_0
                   clear hi109_0 hl109_0
                   replace p109 := eq_true p109
                   replace q109 := eq_true q109
                   have ea_ := Option.some.inj (hx108_0.symm.trans hx109_0)
                   injection ea_ with ea_ en_ ec_
                   subst ea_
                   subst ec_
                   clear en_
                   have p110 : 0 ≤ (x5_4 : Int) := dt
                   have q110 : x5_4 < ((rd_L4 l0_1 x4_3).length : Int) := dt
                   obtain ⟨ad110, e110, hx110_0, hx110_1⟩ := at_T64 HR109_0.out x5_4 p110 q110
                   cases e110
                   replace hx110_0 := cx HB hx110_0
                   replace hx110_1 := cx HB hx110_1
                   replace p110 := eq_true p110
                   replace q110 := eq_true q110
                   go_wp2_with (first | ((with_reducible refine gate_dst (N := 6) rfl ?_); (try (refine gate_guard (by rfl) ?_; dsimp only)); refine box_event ?hg (N := 6) ?hd (cs := #[.int .i64 0, .int .u8 0]) (t := 64) ?hr ?_; (case hd => rfl); (case hg => rfl); (case hr => first | (go_simp; done) | (go_simp; rfl)); intro gb111 hg w41 hbox hb; have n0_ := Aside0.mk (blk_below (g := gb103) (o := .cells #[.slice A0_0 l0_0.length c0_0, .slice (some ad108) l0_1.length c0_1, .slice A0_2 l0_2.length c0_2] 25 (0, 0)) bk hb); have n1_ := Aside0.mk (below_step bl hb); have n2_ := Aside0.mk (hbox); have n3_ := Aside0.mk ((sz hg)); have n4_ := Aside0.mk ((sz hg)); have n5_ := Aside0.mk ((nl (g := gb103) (g' := gb111) hg)); have n6_ := Aside0.mk ((nr (g := gb103) (g' := gb111) hg)); clear BK103; clear HB; have BK103 := n0_; have HB := n1_; have BK111 := n2_; have GW111 := n3_; have GE111 := n4_; have NB103_111 := n5_; have NB111_103 := n6_; clear n0_ n1_ n2_ n3_ n4_ n5_ n6_; clear hb hbox hg; have hnb42 := NB111_103.out; have hnc42 := NB103_111.out; obtain ⟨⟨hcz43_0, hcz43_1⟩, hfz43_0, hfz43_1⟩ := b2 BK111.out; obtain ⟨⟨hcz44_0, hcz44_1, hcz44_2⟩, hfz44_0, hfz44_1, hfz44_2⟩ := b3 BK103.out))
                   repeat (go_quiet (first | ((with_reducible refine gate_dst (N := 6) rfl ?_); (try (refine gate_guard (by rfl) ?_; dsimp only)); refine box_event ?hg (N := 6) ?hd (cs := #[.int .i64 0, .int .u8 0]) (t := 64) ?hr ?_; (case hd => rfl); (case hg => rfl); (case hr => first | (go_simp; done) | (go_simp; rfl)); intro gb111 hg w41 hbox hb; have n0_ := Aside0.mk (blk_below (g := gb103) (o := .cells #[.slice A0_0 l0_0.length c0_0, .slice (some ad108) l0_1.length c0_1, .slice A0_2 l0_2.length c0_2] 25 (0, 0)) bk hb); have n1_ := Aside0.mk (below_step bl hb); have n2_ := Aside0.mk (hbox); have n3_ := Aside0.mk ((sz hg)); have n4_ := Aside0.mk ((sz hg)); have n5_ := Aside0.mk ((nl (g := gb103) (g' := gb111) hg)); have n6_ := Aside0.mk ((nr (g := gb103) (g' := gb111) hg)); clear BK103; clear HB; have BK103 := n0_; have HB := n1_; have BK111 := n2_; have GW111 := n3_; have GE111 := n4_; have NB103_111 := n5_; have NB111_103 := n6_; clear n0_ n1_ n2_ n3_ n4_ n5_ n6_; clear hb hbox hg; have hnb42 := NB111_103.out; have hnc42 := NB103_111.out; obtain ⟨⟨hcz43_0, hcz43_1⟩, hfz43_0, hfz43_1⟩ := b2 BK111.out; obtain ⟨⟨hcz44_0, hcz44_1, hcz44_2⟩, hfz44_0, hfz44_1, hfz44_2⟩ := b3 BK103.out)); try go_wp2_with (first | ((with_reducible refine gate_dst (N := 6) rfl ?_); (try (refine gate_guard (by rfl) ?_; dsimp only)); refine box_event ?hg (N := 6) ?hd (cs := #[.int .i64 0, .int .u8 0]) (t := 64) ?hr ?_; (case hd => rfl); (case hg => rfl); (case hr => first | (go_simp; done) | (go_simp; rfl)); intro gb111 hg w41 hbox hb; have n0_ := Aside0.mk (blk_below (g := gb103) (o := .cells #[.slice A0_0 l0_0.length c0_0, .slice (some ad108) l0_1.length c0_1, .slice A0_2 l0_2.length c0_2] 25 (0, 0)) bk hb); have n1_ := Aside0.mk (below_step bl hb); have n2_ := Aside0.mk (hbox); have n3_ := Aside0.mk ((sz hg)); have n4_ := Aside0.mk ((sz hg)); have n5_ := Aside0.mk ((nl (g := gb103) (g' := gb111) hg)); have n6_ := Aside0.mk ((nr (g := gb103) (g' := gb111) hg)); clear BK103; clear HB; have BK103 := n0_; have HB := n1_; have BK111 := n2_; have GW111 := n3_; have GE111 := n4_; have NB103_111 := n5_; have NB111_103 := n6_; clear n0_ n1_ n2_ n3_ n4_ n5_ n6_; clear hb hbox hg; have hnb42 := NB111_103.out; have hnc42 := NB103_111.out; obtain ⟨⟨hcz43_0, hcz43_1⟩, hfz43_0, hfz43_1⟩ := b2 BK111.out; obtain ⟨⟨hcz44_0, hcz44_1, hcz44_2⟩, hfz44_0, hfz44_1, hfz44_2⟩ := b3 BK103.out)))
                   go_ret
                   exact ⟨by first | rfl | (simp [errW_none, errW_some] <;> rfl) | (simp [*, errW_none, errW_some] <;> rfl), bl⟩
                  ·rw [if_neg c39] at H
                   have c39b0 : decide ((wrap64 ((l0_0.length : Int) + x4_3)) ≤ ((rd_T64 (rd_L4 l0_1 x4_3) x5_4).f0)) = false := decide_eq_false c39
                   clear c39
                   by_cases c45 : x5_4 > 0
                   ·rw [if_pos c45] at H
                    have c45b0 : decide (0 < x5_4) = true := decide_eq_true c45
                    clear c45
                    obtain ⟨ji46, hji46⟩ : ∃ j_ : Int, (wrap64 (x5_4 - 1)) = j_ := ⟨_, rfl⟩
                    replace H : (if 0 ≤ (ji46) then (if (ji46) < ((rd_L4 l0_1 x4_3).length : Int) then (if ((rd_T64 (rd_L4 l0_1 x4_3) x5_4).f0) ≤ ((rd_T64 (rd_L4 l0_1 x4_3) (ji46)).f0) then (some false) else (recoupref21_May.l2 k4 x4_3 (wrap64 (x5_4 + 1)) l0_0 l0_1 l0_2)) else (none)) else (none)) = some r := by first | (rw [hji46] at H; exact H) | (simp only [hji46] at H ⊢; exact H)
                    have hji46w : (IntKind.i64.wrap (x5_4 - 1)) = ji46 := (i64_w _).trans hji46
                    by_cases c47 : 0 ≤ (ji46)
                    ·rw [if_pos c47] at H
                     have c47b0 : decide (0 ≤ (ji46)) = true := decide_eq_true c47
                     clear c47
                     by_cases c48 : (ji46) < ((rd_L4 l0_1 x4_3).length : Int)
                     ·rw [if_pos c48] at H
                      have c48b0 : decide ((ji46) < ((rd_L4 l0_1 x4_3).length : Int)) = true := decide_eq_true c48
                      clear c48
                      by_cases c49 : ((rd_T64 (rd_L4 l0_1 x4_3) x5_4).f0) ≤ ((rd_T64 (rd_L4 l0_1 x4_3) (ji46)).f0)
                      ·rw [if_pos c49] at H
                       have c49b0 : decide (((rd_T64 (rd_L4 l0_1 x4_3) x5_4).f0) ≤ ((rd_T64 (rd_L4 l0_1 x4_3) (ji46)).f0)) = true := decide_eq_true c49
                       clear c49
                       obtain rfl := Option.some.inj H
                       obtain ⟨⟨hcz50_0, hcz50_1, hcz50_2⟩, hfz50_0, hfz50_1, hfz50_2⟩ := b3 BK103.out
                       have p108 : 0 ≤ (x4_3 : Int) := dt
                       have q108 : x4_3 < (l0_1.length : Int) := dt
                       obtain ⟨ad108, A108_0, c108_0, e108, hx108_0, hl108_0, hi108_0⟩ := at_L4 HR0_1.out x4_3 p108 q108
                       cases e108
                       replace hx108_0 := cx HB hx108_0
                       have HR108_0 := Aside0.mk hi108_0
                       have HC108_0 := Aside0.mk hl108_0
                       clear hi108_0 hl108_0
                       replace p108 := eq_true p108
                       replace q108 := eq_true q108
                       have p109 : 0 ≤ (x4_3 : Int) := dt
                       have q109 : x4_3 < (l0_1.length : Int) := dt
                       obtain ⟨ad109, A109_0, c109_0, e109, hx109_0, hl109_0, hi109_0⟩ := at_L4 HR0_1.out x4_3 p109 q109
                       obtain rfl : ad108 = ad109 := (by injection e109)
                       replace hx109_0 := cx HB hx109_0
                       have HR109_0 := Aside0.mk hi109_0
                       have HC109_0 := Aside0.mk hl109_0
                       clear hi109_0 hl109_0
                       replace p109 := eq_true p109
                       replace q109 := eq_true q109
                       have ea_ := Option.some.inj (hx108_0.symm.trans hx109_0)
                       injection ea_ with ea_ en_ ec_
                       subst ea_
                       subst ec_
                       clear en_
                       have p110 : 0 ≤ (x5_4 : Int) := dt
                       have q110 : x5_4 < ((rd_L4 l0_1 x4_3).length : Int) := dt
                       obtain ⟨ad110, e110, hx110_0, hx110_1⟩ := at_T64 HR109_0.out x5_4 p110 q110
                       cases e110
                       replace hx110_0 := cx HB hx110_0
                       replace hx110_1 := cx HB hx110_1
                       replace p110 := eq_true p110
                       replace q110 := eq_true q110
                       go_wp2_with (first | ((with_reducible refine gate_dst (N := 6) rfl ?_); (try (refine gate_guard (by rfl) ?_; dsimp only)); refine box_event ?hg (N := 6) ?hd (cs := #[.int .i64 0, .int .u8 0]) (t := 64) ?hr ?_; (case hd => rfl); (case hg => rfl); (case hr => first | (go_simp; done) | (go_simp; rfl)); intro gb111 hg w51 hbox hb; have n0_ := Aside0.mk (blk_below (g := gb103) (o := .cells #[.slice A0_0 l0_0.length c0_0, .slice (some ad108) l0_1.length c0_1, .slice A0_2 l0_2.length c0_2] 25 (0, 0)) bk hb); have n1_ := Aside0.mk (below_step bl hb); have n2_ := Aside0.mk (hbox); have n3_ := Aside0.mk ((sz hg)); have n4_ := Aside0.mk ((sz hg)); have n5_ := Aside0.mk ((nl (g := gb103) (g' := gb111) hg)); have n6_ := Aside0.mk ((nr (g := gb103) (g' := gb111) hg)); clear BK103; clear HB; have BK103 := n0_; have HB := n1_; have BK111 := n2_; have GW111 := n3_; have GE111 := n4_; have NB103_111 := n5_; have NB111_103 := n6_; clear n0_ n1_ n2_ n3_ n4_ n5_ n6_; clear hb hbox hg; have hnb52 := NB111_103.out; have hnc52 := NB103_111.out; obtain ⟨⟨hcz53_0, hcz53_1⟩, hfz53_0, hfz53_1⟩ := b2 BK111.out; obtain ⟨⟨hcz54_0, hcz54_1, hcz54_2⟩, hfz54_0, hfz54_1, hfz54_2⟩ := b3 BK103.out; have p112 : 0 ≤ (x4_3 : Int) := dt; have q112 : x4_3 < (l0_1.length : Int) := dt; obtain ⟨ad112, A112_0, c112_0, e112, hx112_0, hl112_0, hi112_0⟩ := at_L4 HR0_1.out x4_3 p112 q112; obtain rfl : ad108 = ad112 := (by injection e112); have hn112_0 : ad108.block ≠ gb111 := cn hx112_0 GW111; have hn112_1 : ad108.block ≠ gb111 := cn hx112_0 GW111; replace hx112_0 := cx HB hx112_0; have HR112_0 := Aside0.mk hi112_0; have HC112_0 := Aside0.mk hl112_0; clear hi112_0 hl112_0; replace hx112_0 := (cell_far (p := ⟨gb111, 0, none⟩) (ab hn112_0) (.int .i64 ((rd_T64 (rd_L4 l0_1 x4_3) x5_4).f0))).trans hx112_0; replace hx112_0 := (cell_far (p := ⟨gb111, 1, none⟩) (ab hn112_1) (.int .u8 ((rd_T64 (rd_L4 l0_1 x4_3) x5_4).f1))).trans hx112_0; (try have hy112_0 := fun (n_ : Nat) => (show ((((w51.drewN n_).setCell ⟨gb111, 0, none⟩ (.int .i64 ((rd_T64 (rd_L4 l0_1 x4_3) x5_4).f0))).setCell ⟨gb111, 1, none⟩ (.int .u8 ((rd_T64 (rd_L4 l0_1 x4_3) x5_4).f1)))).cell? _ = some _ from hx112_0)); clear hn112_0; clear hn112_1; replace p112 := eq_true p112; replace q112 := eq_true q112; have p113 : 0 ≤ ((ji46) : Int) := dt; have q113 : (ji46) < ((rd_L4 l0_1 x4_3).length : Int) := dt; obtain ⟨ad113, e113, hx113_0, hx113_1⟩ := at_T64 HR112_0.out (ji46) p113 q113; cases e113; have hn113_0 : ad113.block ≠ gb111 := cn hx113_0 GW111; have hn113_1 : ad113.block ≠ gb111 := cn hx113_0 GW111; replace hx113_0 := cx HB hx113_0; replace hx113_1 := cx HB hx113_1; replace hx113_0 := (cell_far (p := ⟨gb111, 0, none⟩) (ab hn113_0) (.int .i64 ((rd_T64 (rd_L4 l0_1 x4_3) x5_4).f0))).trans hx113_0; replace hx113_1 := (cell_far (p := ⟨gb111, 0, none⟩) (ab hn113_0) (.int .i64 ((rd_T64 (rd_L4 l0_1 x4_3) x5_4).f0))).trans hx113_1; replace hx113_0 := (cell_far (p := ⟨gb111, 1, none⟩) (ab hn113_1) (.int .u8 ((rd_T64 (rd_L4 l0_1 x4_3) x5_4).f1))).trans hx113_0; replace hx113_1 := (cell_far (p := ⟨gb111, 1, none⟩) (ab hn113_1) (.int .u8 ((rd_T64 (rd_L4 l0_1 x4_3) x5_4).f1))).trans hx113_1; (try have hy113_0 := fun (n_ : Nat) => (show ((((w51.drewN n_).setCell ⟨gb111, 0, none⟩ (.int .i64 ((rd_T64 (rd_L4 l0_1 x4_3) x5_4).f0))).setCell ⟨gb111, 1, none⟩ (.int .u8 ((rd_T64 (rd_L4 l0_1 x4_3) x5_4).f1)))).cell? _ = some _ from hx113_0)); (try have hy113_1 := fun (n_ : Nat) => (show ((((w51.drewN n_).setCell ⟨gb111, 0, none⟩ (.int .i64 ((rd_T64 (rd_L4 l0_1 x4_3) x5_4).f0))).setCell ⟨gb111, 1, none⟩ (.int .u8 ((rd_T64 (rd_L4 l0_1 x4_3) x5_4).f1)))).cell? _ = some _ from hx113_1)); clear hn113_0; clear hn113_1; replace p113 := eq_true p113; replace q113 := eq_true q113))
                       repeat (go_quiet (first | ((with_reducible refine gate_dst (N := 6) rfl ?_); (try (refine gate_guard (by rfl) ?_; dsimp only)); refine box_event ?hg (N := 6) ?hd (cs := #[.int .i64 0, .int .u8 0]) (t := 64) ?hr ?_; (case hd => rfl); (case hg => rfl); (case hr => first | (go_simp; done) | (go_simp; rfl)); intro gb111 hg w51 hbox hb; have n0_ := Aside0.mk (blk_below (g := gb103) (o := .cells #[.slice A0_0 l0_0.length c0_0, .slice (some ad108) l0_1.length c0_1, .slice A0_2 l0_2.length c0_2] 25 (0, 0)) bk hb); have n1_ := Aside0.mk (below_step bl hb); have n2_ := Aside0.mk (hbox); have n3_ := Aside0.mk ((sz hg)); have n4_ := Aside0.mk ((sz hg)); have n5_ := Aside0.mk ((nl (g := gb103) (g' := gb111) hg)); have n6_ := Aside0.mk ((nr (g := gb103) (g' := gb111) hg)); clear BK103; clear HB; have BK103 := n0_; have HB := n1_; have BK111 := n2_; have GW111 := n3_; have GE111 := n4_; have NB103_111 := n5_; have NB111_103 := n6_; clear n0_ n1_ n2_ n3_ n4_ n5_ n6_; clear hb hbox hg; have hnb52 := NB111_103.out; have hnc52 := NB103_111.out; obtain ⟨⟨hcz53_0, hcz53_1⟩, hfz53_0, hfz53_1⟩ := b2 BK111.out; obtain ⟨⟨hcz54_0, hcz54_1, hcz54_2⟩, hfz54_0, hfz54_1, hfz54_2⟩ := b3 BK103.out; have p112 : 0 ≤ (x4_3 : Int) := dt; have q112 : x4_3 < (l0_1.length : Int) := dt; obtain ⟨ad112, A112_0, c112_0, e112, hx112_0, hl112_0, hi112_0⟩ := at_L4 HR0_1.out x4_3 p112 q112; obtain rfl : ad108 = ad112 := (by injection e112); have hn112_0 : ad108.block ≠ gb111 := cn hx112_0 GW111; have hn112_1 : ad108.block ≠ gb111 := cn hx112_0 GW111; replace hx112_0 := cx HB hx112_0; have HR112_0 := Aside0.mk hi112_0; have HC112_0 := Aside0.mk hl112_0; clear hi112_0 hl112_0; replace hx112_0 := (cell_far (p := ⟨gb111, 0, none⟩) (ab hn112_0) (.int .i64 ((rd_T64 (rd_L4 l0_1 x4_3) x5_4).f0))).trans hx112_0; replace hx112_0 := (cell_far (p := ⟨gb111, 1, none⟩) (ab hn112_1) (.int .u8 ((rd_T64 (rd_L4 l0_1 x4_3) x5_4).f1))).trans hx112_0; (try have hy112_0 := fun (n_ : Nat) => (show ((((w51.drewN n_).setCell ⟨gb111, 0, none⟩ (.int .i64 ((rd_T64 (rd_L4 l0_1 x4_3) x5_4).f0))).setCell ⟨gb111, 1, none⟩ (.int .u8 ((rd_T64 (rd_L4 l0_1 x4_3) x5_4).f1)))).cell? _ = some _ from hx112_0)); clear hn112_0; clear hn112_1; replace p112 := eq_true p112; replace q112 := eq_true q112; have p113 : 0 ≤ ((ji46) : Int) := dt; have q113 : (ji46) < ((rd_L4 l0_1 x4_3).length : Int) := dt; obtain ⟨ad113, e113, hx113_0, hx113_1⟩ := at_T64 HR112_0.out (ji46) p113 q113; cases e113; have hn113_0 : ad113.block ≠ gb111 := cn hx113_0 GW111; have hn113_1 : ad113.block ≠ gb111 := cn hx113_0 GW111; replace hx113_0 := cx HB hx113_0; replace hx113_1 := cx HB hx113_1; replace hx113_0 := (cell_far (p := ⟨gb111, 0, none⟩) (ab hn113_0) (.int .i64 ((rd_T64 (rd_L4 l0_1 x4_3) x5_4).f0))).trans hx113_0; replace hx113_1 := (cell_far (p := ⟨gb111, 0, none⟩) (ab hn113_0) (.int .i64 ((rd_T64 (rd_L4 l0_1 x4_3) x5_4).f0))).trans hx113_1; replace hx113_0 := (cell_far (p := ⟨gb111, 1, none⟩) (ab hn113_1) (.int .u8 ((rd_T64 (rd_L4 l0_1 x4_3) x5_4).f1))).trans hx113_0; replace hx113_1 := (cell_far (p := ⟨gb111, 1, none⟩) (ab hn113_1) (.int .u8 ((rd_T64 (rd_L4 l0_1 x4_3) x5_4).f1))).trans hx113_1; (try have hy113_0 := fun (n_ : Nat) => (show ((((w51.drewN n_).setCell ⟨gb111, 0, none⟩ (.int .i64 ((rd_T64 (rd_L4 l0_1 x4_3) x5_4).f0))).setCell ⟨gb111, 1, none⟩ (.int .u8 ((rd_T64 (rd_L4 l0_1 x4_3) x5_4).f1)))).cell? _ = some _ from hx113_0)); (try have hy113_1 := fun (n_ : Nat) => (show ((((w51.drewN n_).setCell ⟨gb111, 0, none⟩ (.int .i64 ((rd_T64 (rd_L4 l0_1 x4_3) x5_4).f0))).setCell ⟨gb111, 1, none⟩ (.int .u8 ((rd_T64 (rd_L4 l0_1 x4_3) x5_4).f1)))).cell? _ = some _ from hx113_1)); clear hn113_0; clear hn113_1; replace p113 := eq_true p113; replace q113 := eq_true q113)); try go_wp2_with (first | ((with_reducible refine gate_dst (N := 6) rfl ?_); (try (refine gate_guard (by rfl) ?_; dsimp only)); refine box_event ?hg (N := 6) ?hd (cs := #[.int .i64 0, .int .u8 0]) (t := 64) ?hr ?_; (case hd => rfl); (case hg => rfl); (case hr => first | (go_simp; done) | (go_simp; rfl)); intro gb111 hg w51 hbox hb; have n0_ := Aside0.mk (blk_below (g := gb103) (o := .cells #[.slice A0_0 l0_0.length c0_0, .slice (some ad108) l0_1.length c0_1, .slice A0_2 l0_2.length c0_2] 25 (0, 0)) bk hb); have n1_ := Aside0.mk (below_step bl hb); have n2_ := Aside0.mk (hbox); have n3_ := Aside0.mk ((sz hg)); have n4_ := Aside0.mk ((sz hg)); have n5_ := Aside0.mk ((nl (g := gb103) (g' := gb111) hg)); have n6_ := Aside0.mk ((nr (g := gb103) (g' := gb111) hg)); clear BK103; clear HB; have BK103 := n0_; have HB := n1_; have BK111 := n2_; have GW111 := n3_; have GE111 := n4_; have NB103_111 := n5_; have NB111_103 := n6_; clear n0_ n1_ n2_ n3_ n4_ n5_ n6_; clear hb hbox hg; have hnb52 := NB111_103.out; have hnc52 := NB103_111.out; obtain ⟨⟨hcz53_0, hcz53_1⟩, hfz53_0, hfz53_1⟩ := b2 BK111.out; obtain ⟨⟨hcz54_0, hcz54_1, hcz54_2⟩, hfz54_0, hfz54_1, hfz54_2⟩ := b3 BK103.out; have p112 : 0 ≤ (x4_3 : Int) := dt; have q112 : x4_3 < (l0_1.length : Int) := dt; obtain ⟨ad112, A112_0, c112_0, e112, hx112_0, hl112_0, hi112_0⟩ := at_L4 HR0_1.out x4_3 p112 q112; obtain rfl : ad108 = ad112 := (by injection e112); have hn112_0 : ad108.block ≠ gb111 := cn hx112_0 GW111; have hn112_1 : ad108.block ≠ gb111 := cn hx112_0 GW111; replace hx112_0 := cx HB hx112_0; have HR112_0 := Aside0.mk hi112_0; have HC112_0 := Aside0.mk hl112_0; clear hi112_0 hl112_0; replace hx112_0 := (cell_far (p := ⟨gb111, 0, none⟩) (ab hn112_0) (.int .i64 ((rd_T64 (rd_L4 l0_1 x4_3) x5_4).f0))).trans hx112_0; replace hx112_0 := (cell_far (p := ⟨gb111, 1, none⟩) (ab hn112_1) (.int .u8 ((rd_T64 (rd_L4 l0_1 x4_3) x5_4).f1))).trans hx112_0; (try have hy112_0 := fun (n_ : Nat) => (show ((((w51.drewN n_).setCell ⟨gb111, 0, none⟩ (.int .i64 ((rd_T64 (rd_L4 l0_1 x4_3) x5_4).f0))).setCell ⟨gb111, 1, none⟩ (.int .u8 ((rd_T64 (rd_L4 l0_1 x4_3) x5_4).f1)))).cell? _ = some _ from hx112_0)); clear hn112_0; clear hn112_1; replace p112 := eq_true p112; replace q112 := eq_true q112; have p113 : 0 ≤ ((ji46) : Int) := dt; have q113 : (ji46) < ((rd_L4 l0_1 x4_3).length : Int) := dt; obtain ⟨ad113, e113, hx113_0, hx113_1⟩ := at_T64 HR112_0.out (ji46) p113 q113; cases e113; have hn113_0 : ad113.block ≠ gb111 := cn hx113_0 GW111; have hn113_1 : ad113.block ≠ gb111 := cn hx113_0 GW111; replace hx113_0 := cx HB hx113_0; replace hx113_1 := cx HB hx113_1; replace hx113_0 := (cell_far (p := ⟨gb111, 0, none⟩) (ab hn113_0) (.int .i64 ((rd_T64 (rd_L4 l0_1 x4_3) x5_4).f0))).trans hx113_0; replace hx113_1 := (cell_far (p := ⟨gb111, 0, none⟩) (ab hn113_0) (.int .i64 ((rd_T64 (rd_L4 l0_1 x4_3) x5_4).f0))).trans hx113_1; replace hx113_0 := (cell_far (p := ⟨gb111, 1, none⟩) (ab hn113_1) (.int .u8 ((rd_T64 (rd_L4 l0_1 x4_3) x5_4).f1))).trans hx113_0; replace hx113_1 := (cell_far (p := ⟨gb111, 1, none⟩) (ab hn113_1) (.int .u8 ((rd_T64 (rd_L4 l0_1 x4_3) x5_4).f1))).trans hx113_1; (try have hy113_0 := fun (n_ : Nat) => (show ((((w51.drewN n_).setCell ⟨gb111, 0, none⟩ (.int .i64 ((rd_T64 (rd_L4 l0_1 x4_3) x5_4).f0))).setCell ⟨gb111, 1, none⟩ (.int .u8 ((rd_T64 (rd_L4 l0_1 x4_3) x5_4).f1)))).cell? _ = some _ from hx113_0)); (try have hy113_1 := fun (n_ : Nat) => (show ((((w51.drewN n_).setCell ⟨gb111, 0, none⟩ (.int .i64 ((rd_T64 (rd_L4 l0_1 x4_3) x5_4).f0))).setCell ⟨gb111, 1, none⟩ (.int .u8 ((rd_T64 (rd_L4 l0_1 x4_3) x5_4).f1)))).cell? _ = some _ from hx113_1)); clear hn113_0; clear hn113_1; replace p113 := eq_true p113; replace q113 := eq_true q113)))
                       go_ret
                       exact ⟨by first | rfl | (simp [errW_none, errW_some] <;> rfl) | (simp only [← hji46]; first | rfl | (simp [errW_none, errW_some] <;> rfl)) | (simp [*, errW_none, errW_some] <;> rfl), bl⟩
                      ·rw [if_neg c49] at H
                       have c49b0 : decide (((rd_T64 (rd_L4 l0_1 x4_3) x5_4).f0) ≤ ((rd_T64 (rd_L4 l0_1 x4_3) (ji46)).f0)) = false := decide_eq_false c49
                       clear c49
                       have H' := Aside0.mk H
                       clear H
                       obtain ⟨⟨hcz55_0, hcz55_1, hcz55_2⟩, hfz55_0, hfz55_1, hfz55_2⟩ := b3 BK103.out
                       have p108 : 0 ≤ (x4_3 : Int) := dt
                       have q108 : x4_3 < (l0_1.length : Int) := dt
                       obtain ⟨ad108, A108_0, c108_0, e108, hx108_0, hl108_0, hi108_0⟩ := at_L4 HR0_1.out x4_3 p108 q108
                       cases e108
                       replace hx108_0 := cx HB hx108_0
                       have HR108_0 := Aside0.mk hi108_0
                       have HC108_0 := Aside0.mk hl108_0
                       clear hi108_0 hl108_0
                       replace p108 := eq_true p108
                       replace q108 := eq_true q108
                       have p109 : 0 ≤ (x4_3 : Int) := dt
                       have q109 : x4_3 < (l0_1.length : Int) := dt
                       obtain ⟨ad109, A109_0, c109_0, e109, hx109_0, hl109_0, hi109_0⟩ := at_L4 HR0_1.out x4_3 p109 q109
                       obtain rfl : ad108 = ad109 := (by injection e109)
                       replace hx109_0 := cx HB hx109_0
                       have HR109_0 := Aside0.mk hi109_0
                       have HC109_0 := Aside0.mk hl109_0
                       clear hi109_0 hl109_0
                       replace p109 := eq_true p109
                       replace q109 := eq_true q109
                       have ea_ := Option.some.inj (hx108_0.symm.trans hx109_0)
                       injection ea_ with ea_ en_ ec_
                       subst ea_
                       subst ec_
                       clear en_
                       have p110 : 0 ≤ (x5_4 : Int) := dt
                       have q110 : x5_4 < ((rd_L4 l0_1 x4_3).length : Int) := dt
                       obtain ⟨ad110, e110, hx110_0, hx110_1⟩ := at_T64 HR109_0.out x5_4 p110 q110
                       cases e110
                       replace hx110_0 := cx HB hx110_0
                       replace hx110_1 := cx HB hx110_1
                       replace p110 := eq_true p110
                       replace q110 := eq_true q110
                       go_wp2_with (first | ((with_reducible refine gate_dst (N := 6) rfl ?_); (try (refine gate_guard (by rfl) ?_; dsimp only)); refine box_event ?hg (N := 6) ?hd (cs := #[.int .i64 0, .int .u8 0]) (t := 64) ?hr ?_; (case hd => rfl); (case hg => rfl); (case hr => first | (go_simp; done) | (go_simp; rfl)); intro gb111 hg w56 hbox hb; have n0_ := Aside0.mk (blk_below (g := gb103) (o := .cells #[.slice A0_0 l0_0.length c0_0, .slice (some ad108) l0_1.length c0_1, .slice A0_2 l0_2.length c0_2] 25 (0, 0)) bk hb); have n1_ := Aside0.mk (below_step bl hb); have n2_ := Aside0.mk (hbox); have n3_ := Aside0.mk ((sz hg)); have n4_ := Aside0.mk ((sz hg)); have n5_ := Aside0.mk ((nl (g := gb103) (g' := gb111) hg)); have n6_ := Aside0.mk ((nr (g := gb103) (g' := gb111) hg)); clear BK103; clear HB; have BK103 := n0_; have HB := n1_; have BK111 := n2_; have GW111 := n3_; have GE111 := n4_; have NB103_111 := n5_; have NB111_103 := n6_; clear n0_ n1_ n2_ n3_ n4_ n5_ n6_; clear hb hbox hg; have hnb57 := NB111_103.out; have hnc57 := NB103_111.out; obtain ⟨⟨hcz58_0, hcz58_1⟩, hfz58_0, hfz58_1⟩ := b2 BK111.out; obtain ⟨⟨hcz59_0, hcz59_1, hcz59_2⟩, hfz59_0, hfz59_1, hfz59_2⟩ := b3 BK103.out; have p112 : 0 ≤ (x4_3 : Int) := dt; have q112 : x4_3 < (l0_1.length : Int) := dt; obtain ⟨ad112, A112_0, c112_0, e112, hx112_0, hl112_0, hi112_0⟩ := at_L4 HR0_1.out x4_3 p112 q112; obtain rfl : ad108 = ad112 := (by injection e112); have hn112_0 : ad108.block ≠ gb111 := cn hx112_0 GW111; have hn112_1 : ad108.block ≠ gb111 := cn hx112_0 GW111; replace hx112_0 := cx HB hx112_0; have HR112_0 := Aside0.mk hi112_0; have HC112_0 := Aside0.mk hl112_0; clear hi112_0 hl112_0; replace hx112_0 := (cell_far (p := ⟨gb111, 0, none⟩) (ab hn112_0) (.int .i64 ((rd_T64 (rd_L4 l0_1 x4_3) x5_4).f0))).trans hx112_0; replace hx112_0 := (cell_far (p := ⟨gb111, 1, none⟩) (ab hn112_1) (.int .u8 ((rd_T64 (rd_L4 l0_1 x4_3) x5_4).f1))).trans hx112_0; (try have hy112_0 := fun (n_ : Nat) => (show ((((w56.drewN n_).setCell ⟨gb111, 0, none⟩ (.int .i64 ((rd_T64 (rd_L4 l0_1 x4_3) x5_4).f0))).setCell ⟨gb111, 1, none⟩ (.int .u8 ((rd_T64 (rd_L4 l0_1 x4_3) x5_4).f1)))).cell? _ = some _ from hx112_0)); clear hn112_0; clear hn112_1; replace p112 := eq_true p112; replace q112 := eq_true q112; have p113 : 0 ≤ ((ji46) : Int) := dt; have q113 : (ji46) < ((rd_L4 l0_1 x4_3).length : Int) := dt; obtain ⟨ad113, e113, hx113_0, hx113_1⟩ := at_T64 HR112_0.out (ji46) p113 q113; cases e113; have hn113_0 : ad113.block ≠ gb111 := cn hx113_0 GW111; have hn113_1 : ad113.block ≠ gb111 := cn hx113_0 GW111; replace hx113_0 := cx HB hx113_0; replace hx113_1 := cx HB hx113_1; replace hx113_0 := (cell_far (p := ⟨gb111, 0, none⟩) (ab hn113_0) (.int .i64 ((rd_T64 (rd_L4 l0_1 x4_3) x5_4).f0))).trans hx113_0; replace hx113_1 := (cell_far (p := ⟨gb111, 0, none⟩) (ab hn113_0) (.int .i64 ((rd_T64 (rd_L4 l0_1 x4_3) x5_4).f0))).trans hx113_1; replace hx113_0 := (cell_far (p := ⟨gb111, 1, none⟩) (ab hn113_1) (.int .u8 ((rd_T64 (rd_L4 l0_1 x4_3) x5_4).f1))).trans hx113_0; replace hx113_1 := (cell_far (p := ⟨gb111, 1, none⟩) (ab hn113_1) (.int .u8 ((rd_T64 (rd_L4 l0_1 x4_3) x5_4).f1))).trans hx113_1; (try have hy113_0 := fun (n_ : Nat) => (show ((((w56.drewN n_).setCell ⟨gb111, 0, none⟩ (.int .i64 ((rd_T64 (rd_L4 l0_1 x4_3) x5_4).f0))).setCell ⟨gb111, 1, none⟩ (.int .u8 ((rd_T64 (rd_L4 l0_1 x4_3) x5_4).f1)))).cell? _ = some _ from hx113_0)); (try have hy113_1 := fun (n_ : Nat) => (show ((((w56.drewN n_).setCell ⟨gb111, 0, none⟩ (.int .i64 ((rd_T64 (rd_L4 l0_1 x4_3) x5_4).f0))).setCell ⟨gb111, 1, none⟩ (.int .u8 ((rd_T64 (rd_L4 l0_1 x4_3) x5_4).f1)))).cell? _ = some _ from hx113_1)); clear hn113_0; clear hn113_1; replace p113 := eq_true p113; replace q113 := eq_true q113))
                       repeat (go_quiet (first | ((with_reducible refine gate_dst (N := 6) rfl ?_); (try (refine gate_guard (by rfl) ?_; dsimp only)); refine box_event ?hg (N := 6) ?hd (cs := #[.int .i64 0, .int .u8 0]) (t := 64) ?hr ?_; (case hd => rfl); (case hg => rfl); (case hr => first | (go_simp; done) | (go_simp; rfl)); intro gb111 hg w56 hbox hb; have n0_ := Aside0.mk (blk_below (g := gb103) (o := .cells #[.slice A0_0 l0_0.length c0_0, .slice (some ad108) l0_1.length c0_1, .slice A0_2 l0_2.length c0_2] 25 (0, 0)) bk hb); have n1_ := Aside0.mk (below_step bl hb); have n2_ := Aside0.mk (hbox); have n3_ := Aside0.mk ((sz hg)); have n4_ := Aside0.mk ((sz hg)); have n5_ := Aside0.mk ((nl (g := gb103) (g' := gb111) hg)); have n6_ := Aside0.mk ((nr (g := gb103) (g' := gb111) hg)); clear BK103; clear HB; have BK103 := n0_; have HB := n1_; have BK111 := n2_; have GW111 := n3_; have GE111 := n4_; have NB103_111 := n5_; have NB111_103 := n6_; clear n0_ n1_ n2_ n3_ n4_ n5_ n6_; clear hb hbox hg; have hnb57 := NB111_103.out; have hnc57 := NB103_111.out; obtain ⟨⟨hcz58_0, hcz58_1⟩, hfz58_0, hfz58_1⟩ := b2 BK111.out; obtain ⟨⟨hcz59_0, hcz59_1, hcz59_2⟩, hfz59_0, hfz59_1, hfz59_2⟩ := b3 BK103.out; have p112 : 0 ≤ (x4_3 : Int) := dt; have q112 : x4_3 < (l0_1.length : Int) := dt; obtain ⟨ad112, A112_0, c112_0, e112, hx112_0, hl112_0, hi112_0⟩ := at_L4 HR0_1.out x4_3 p112 q112; obtain rfl : ad108 = ad112 := (by injection e112); have hn112_0 : ad108.block ≠ gb111 := cn hx112_0 GW111; have hn112_1 : ad108.block ≠ gb111 := cn hx112_0 GW111; replace hx112_0 := cx HB hx112_0; have HR112_0 := Aside0.mk hi112_0; have HC112_0 := Aside0.mk hl112_0; clear hi112_0 hl112_0; replace hx112_0 := (cell_far (p := ⟨gb111, 0, none⟩) (ab hn112_0) (.int .i64 ((rd_T64 (rd_L4 l0_1 x4_3) x5_4).f0))).trans hx112_0; replace hx112_0 := (cell_far (p := ⟨gb111, 1, none⟩) (ab hn112_1) (.int .u8 ((rd_T64 (rd_L4 l0_1 x4_3) x5_4).f1))).trans hx112_0; (try have hy112_0 := fun (n_ : Nat) => (show ((((w56.drewN n_).setCell ⟨gb111, 0, none⟩ (.int .i64 ((rd_T64 (rd_L4 l0_1 x4_3) x5_4).f0))).setCell ⟨gb111, 1, none⟩ (.int .u8 ((rd_T64 (rd_L4 l0_1 x4_3) x5_4).f1)))).cell? _ = some _ from hx112_0)); clear hn112_0; clear hn112_1; replace p112 := eq_true p112; replace q112 := eq_true q112; have p113 : 0 ≤ ((ji46) : Int) := dt; have q113 : (ji46) < ((rd_L4 l0_1 x4_3).length : Int) := dt; obtain ⟨ad113, e113, hx113_0, hx113_1⟩ := at_T64 HR112_0.out (ji46) p113 q113; cases e113; have hn113_0 : ad113.block ≠ gb111 := cn hx113_0 GW111; have hn113_1 : ad113.block ≠ gb111 := cn hx113_0 GW111; replace hx113_0 := cx HB hx113_0; replace hx113_1 := cx HB hx113_1; replace hx113_0 := (cell_far (p := ⟨gb111, 0, none⟩) (ab hn113_0) (.int .i64 ((rd_T64 (rd_L4 l0_1 x4_3) x5_4).f0))).trans hx113_0; replace hx113_1 := (cell_far (p := ⟨gb111, 0, none⟩) (ab hn113_0) (.int .i64 ((rd_T64 (rd_L4 l0_1 x4_3) x5_4).f0))).trans hx113_1; replace hx113_0 := (cell_far (p := ⟨gb111, 1, none⟩) (ab hn113_1) (.int .u8 ((rd_T64 (rd_L4 l0_1 x4_3) x5_4).f1))).trans hx113_0; replace hx113_1 := (cell_far (p := ⟨gb111, 1, none⟩) (ab hn113_1) (.int .u8 ((rd_T64 (rd_L4 l0_1 x4_3) x5_4).f1))).trans hx113_1; (try have hy113_0 := fun (n_ : Nat) => (show ((((w56.drewN n_).setCell ⟨gb111, 0, none⟩ (.int .i64 ((rd_T64 (rd_L4 l0_1 x4_3) x5_4).f0))).setCell ⟨gb111, 1, none⟩ (.int .u8 ((rd_T64 (rd_L4 l0_1 x4_3) x5_4).f1)))).cell? _ = some _ from hx113_0)); (try have hy113_1 := fun (n_ : Nat) => (show ((((w56.drewN n_).setCell ⟨gb111, 0, none⟩ (.int .i64 ((rd_T64 (rd_L4 l0_1 x4_3) x5_4).f0))).setCell ⟨gb111, 1, none⟩ (.int .u8 ((rd_T64 (rd_L4 l0_1 x4_3) x5_4).f1)))).cell? _ = some _ from hx113_1)); clear hn113_0; clear hn113_1; replace p113 := eq_true p113; replace q113 := eq_true q113)); try go_wp2_with (first | ((with_reducible refine gate_dst (N := 6) rfl ?_); (try (refine gate_guard (by rfl) ?_; dsimp only)); refine box_event ?hg (N := 6) ?hd (cs := #[.int .i64 0, .int .u8 0]) (t := 64) ?hr ?_; (case hd => rfl); (case hg => rfl); (case hr => first | (go_simp; done) | (go_simp; rfl)); intro gb111 hg w56 hbox hb; have n0_ := Aside0.mk (blk_below (g := gb103) (o := .cells #[.slice A0_0 l0_0.length c0_0, .slice (some ad108) l0_1.length c0_1, .slice A0_2 l0_2.length c0_2] 25 (0, 0)) bk hb); have n1_ := Aside0.mk (below_step bl hb); have n2_ := Aside0.mk (hbox); have n3_ := Aside0.mk ((sz hg)); have n4_ := Aside0.mk ((sz hg)); have n5_ := Aside0.mk ((nl (g := gb103) (g' := gb111) hg)); have n6_ := Aside0.mk ((nr (g := gb103) (g' := gb111) hg)); clear BK103; clear HB; have BK103 := n0_; have HB := n1_; have BK111 := n2_; have GW111 := n3_; have GE111 := n4_; have NB103_111 := n5_; have NB111_103 := n6_; clear n0_ n1_ n2_ n3_ n4_ n5_ n6_; clear hb hbox hg; have hnb57 := NB111_103.out; have hnc57 := NB103_111.out; obtain ⟨⟨hcz58_0, hcz58_1⟩, hfz58_0, hfz58_1⟩ := b2 BK111.out; obtain ⟨⟨hcz59_0, hcz59_1, hcz59_2⟩, hfz59_0, hfz59_1, hfz59_2⟩ := b3 BK103.out; have p112 : 0 ≤ (x4_3 : Int) := dt; have q112 : x4_3 < (l0_1.length : Int) := dt; obtain ⟨ad112, A112_0, c112_0, e112, hx112_0, hl112_0, hi112_0⟩ := at_L4 HR0_1.out x4_3 p112 q112; obtain rfl : ad108 = ad112 := (by injection e112); have hn112_0 : ad108.block ≠ gb111 := cn hx112_0 GW111; have hn112_1 : ad108.block ≠ gb111 := cn hx112_0 GW111; replace hx112_0 := cx HB hx112_0; have HR112_0 := Aside0.mk hi112_0; have HC112_0 := Aside0.mk hl112_0; clear hi112_0 hl112_0; replace hx112_0 := (cell_far (p := ⟨gb111, 0, none⟩) (ab hn112_0) (.int .i64 ((rd_T64 (rd_L4 l0_1 x4_3) x5_4).f0))).trans hx112_0; replace hx112_0 := (cell_far (p := ⟨gb111, 1, none⟩) (ab hn112_1) (.int .u8 ((rd_T64 (rd_L4 l0_1 x4_3) x5_4).f1))).trans hx112_0; (try have hy112_0 := fun (n_ : Nat) => (show ((((w56.drewN n_).setCell ⟨gb111, 0, none⟩ (.int .i64 ((rd_T64 (rd_L4 l0_1 x4_3) x5_4).f0))).setCell ⟨gb111, 1, none⟩ (.int .u8 ((rd_T64 (rd_L4 l0_1 x4_3) x5_4).f1)))).cell? _ = some _ from hx112_0)); clear hn112_0; clear hn112_1; replace p112 := eq_true p112; replace q112 := eq_true q112; have p113 : 0 ≤ ((ji46) : Int) := dt; have q113 : (ji46) < ((rd_L4 l0_1 x4_3).length : Int) := dt; obtain ⟨ad113, e113, hx113_0, hx113_1⟩ := at_T64 HR112_0.out (ji46) p113 q113; cases e113; have hn113_0 : ad113.block ≠ gb111 := cn hx113_0 GW111; have hn113_1 : ad113.block ≠ gb111 := cn hx113_0 GW111; replace hx113_0 := cx HB hx113_0; replace hx113_1 := cx HB hx113_1; replace hx113_0 := (cell_far (p := ⟨gb111, 0, none⟩) (ab hn113_0) (.int .i64 ((rd_T64 (rd_L4 l0_1 x4_3) x5_4).f0))).trans hx113_0; replace hx113_1 := (cell_far (p := ⟨gb111, 0, none⟩) (ab hn113_0) (.int .i64 ((rd_T64 (rd_L4 l0_1 x4_3) x5_4).f0))).trans hx113_1; replace hx113_0 := (cell_far (p := ⟨gb111, 1, none⟩) (ab hn113_1) (.int .u8 ((rd_T64 (rd_L4 l0_1 x4_3) x5_4).f1))).trans hx113_0; replace hx113_1 := (cell_far (p := ⟨gb111, 1, none⟩) (ab hn113_1) (.int .u8 ((rd_T64 (rd_L4 l0_1 x4_3) x5_4).f1))).trans hx113_1; (try have hy113_0 := fun (n_ : Nat) => (show ((((w56.drewN n_).setCell ⟨gb111, 0, none⟩ (.int .i64 ((rd_T64 (rd_L4 l0_1 x4_3) x5_4).f0))).setCell ⟨gb111, 1, none⟩ (.int .u8 ((rd_T64 (rd_L4 l0_1 x4_3) x5_4).f1)))).cell? _ = some _ from hx113_0)); (try have hy113_1 := fun (n_ : Nat) => (show ((((w56.drewN n_).setCell ⟨gb111, 0, none⟩ (.int .i64 ((rd_T64 (rd_L4 l0_1 x4_3) x5_4).f0))).setCell ⟨gb111, 1, none⟩ (.int .u8 ((rd_T64 (rd_L4 l0_1 x4_3) x5_4).f1)))).cell? _ = some _ from hx113_1)); clear hn113_0; clear hn113_1; replace p113 := eq_true p113; replace q113 := eq_true q113)))
                       go_roundg k4
                       case measure => have := HJ1.out; have := HK2.out; have := HK3.out; have := HK4.out; omega
                       case rel => exact ⟨(wrap64 (x5_4 + 1)), (by first | rfl | (simp; done) | (simp [*]; done)), H', ⟨by have := HJ1.out; have := HK2.out; have := HK3.out; have := HK4.out; omega⟩, ⟨by (with_reducible repeat (first | refine blk_drewN ?_ _ | refine blk_drew ?_ | refine blk_alloc ?_ _)); refine blk_far ?_ NB103_111.out _; (with_reducible repeat (first | refine blk_drewN ?_ _ | refine blk_drew ?_ | refine blk_alloc ?_ _)); refine blk_far ?_ NB103_111.out _; (with_reducible repeat (first | refine blk_drewN ?_ _ | refine blk_drew ?_ | refine blk_alloc ?_ _)); exact BK103.out⟩, ⟨bl⟩⟩
                     ·rw [if_neg c48] at H
                      exact absurd H (by simp)
                    ·rw [if_neg c47] at H
                     exact absurd H (by simp)
                   ·rw [if_neg c45] at H
                    have c45b0 : decide (0 < x5_4) = false := decide_eq_false c45
                    clear c45
                    have H' := Aside0.mk H
                    clear H
                    obtain ⟨⟨hcz60_0, hcz60_1, hcz60_2⟩, hfz60_0, hfz60_1, hfz60_2⟩ := b3 BK103.out
                    have p108 : 0 ≤ (x4_3 : Int) := dt
                    have q108 : x4_3 < (l0_1.length : Int) := dt
                    obtain ⟨ad108, A108_0, c108_0, e108, hx108_0, hl108_0, hi108_0⟩ := at_L4 HR0_1.out x4_3 p108 q108
                    cases e108
                    replace hx108_0 := cx HB hx108_0
                    have HR108_0 := Aside0.mk hi108_0
                    have HC108_0 := Aside0.mk hl108_0
                    clear hi108_0 hl108_0
                    replace p108 := eq_true p108
                    replace q108 := eq_true q108
                    have p109 : 0 ≤ (x4_3 : Int) := dt
                    have q109 : x4_3 < (l0_1.length : Int) := dt
                    obtain ⟨ad109, A109_0, c109_0, e109, hx109_0, hl109_0, hi109_0⟩ := at_L4 HR0_1.out x4_3 p109 q109
                    obtain rfl : ad108 = ad109 := (by injection e109)
                    replace hx109_0 := cx HB hx109_0
                    have HR109_0 := Aside0.mk hi109_0
                    have HC109_0 := Aside0.mk hl109_0
                    clear hi109_0 hl109_0
                    replace p109 := eq_true p109
                    replace q109 := eq_true q109
                    have ea_ := Option.some.inj (hx108_0.symm.trans hx109_0)
                    injection ea_ with ea_ en_ ec_
                    subst ea_
                    subst ec_
                    clear en_
                    have p110 : 0 ≤ (x5_4 : Int) := dt
                    have q110 : x5_4 < ((rd_L4 l0_1 x4_3).length : Int) := dt
                    obtain ⟨ad110, e110, hx110_0, hx110_1⟩ := at_T64 HR109_0.out x5_4 p110 q110
                    cases e110
                    replace hx110_0 := cx HB hx110_0
                    replace hx110_1 := cx HB hx110_1
                    replace p110 := eq_true p110
                    replace q110 := eq_true q110
                    go_wp2_with (first | ((with_reducible refine gate_dst (N := 6) rfl ?_); (try (refine gate_guard (by rfl) ?_; dsimp only)); refine box_event ?hg (N := 6) ?hd (cs := #[.int .i64 0, .int .u8 0]) (t := 64) ?hr ?_; (case hd => rfl); (case hg => rfl); (case hr => first | (go_simp; done) | (go_simp; rfl)); intro gb111 hg w61 hbox hb; have n0_ := Aside0.mk (blk_below (g := gb103) (o := .cells #[.slice A0_0 l0_0.length c0_0, .slice (some ad108) l0_1.length c0_1, .slice A0_2 l0_2.length c0_2] 25 (0, 0)) bk hb); have n1_ := Aside0.mk (below_step bl hb); have n2_ := Aside0.mk (hbox); have n3_ := Aside0.mk ((sz hg)); have n4_ := Aside0.mk ((sz hg)); have n5_ := Aside0.mk ((nl (g := gb103) (g' := gb111) hg)); have n6_ := Aside0.mk ((nr (g := gb103) (g' := gb111) hg)); clear BK103; clear HB; have BK103 := n0_; have HB := n1_; have BK111 := n2_; have GW111 := n3_; have GE111 := n4_; have NB103_111 := n5_; have NB111_103 := n6_; clear n0_ n1_ n2_ n3_ n4_ n5_ n6_; clear hb hbox hg; have hnb62 := NB111_103.out; have hnc62 := NB103_111.out; obtain ⟨⟨hcz63_0, hcz63_1⟩, hfz63_0, hfz63_1⟩ := b2 BK111.out; obtain ⟨⟨hcz64_0, hcz64_1, hcz64_2⟩, hfz64_0, hfz64_1, hfz64_2⟩ := b3 BK103.out))
                    repeat (go_quiet (first | ((with_reducible refine gate_dst (N := 6) rfl ?_); (try (refine gate_guard (by rfl) ?_; dsimp only)); refine box_event ?hg (N := 6) ?hd (cs := #[.int .i64 0, .int .u8 0]) (t := 64) ?hr ?_; (case hd => rfl); (case hg => rfl); (case hr => first | (go_simp; done) | (go_simp; rfl)); intro gb111 hg w61 hbox hb; have n0_ := Aside0.mk (blk_below (g := gb103) (o := .cells #[.slice A0_0 l0_0.length c0_0, .slice (some ad108) l0_1.length c0_1, .slice A0_2 l0_2.length c0_2] 25 (0, 0)) bk hb); have n1_ := Aside0.mk (below_step bl hb); have n2_ := Aside0.mk (hbox); have n3_ := Aside0.mk ((sz hg)); have n4_ := Aside0.mk ((sz hg)); have n5_ := Aside0.mk ((nl (g := gb103) (g' := gb111) hg)); have n6_ := Aside0.mk ((nr (g := gb103) (g' := gb111) hg)); clear BK103; clear HB; have BK103 := n0_; have HB := n1_; have BK111 := n2_; have GW111 := n3_; have GE111 := n4_; have NB103_111 := n5_; have NB111_103 := n6_; clear n0_ n1_ n2_ n3_ n4_ n5_ n6_; clear hb hbox hg; have hnb62 := NB111_103.out; have hnc62 := NB103_111.out; obtain ⟨⟨hcz63_0, hcz63_1⟩, hfz63_0, hfz63_1⟩ := b2 BK111.out; obtain ⟨⟨hcz64_0, hcz64_1, hcz64_2⟩, hfz64_0, hfz64_1, hfz64_2⟩ := b3 BK103.out)); try go_wp2_with (first | ((with_reducible refine gate_dst (N := 6) rfl ?_); (try (refine gate_guard (by rfl) ?_; dsimp only)); refine box_event ?hg (N := 6) ?hd (cs := #[.int .i64 0, .int .u8 0]) (t := 64) ?hr ?_; (case hd => rfl); (case hg => rfl); (case hr => first | (go_simp; done) | (go_simp; rfl)); intro gb111 hg w61 hbox hb; have n0_ := Aside0.mk (blk_below (g := gb103) (o := .cells #[.slice A0_0 l0_0.length c0_0, .slice (some ad108) l0_1.length c0_1, .slice A0_2 l0_2.length c0_2] 25 (0, 0)) bk hb); have n1_ := Aside0.mk (below_step bl hb); have n2_ := Aside0.mk (hbox); have n3_ := Aside0.mk ((sz hg)); have n4_ := Aside0.mk ((sz hg)); have n5_ := Aside0.mk ((nl (g := gb103) (g' := gb111) hg)); have n6_ := Aside0.mk ((nr (g := gb103) (g' := gb111) hg)); clear BK103; clear HB; have BK103 := n0_; have HB := n1_; have BK111 := n2_; have GW111 := n3_; have GE111 := n4_; have NB103_111 := n5_; have NB111_103 := n6_; clear n0_ n1_ n2_ n3_ n4_ n5_ n6_; clear hb hbox hg; have hnb62 := NB111_103.out; have hnc62 := NB103_111.out; obtain ⟨⟨hcz63_0, hcz63_1⟩, hfz63_0, hfz63_1⟩ := b2 BK111.out; obtain ⟨⟨hcz64_0, hcz64_1, hcz64_2⟩, hfz64_0, hfz64_1, hfz64_2⟩ := b3 BK103.out)))
                    go_roundg k4
                    case measure => have := HJ1.out; have := HK2.out; have := HK3.out; have := HK4.out; omega
                    case rel => exact ⟨(wrap64 (x5_4 + 1)), (by first | rfl | (simp; done) | (simp [*]; done)), H', ⟨by have := HJ1.out; have := HK2.out; have := HK3.out; have := HK4.out; omega⟩, ⟨by (with_reducible repeat (first | refine blk_drewN ?_ _ | refine blk_drew ?_ | refine blk_alloc ?_ _)); refine blk_far ?_ NB103_111.out _; (with_reducible repeat (first | refine blk_drewN ?_ _ | refine blk_drew ?_ | refine blk_alloc ?_ _)); refine blk_far ?_ NB103_111.out _; (with_reducible repeat (first | refine blk_drewN ?_ _ | refine blk_drew ?_ | refine blk_alloc ?_ _)); exact BK103.out⟩, ⟨bl⟩⟩
               ·rw [if_neg c28] at H
                exact absurd H (by simp)
              ·rw [if_neg c27] at H
               have c27b0 : decide (x5_4 < ((rd_L4 l0_1 x4_3).length : Int)) = false := decide_eq_false c27
               clear c27
               have H' := Aside0.mk H
               clear H
               obtain ⟨⟨hcz65_0, hcz65_1, hcz65_2⟩, hfz65_0, hfz65_1, hfz65_2⟩ := b3 BK103.out
               have p108 : 0 ≤ (x4_3 : Int) := dt
               have q108 : x4_3 < (l0_1.length : Int) := dt
               obtain ⟨ad108, A108_0, c108_0, e108, hx108_0, hl108_0, hi108_0⟩ := at_L4 HR0_1.out x4_3 p108 q108
               cases e108
               replace hx108_0 := cx HB hx108_0
               have HR108_0 := Aside0.mk hi108_0
               have HC108_0 := Aside0.mk hl108_0
               clear hi108_0 hl108_0
               replace p108 := eq_true p108
               replace q108 := eq_true q108
               go_wp2
               repeat (go_quiet (fail); try go_wp2)
               go_roundg k4
               case measure => have := HJ1.out; have := HK2.out; have := HK3.out; have := HK4.out; omega
               case rel => exact ⟨(wrap64 (x4_3 + 1)), (by first | rfl | (simp; done) | (simp [*]; done)), H', ⟨by have := HJ1.out; have := HK2.out; have := HK3.out; have := HK4.out; omega⟩, ⟨bk⟩, ⟨bl⟩⟩
             ·rw [if_neg c26] at H
              exact absurd H (by simp)
            ·rw [if_neg c25] at H
             exact absurd H (by simp)
         ·rw [if_neg c23] at H
          have c23b0 : decide (x4_3 < (l0_1.length : Int)) = false := decide_eq_false c23
          clear c23
          have H' := Aside0.mk H
          clear H
          obtain ⟨⟨hcz66_0, hcz66_1, hcz66_2⟩, hfz66_0, hfz66_1, hfz66_2⟩ := b3 BK103.out
          go_wp2
          repeat (go_quiet (fail); try go_wp2)
          go_loopg [7] k3 (fun kq v7 w' => ∃ (x7_4 : Int), v7 = .int .i64 x7_4 ∧ Aside0 (recoupref21_May.l3 kq x7_4 l0_0 l0_1 l0_2 = some r) ∧ Aside0 (kq ≤ k3) ∧ Aside0 (w'.heap[gb103]? = some (.cells #[(.slice A0_0 l0_0.length c0_0), (.slice A0_1 l0_1.length c0_1), (.slice A0_2 l0_2.length c0_2)] 25 (0, 0))) ∧ Aside0 (Below w.heap.size w w'))
          case atStart => exact ⟨(0), (by first | rfl | (simp; done) | (simp [*]; done)), H', ⟨Nat.le_refl _⟩, ⟨bk⟩, ⟨bl⟩⟩
          case round =>
           clear H'
           (try clear c1); (try clear p1); (try clear q1); (try clear hx1); (try clear c2); (try clear p2); (try clear c3); (try clear c4); (try clear c4b0); (try clear c4b1); (try clear c5); (try clear c6); (try clear p6); (try clear c7); (try clear c8); (try clear c8b0); (try clear c9); (try clear c9b0); (try clear c10); (try clear c10b0); (try clear p10); (try clear q10); (try clear hx10); (try clear c11); (try clear p11); (try clear q11); (try clear hx11); (try clear c12); (try clear c12b0); (try clear c14); (try clear c14b0); (try clear c16); (try clear c16b0); (try clear c17); (try clear c17b0); (try clear c18); (try clear c18b0); (try clear c23); (try clear c23b0); (try clear c25); (try clear c25b0); (try clear c26); (try clear c26b0); (try clear c27); (try clear c27b0); (try clear c28); (try clear c28b0); (try clear c29); (try clear c29b0); (try clear c29b1); (try clear c32); (try clear c34); (try clear c34b0); (try clear c37); (try clear c39); (try clear c39b0); (try clear c42); (try clear c45); (try clear c45b0); (try clear c47); (try clear c47b0); (try clear c48); (try clear c48b0); (try clear c49); (try clear c49b0); (try clear c52); (try clear c57); (try clear c62); (try clear p64); (try clear hcz11_0 hcz11_1 hcz11_2 hfz11_0 hfz11_1 hfz11_2); (try clear hcz13_0 hcz13_1 hcz13_2 hfz13_0 hfz13_1 hfz13_2); (try clear hcz19_0 hcz19_1 hcz19_2 hfz19_0 hfz19_1 hfz19_2); (try clear hcz20_0 hcz20_1 hcz20_2 hfz20_0 hfz20_1 hfz20_2); (try clear hcz21_0 hcz21_1 hcz21_2 hfz21_0 hfz21_1 hfz21_2); (try clear hcz22_0 hcz22_1 hcz22_2 hfz22_0 hfz22_1 hfz22_2); (try clear hcz24_0 hcz24_1 hcz24_2 hfz24_0 hfz24_1 hfz24_2); (try clear hcz30_0 hcz30_1 hcz30_2 hfz30_0 hfz30_1 hfz30_2); (try clear hcz33_0 hcz33_1 hfz33_0 hfz33_1); (try clear hcz35_0 hcz35_1 hcz35_2 hfz35_0 hfz35_1 hfz35_2); (try clear hcz38_0 hcz38_1 hfz38_0 hfz38_1); (try clear hcz40_0 hcz40_1 hcz40_2 hfz40_0 hfz40_1 hfz40_2); (try clear hcz43_0 hcz43_1 hfz43_0 hfz43_1); (try clear hcz44_0 hcz44_1 hcz44_2 hfz44_0 hfz44_1 hfz44_2); (try clear hcz50_0 hcz50_1 hcz50_2 hfz50_0 hfz50_1 hfz50_2); (try clear hcz53_0 hcz53_1 hfz53_0 hfz53_1); (try clear hcz54_0 hcz54_1 hcz54_2 hfz54_0 hfz54_1 hfz54_2); (try clear hcz55_0 hcz55_1 hcz55_2 hfz55_0 hfz55_1 hfz55_2); (try clear hcz58_0 hcz58_1 hfz58_0 hfz58_1); (try clear hcz59_0 hcz59_1 hcz59_2 hfz59_0 hfz59_1 hfz59_2); (try clear hcz5_0 hcz5_1 hcz5_2 hfz5_0 hfz5_1 hfz5_2); (try clear hcz60_0 hcz60_1 hcz60_2 hfz60_0 hfz60_1 hfz60_2); (try clear hcz63_0 hcz63_1 hfz63_0 hfz63_1); (try clear hcz64_0 hcz64_1 hcz64_2 hfz64_0 hfz64_1 hfz64_2); (try clear hcz65_0 hcz65_1 hcz65_2 hfz65_0 hfz65_1 hfz65_2); (try clear hcz66_0 hcz66_1 hcz66_2 hfz66_0 hfz66_1 hfz66_2); (try clear hcz6_0 hcz6_1 hcz6_2 hfz6_0 hfz6_1 hfz6_2); (try clear hx104_0); (try clear hx105_0); (try clear hx106_0); (try clear hx107_0); (try clear hx108_0); (try clear hx109_0); (try clear hx110_0); (try clear hx110_1); (try clear hx112_0); (try clear hx113_0); (try clear hx113_1); (try clear p104); (try clear p105); (try clear p106); (try clear p107); (try clear p108); (try clear p109); (try clear p110); (try clear p112); (try clear p113); (try clear q104); (try clear q105); (try clear q106); (try clear q107); (try clear q108); (try clear q109); (try clear q110); (try clear q112); (try clear q113)
           obtain ⟨x7_4, rfl, HA, HK4, BK103, HB⟩ := hrel
           cases gk with
           | zero => exact absurd HA.out (by simp [recoupref21_May.l3])
           | succ k4 =>
            have H := HA.out
            clear HA
            simp only [recoupref21_May.l3] at H
            by_cases c67 : x7_4 < (l0_2.length : Int)
            ·rw [if_pos c67] at H
             have c67b0 : decide (x7_4 < (l0_2.length : Int)) = true := decide_eq_true c67
             clear c67
             by_cases c68 : 0 ≤ x7_4
             ·rw [if_pos c68] at H
              have c68b0 : decide (0 ≤ x7_4) = true := decide_eq_true c68
              clear c68
              by_cases c69 : (rd l0_2 x7_4) < 0
              ·rw [if_pos c69] at H
               have c69b0 : decide ((rd l0_2 x7_4) < 0) = true := decide_eq_true c69
               clear c69
               obtain rfl := Option.some.inj H
               obtain ⟨⟨hcz70_0, hcz70_1, hcz70_2⟩, hfz70_0, hfz70_1, hfz70_2⟩ := b3 BK103.out
               have p114 : 0 ≤ (x7_4 : Int) := dt
               have q114 : x7_4 < (l0_2.length : Int) := dt
               obtain ⟨ad114, e114, hx114_0⟩ := Kd.at_int HR0_2.out x7_4 p114 q114
               cases e114
               replace hx114_0 := cx HB hx114_0
               replace p114 := eq_true p114
               replace q114 := eq_true q114
               go_wp2
               repeat (go_quiet (fail); try go_wp2)
               go_ret
               exact ⟨by first | rfl | (simp [errW_none, errW_some] <;> rfl) | (simp [*, errW_none, errW_some] <;> rfl), bl⟩
              ·rw [if_neg c69] at H
               have c69b0 : decide ((rd l0_2 x7_4) < 0) = false := decide_eq_false c69
               clear c69
               by_cases c71 : (rd l0_2 x7_4) ≥ (wrap64 ((l0_0.length : Int) + (l0_1.length : Int)))
               ·rw [if_pos c71] at H
                have c71b0 : decide ((wrap64 ((l0_0.length : Int) + (l0_1.length : Int))) ≤ (rd l0_2 x7_4)) = true := decide_eq_true c71
                clear c71
                obtain rfl := Option.some.inj H
                obtain ⟨⟨hcz72_0, hcz72_1, hcz72_2⟩, hfz72_0, hfz72_1, hfz72_2⟩ := b3 BK103.out
                have p114 : 0 ≤ (x7_4 : Int) := dt
                have q114 : x7_4 < (l0_2.length : Int) := dt
                obtain ⟨ad114, e114, hx114_0⟩ := Kd.at_int HR0_2.out x7_4 p114 q114
                cases e114
                replace hx114_0 := cx HB hx114_0
                replace p114 := eq_true p114
                replace q114 := eq_true q114
                have p115 : 0 ≤ (x7_4 : Int) := dt
                have q115 : x7_4 < (l0_2.length : Int) := dt
                obtain ⟨ad115, e115, hx115_0⟩ := Kd.at_int HR0_2.out x7_4 p115 q115
                obtain rfl : ad114 = ad115 := (by injection e115)
                replace hx115_0 := cx HB hx115_0
                replace p115 := eq_true p115
                replace q115 := eq_true q115
                go_wp2
                repeat (go_quiet (fail); try go_wp2)
                go_ret
                exact ⟨by first | rfl | (simp [errW_none, errW_some] <;> rfl) | (simp [*, errW_none, errW_some] <;> rfl), bl⟩
               ·rw [if_neg c71] at H
                have c71b0 : decide ((wrap64 ((l0_0.length : Int) + (l0_1.length : Int))) ≤ (rd l0_2 x7_4)) = false := decide_eq_false c71
                clear c71
                have H' := Aside0.mk H
                clear H
                obtain ⟨⟨hcz73_0, hcz73_1, hcz73_2⟩, hfz73_0, hfz73_1, hfz73_2⟩ := b3 BK103.out
                have p114 : 0 ≤ (x7_4 : Int) := dt
                have q114 : x7_4 < (l0_2.length : Int) := dt
                obtain ⟨ad114, e114, hx114_0⟩ := Kd.at_int HR0_2.out x7_4 p114 q114
                cases e114
                replace hx114_0 := cx HB hx114_0
                replace p114 := eq_true p114
                replace q114 := eq_true q114
                have p115 : 0 ≤ (x7_4 : Int) := dt
                have q115 : x7_4 < (l0_2.length : Int) := dt
                obtain ⟨ad115, e115, hx115_0⟩ := Kd.at_int HR0_2.out x7_4 p115 q115
                obtain rfl : ad114 = ad115 := (by injection e115)
                replace hx115_0 := cx HB hx115_0
                replace p115 := eq_true p115
                replace q115 := eq_true q115
                go_wp2
                repeat (go_quiet (fail); try go_wp2)
                go_roundg k4
                case measure => have := HJ1.out; have := HK2.out; have := HK3.out; have := HK4.out; omega
                case rel => exact ⟨(wrap64 (x7_4 + 1)), (by first | rfl | (simp; done) | (simp [*]; done)), H', ⟨by have := HJ1.out; have := HK2.out; have := HK3.out; have := HK4.out; omega⟩, ⟨bk⟩, ⟨bl⟩⟩
             ·rw [if_neg c68] at H
              exact absurd H (by simp)
            ·rw [if_neg c67] at H
             have c67b0 : decide (x7_4 < (l0_2.length : Int)) = false := decide_eq_false c67
             clear c67
             obtain rfl := Option.some.inj H
             obtain ⟨⟨hcz74_0, hcz74_1, hcz74_2⟩, hfz74_0, hfz74_1, hfz74_2⟩ := b3 BK103.out
             go_wp2
             repeat (go_quiet (fail); try go_wp2)
             go_ret
             exact ⟨by first | rfl | (simp [errW_none, errW_some] <;> rfl) | (simp [*, errW_none, errW_some] <;> rfl), bl⟩

end Go.Proofs.Ytfnhnniecclleaa.PA
