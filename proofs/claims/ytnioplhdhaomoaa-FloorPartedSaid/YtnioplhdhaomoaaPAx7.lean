-- Written by wip/tools/mp.py (the kit's print, run over several laws with some functions given by hand).
import Derived.Test.YtnioplhdhaomoaaPAx0
import Derived.Test.YtnioplhdhaomoaaPAx3
import Derived.Test.YtnioplhdhaomoaaPAx5
import Derived.Test.YtnioplhdhaomoaaPAx6
namespace Go.Proofs.Ytnioplhdhaomoaa.PA
open Go.RowKit Go.Proofs.YtnioplhdhaomoaaW.PrintWords Go.Proofs.YtnioplhdhaomoaaW.PrintLast Go.Proofs.YtnioplhdhaomoaaW.PrintMore
attribute [local go_sem] max2_int min2_int max_two min_two max_three min_three max_four min_four   -- for this text's walks alone
set_option linter.unusedVariables false
set_option linter.unusedSimpArgs false

/-! ### recouplaw15_FloorParted: function 6 -/
mutual
def recouplaw15_FloorParted.l0 : Nat → Int → Int → Int → Int → Int → Int → Option (Bool)
 | 0, _, _, _, _, _, _ => none
 | k + 1, x1, x2, x7, x8, x10, x11 => if x11 < x7 then ((floor_Aisle.f x7 x11).bind fun bt184 => (if bt184.2 = 0 then ((recoupref06_Has.f bt184.1 x11).bind fun t186 => (if t186 = true then (recouplaw15_FloorParted.j1 k x1 x2 x7 x8 x10 x11 bt184.1 ((Go.bits .andNot .u64 bt184.1 x8) != 0)) else (recouplaw15_FloorParted.j1 k x1 x2 x7 x8 x10 x11 bt184.1 true))) else (recouplaw15_FloorParted.j1 k x1 x2 x7 x8 x10 x11 bt184.1 true))) else ((recouplaw15_anchored.f).bind fun t183 => (if t183 = true then (some (x10 == x8)) else (some false)))
def recouplaw15_FloorParted.j1 : Nat → Int → Int → Int → Int → Int → Int → Int → Bool → Option (Bool)
 | 0, _, _, _, _, _, _, _, _ => none
 | k + 1, x1, x2, x7, x8, x10, x11, x12, x53 => if x53 = true then (some false) else ((recoupref06_List.f k x12).bind fun t187 => (if 0 < (t187.length : Int) then ((floor_Aisle.f x7 (rd t187 0)).bind fun bt191 => (if bt191.2 = 0 then (recouplaw15_FloorParted.j2 k x1 x2 x7 x8 x10 x11 x12 (x12 != bt191.1)) else (recouplaw15_FloorParted.j2 k x1 x2 x7 x8 x10 x11 x12 true))) else (none)))
def recouplaw15_FloorParted.j2 : Nat → Int → Int → Int → Int → Int → Int → Int → Bool → Option (Bool)
 | 0, _, _, _, _, _, _, _, _ => none
 | k + 1, x1, x2, x7, x8, x10, x11, x12, x69 => if x69 = true then (some false) else ((floor_Near.f x7 x11 (wrap64 (x2))).bind fun bt193 => (if x7 = 0 then (none) else ((floor_Near.f x7 (Int.tmod (wrap64 (x1)) x7) (wrap64 (x2))).bind fun bt195 => (if bt193.2 = 0 then (if bt195.2 = 0 then ((recoupref06_Has.f bt193.1 (Int.tmod (wrap64 (x1)) x7)).bind fun t197 => ((recoupref06_Has.f bt195.1 x11).bind fun t198 => (if (t197 != t198) = true then (some false) else (recouplaw15_FloorParted.l0 k x1 x2 x7 x8 (Go.bits .or .u64 x10 x12) (wrap64 (x11 + 1)))))) else (some false)) else (some false)))))
end
def recouplaw15_FloorParted.f (k : Nat) (a0 : Int) (a1 : Int) (a2 : Int) : Option (Bool) := (recoupref06_Full.f k (wrap64 ((Int.tmod (wrap64 (a0)) 64) + 1))).bind fun bt181 => (recouplaw15_FloorParted.l0 k a1 a2 (wrap64 ((Int.tmod (wrap64 (a0)) 64) + 1)) bt181.1 0 0)
set_option maxHeartbeats 8000000 in
set_option maxRecDepth 100000 in
theorem recouplaw15_FloorParted.calls (k : Nat) (a0 : Int) (a1 : Int) (a2 : Int) (r : Bool) (w : World) (h : recouplaw15_FloorParted.f k a0 a1 a2 = some r) :
  Calls Try.prog 6 #[.int .u8 a0, .int .u8 a1, .int .u8 a2] w fun e w' => e = .returned (.bool r) ∧ Below w.heap.size w w' := by
 have HB := Aside0.mk (Below.refl w.heap.size w)
 have H : ((recoupref06_Full.f k (wrap64 ((Int.tmod (wrap64 (a0)) 64) + 1))).bind fun bt181 => (recouplaw15_FloorParted.l0 k a1 a2 (wrap64 ((Int.tmod (wrap64 (a0)) 64) + 1)) bt181.1 0 0)) = some r := h
 clear h
 replace H := Option.bind_eq_some_iff.mp H
 obtain ⟨⟨t181, t182⟩, A40, H⟩ := H
 replace H : (recouplaw15_FloorParted.l0 k a1 a2 (wrap64 ((Int.tmod (wrap64 (a0)) 64) + 1)) t181 0 0) = some r := H
 have A4 := Aside0.mk A40
 clear A40
 have H' := Aside0.mk H
 clear H
 go_enter Try.func6, Try.ntmps6
 go_wp2_with (first | ((with_reducible refine gate_callee (f := 21) rfl ?_); refine goesL_ (some 26) rfl rfl Try.func21 (by kernel_rfl) rfl #[.int .i64 (wrap64 ((Int.tmod (wrap64 (a0)) 64) + 1))] rfl (by (try simp only [List.map_toArray, List.map_cons, List.map_nil]); first | done | rfl | (simp only [List.length_drop, List.length_take]; rfl)) ?_; (with_reducible refine (recoupref06_Full.calls k (wrap64 ((Int.tmod (wrap64 (a0)) 64) + 1)) t181 t182 _ A4.out).mono ?_); rintro e w' ⟨rfl, ⟨nd, rfl⟩⟩; refine ⟨_, rfl, ?_⟩))
 go_loopg [10, 11] k (fun kq v10 v11 w' => ∃ (x10_1 : Int) (x11_1 : Int), v10 = .int .u64 x10_1 ∧ v11 = .int .i64 x11_1 ∧ Aside0 (recouplaw15_FloorParted.l0 kq a1 a2 (wrap64 ((Int.tmod (wrap64 (a0)) 64) + 1)) t181 x10_1 x11_1 = some r) ∧ Aside0 (kq ≤ k) ∧ Aside0 (Below w.heap.size w w'))
 case atStart => exact ⟨(0), (0), (by first | rfl | (simp; done) | (simp [*]; done)), (by first | rfl | (simp; done) | (simp [*]; done)), H', ⟨Nat.le_refl _⟩, ⟨by repeat (first | (with_reducible first | exact HB.out | apply below_alloc | apply pw_below_drewN | apply below_drew1) | exact HB.out)⟩⟩
 case round =>
  clear H'
  try clear c2
  try clear p2
  obtain ⟨x10_1, x11_1, rfl, rfl, HA, HK1, HB⟩ := hrel
  cases gk with
  | zero => exact absurd HA.out (by simp [recouplaw15_FloorParted.l0])
  | succ k1 =>
   have H := HA.out
   clear HA
   simp only [recouplaw15_FloorParted.l0] at H
   by_cases c5 : x11_1 < (wrap64 ((Int.tmod (wrap64 (a0)) 64) + 1))
   ·rw [if_pos c5] at H
    have c5b0 : decide (x11_1 < (wrap64 ((Int.tmod (wrap64 (a0)) 64) + 1))) = true := decide_eq_true c5
    clear c5
    replace H := Option.bind_eq_some_iff.mp H
    obtain ⟨⟨t184, t185⟩, A60, H⟩ := H
    replace H : (if t185 = 0 then ((recoupref06_Has.f t184 x11_1).bind fun t186 => (if t186 = true then (recouplaw15_FloorParted.j1 k1 a1 a2 (wrap64 ((Int.tmod (wrap64 (a0)) 64) + 1)) t181 x10_1 x11_1 t184 ((Go.bits .andNot .u64 t184 t181) != 0)) else (recouplaw15_FloorParted.j1 k1 a1 a2 (wrap64 ((Int.tmod (wrap64 (a0)) 64) + 1)) t181 x10_1 x11_1 t184 true))) else (recouplaw15_FloorParted.j1 k1 a1 a2 (wrap64 ((Int.tmod (wrap64 (a0)) 64) + 1)) t181 x10_1 x11_1 t184 true)) = some r := H
    have A6 := Aside0.mk A60
    clear A60
    have HC7 := Aside0.mk H
    clear H
    go_upto_region 8 with (first | ((with_reducible refine gate_callee (f := 9) rfl ?_); refine goesL_ (some 37) rfl rfl Try.func9 (by kernel_rfl) rfl #[.int .i64 (wrap64 ((Int.tmod (wrap64 (a0)) 64) + 1)), .int .i64 x11_1] rfl (by (try simp only [List.map_toArray, List.map_cons, List.map_nil]); first | done | rfl | (simp only [List.length_drop, List.length_take]; rfl)) ?_; (with_reducible refine (floor_Aisle.calls (wrap64 ((Int.tmod (wrap64 (a0)) 64) + 1)) x11_1 t184 t185 _ A6.out).mono ?_); rintro e w8 ⟨rfl, hb⟩; refine ⟨_, rfl, ?_⟩; have n0_ := Aside0.mk (below_step (by repeat (first | (with_reducible first | exact HB.out | apply below_alloc | apply pw_below_drewN | apply below_drew1) | exact HB.out)) hb); clear HB; have HB := n0_; clear n0_; (try clear hb); (try clear hb2); (try clear hk); (try clear hi)))
    (try simp only [Act.put, List.setIfInBounds_toArray, List.set_cons_zero, List.set_cons_succ])
    go_cut [53] (fun v53 wc => ∃ (kq : Nat) (x53_6 : Bool), v53 = .bool x53_6 ∧ Aside0 (recouplaw15_FloorParted.j1 kq a1 a2 (wrap64 ((Int.tmod (wrap64 (a0)) 64) + 1)) t181 x10_1 x11_1 t184 x53_6 = some r) ∧ Aside0 (kq ≤ k1) ∧ Aside0 (Below w.heap.size w wc))
    case first =>
     have H := HC7.out
     clear HC7
     by_cases c9 : t185 = 0
     ·rw [if_pos c9] at H
      have c9b0 : (t185 == 0) = true := beq_iff_eq.mpr c9
      have c9b1 : (t185 != 0) = false := bne_eq_false_iff_eq.mpr c9
      clear c9
      (first | rw [c9b0] | (simp only [i64_w, i32_w]; rw [c9b0]) | skip)
      replace H := Option.bind_eq_some_iff.mp H
      obtain ⟨t186, A100, H⟩ := H
      replace H : (if t186 = true then (recouplaw15_FloorParted.j1 k1 a1 a2 (wrap64 ((Int.tmod (wrap64 (a0)) 64) + 1)) t181 x10_1 x11_1 t184 ((Go.bits .andNot .u64 t184 t181) != 0)) else (recouplaw15_FloorParted.j1 k1 a1 a2 (wrap64 ((Int.tmod (wrap64 (a0)) 64) + 1)) t181 x10_1 x11_1 t184 true)) = some r := H
      have A10 := Aside0.mk A100
      clear A100
      by_cases c11 : t186 = true
      ·subst c11
       have H1 : (recouplaw15_FloorParted.j1 k1 a1 a2 (wrap64 ((Int.tmod (wrap64 (a0)) 64) + 1)) t181 x10_1 x11_1 t184 ((Go.bits .andNot .u64 t184 t181) != 0)) = some r := by rw [if_pos rfl] at H; exact H
       clear H
       have H := H1
       clear H1
       have H' := Aside0.mk H
       clear H
       go_wp2_with (first | (go_at_call 20; (with_reducible refine (recoupref06_Has.calls t184 x11_1 true _ A10.out).mono ?_); rintro e w' ⟨rfl, ⟨nd, rfl⟩⟩))
       go_meet
       case rel => exact ⟨_, (((Go.bits .andNot .u64 t184 t181) != 0)), (by first | rfl | (simp; done) | (simp [*]; done)), H', ⟨by have := HK1.out; first | omega | exact Nat.le_refl _⟩, ⟨by repeat (first | (with_reducible first | exact HB.out | apply below_alloc | apply pw_below_drewN | apply below_drew1) | exact HB.out)⟩⟩
      ·replace c11 := Bool.eq_false_iff.mpr c11
       subst c11
       have H1 : (recouplaw15_FloorParted.j1 k1 a1 a2 (wrap64 ((Int.tmod (wrap64 (a0)) 64) + 1)) t181 x10_1 x11_1 t184 true) = some r := by rw [if_neg (show ¬ (false = true) by decide)] at H; exact H
       clear H
       have H := H1
       clear H1
       have H' := Aside0.mk H
       clear H
       go_wp2_with (first | (go_at_call 20; (with_reducible refine (recoupref06_Has.calls t184 x11_1 false _ A10.out).mono ?_); rintro e w' ⟨rfl, ⟨nd, rfl⟩⟩))
       go_meet
       case rel => exact ⟨_, (true), (by first | rfl | (simp; done) | (simp [*]; done)), H', ⟨by have := HK1.out; first | omega | exact Nat.le_refl _⟩, ⟨by repeat (first | (with_reducible first | exact HB.out | apply below_alloc | apply pw_below_drewN | apply below_drew1) | exact HB.out)⟩⟩
     ·rw [if_neg c9] at H
      have c9b0 : (t185 == 0) = false := beq_eq_false_iff_ne.mpr c9
      have c9b1 : (t185 != 0) = true := bne_iff_ne.mpr c9
      (first | rw [c9b0] | (simp only [i64_w, i32_w]; rw [c9b0]) | skip)
      have H' := Aside0.mk H
      clear H
      go_wp2
      go_meet
      case rel => exact ⟨_, (true), (by first | rfl | (simp; done) | (simp [*]; done)), H', ⟨by have := HK1.out; first | omega | exact Nat.le_refl _⟩, ⟨by repeat (first | (with_reducible first | exact HB.out | apply below_alloc | apply pw_below_drewN | apply below_drew1) | exact HB.out)⟩⟩
    case rest =>
     clear HC7
     try clear c1
     try clear c2
     try clear p2
     try clear c5
     try clear c5b0
     try clear c6
     try clear p6
     try clear c9
     try clear c9b0
     try clear c9b1
     try clear c11
     try clear p2
     obtain ⟨kq, x53_6, rfl, HA, HJ6, HB⟩ := hcut
     cases kq with
     | zero => exact absurd HA.out (by simp [recouplaw15_FloorParted.j1])
     | succ kj6 =>
      have H := HA.out
      clear HA
      simp only [recouplaw15_FloorParted.j1] at H
      by_cases c12 : x53_6 = true
      ·subst c12
       have H1 : (some false) = some r := by rw [if_pos rfl] at H; exact H
       clear H
       have H := H1
       clear H1
       obtain rfl := Option.some.inj H
       go_wp2
       go_ret
       exact ⟨by first | rfl | (simp [errW_none, errW_some] <;> rfl) | (simp [*, errW_none, errW_some] <;> rfl), by repeat (first | (with_reducible first | exact HB.out | apply below_alloc | apply pw_below_drewN | apply below_drew1) | exact HB.out)⟩
      ·replace c12 := Bool.eq_false_iff.mpr c12
       subst c12
       have H1 : ((recoupref06_List.f kj6 t184).bind fun t187 => (if 0 < (t187.length : Int) then ((floor_Aisle.f (wrap64 ((Int.tmod (wrap64 (a0)) 64) + 1)) (rd t187 0)).bind fun bt191 => (if bt191.2 = 0 then (recouplaw15_FloorParted.j2 kj6 a1 a2 (wrap64 ((Int.tmod (wrap64 (a0)) 64) + 1)) t181 x10_1 x11_1 t184 (t184 != bt191.1)) else (recouplaw15_FloorParted.j2 kj6 a1 a2 (wrap64 ((Int.tmod (wrap64 (a0)) 64) + 1)) t181 x10_1 x11_1 t184 true))) else (none))) = some r := by rw [if_neg (show ¬ (false = true) by decide)] at H; exact H
       clear H
       have H := H1
       clear H1
       replace H := Option.bind_eq_some_iff.mp H
       obtain ⟨t187, A130, H⟩ := H
       replace H : (if 0 < (t187.length : Int) then ((floor_Aisle.f (wrap64 ((Int.tmod (wrap64 (a0)) 64) + 1)) (rd t187 0)).bind fun bt191 => (if bt191.2 = 0 then (recouplaw15_FloorParted.j2 kj6 a1 a2 (wrap64 ((Int.tmod (wrap64 (a0)) 64) + 1)) t181 x10_1 x11_1 t184 (t184 != bt191.1)) else (recouplaw15_FloorParted.j2 kj6 a1 a2 (wrap64 ((Int.tmod (wrap64 (a0)) 64) + 1)) t181 x10_1 x11_1 t184 true))) else (none)) = some r := H
       have A13 := Aside0.mk A130
       clear A130
       by_cases c14 : 0 < (t187.length : Int)
       ·rw [if_pos c14] at H
        have c14b0 : decide (0 < (t187.length : Int)) = true := decide_eq_true c14
        have c14b1 : decide (0 < t187.length) = true := decide_eq_true (by omega)
        clear c14
        replace H := Option.bind_eq_some_iff.mp H
        obtain ⟨⟨t191, t192⟩, A150, H⟩ := H
        replace H : (if t192 = 0 then (recouplaw15_FloorParted.j2 kj6 a1 a2 (wrap64 ((Int.tmod (wrap64 (a0)) 64) + 1)) t181 x10_1 x11_1 t184 (t184 != t191)) else (recouplaw15_FloorParted.j2 kj6 a1 a2 (wrap64 ((Int.tmod (wrap64 (a0)) 64) + 1)) t181 x10_1 x11_1 t184 true)) = some r := H
        have A15 := Aside0.mk A150
        clear A150
        have HC16 := Aside0.mk H
        clear H
        go_upto_region 11 with (first | ((with_reducible refine gate_callee (f := 19) rfl ?_); refine goesL_ (some 57) rfl rfl Try.func19 (by kernel_rfl) rfl #[.int .u64 t184] rfl (by (try simp only [List.map_toArray, List.map_cons, List.map_nil]); first | done | rfl | (simp only [List.length_drop, List.length_take]; rfl)) ?_; (with_reducible refine (recoupref06_List.calls kj6 t184 t187 _ A13.out).mono ?_); rintro e w17 ⟨v188, rfl, ho0, hb⟩; refine ⟨_, rfl, ?_⟩; have n0_ := Aside0.mk (Kd.R_lower ho0 (below_size (by repeat (first | (with_reducible first | exact HB.out | apply below_alloc | apply pw_below_drewN | apply below_drew1) | exact HB.out)))); have n1_ := Aside0.mk (below_step (by repeat (first | (with_reducible first | exact HB.out | apply below_alloc | apply pw_below_drewN | apply below_drew1) | exact HB.out)) hb); clear HB; have HO189 := n0_; have HB := n1_; clear n0_ n1_; (try clear hb); (try clear hb2); (try clear hk); (try clear hi); (try clear ho0); obtain ⟨Ao18, co18, eo18⟩ := Kd.R_slice HO189.out; subst eo18; have p190 : 0 ≤ (0 : Int) := (by omega); have q190 : 0 < (t187.length : Int) := of_decide_eq_true (by first | (with_reducible assumption) | assumption); obtain ⟨ad190, e190, hx190_0⟩ := Kd.at_int (Kd.R_reads' HO189.out).2.2 0 p190 q190; cases e190; have qi190 : (0 < t187.length) = True := eq_true (by omega); (try rw [show ((0 : Int)).toNat = 0 from rfl] at hx190_0); (try rw [Addr.add_zero'] at hx190_0); replace p190 := eq_true p190; replace q190 := eq_true q190) | ((with_reducible refine gate_callee (f := 9) rfl ?_); refine goesL_ (some 60) rfl rfl Try.func9 (by kernel_rfl) rfl #[.int .i64 (wrap64 ((Int.tmod (wrap64 (a0)) 64) + 1)), .int .i64 (rd t187 0)] rfl (by (try simp only [List.map_toArray, List.map_cons, List.map_nil]); first | done | rfl | (simp only [List.length_drop, List.length_take]; rfl)) ?_; (with_reducible refine (floor_Aisle.calls (wrap64 ((Int.tmod (wrap64 (a0)) 64) + 1)) (rd t187 0) t191 t192 _ A15.out).mono ?_); rintro e w19 ⟨rfl, hb⟩; refine ⟨_, rfl, ?_⟩; have n0_ := Aside0.mk (Kd.R_below (by (with_reducible repeat (first | apply Kd.R_alloc | apply Kd.R_drewN | apply Kd.R_drew)); exact HO189.out) hb); have n1_ := Aside0.mk (below_step (by repeat (first | (with_reducible first | exact HB.out | apply below_alloc | apply pw_below_drewN | apply below_drew1) | exact HB.out)) hb); clear HO189; clear HB; have HO189 := n0_; have HB := n1_; clear n0_ n1_; (try clear hb); (try clear hb2); (try clear hk); (try clear hi)))
        (try simp only [Act.put, List.setIfInBounds_toArray, List.set_cons_zero, List.set_cons_succ])
        go_cut [69] (fun v69 wc => ∃ (kq : Nat) (x69_15 : Bool), v69 = .bool x69_15 ∧ Aside0 (recouplaw15_FloorParted.j2 kq a1 a2 (wrap64 ((Int.tmod (wrap64 (a0)) 64) + 1)) t181 x10_1 x11_1 t184 x69_15 = some r) ∧ Aside0 (kq ≤ kj6) ∧ Aside0 (Below w.heap.size w wc))
        case first =>
         have H := HC16.out
         clear HC16
         by_cases c20 : t192 = 0
         ·rw [if_pos c20] at H
          have c20b0 : (t192 == 0) = true := beq_iff_eq.mpr c20
          have c20b1 : (t192 != 0) = false := bne_eq_false_iff_eq.mpr c20
          clear c20
          (first | rw [c20b0] | (simp only [i64_w, i32_w]; rw [c20b0]) | skip)
          have H' := Aside0.mk H
          clear H
          go_wp2
          go_meet
          case rel => exact ⟨_, ((t184 != t191)), (by first | rfl | (simp; done) | (simp [*]; done)), H', ⟨by have := HK1.out; have := HJ6.out; first | omega | exact Nat.le_refl _⟩, ⟨by repeat (first | (with_reducible first | exact HB.out | apply below_alloc | apply pw_below_drewN | apply below_drew1) | exact HB.out)⟩⟩
         ·rw [if_neg c20] at H
          have c20b0 : (t192 == 0) = false := beq_eq_false_iff_ne.mpr c20
          have c20b1 : (t192 != 0) = true := bne_iff_ne.mpr c20
          (first | rw [c20b0] | (simp only [i64_w, i32_w]; rw [c20b0]) | skip)
          have H' := Aside0.mk H
          clear H
          go_wp2
          go_meet
          case rel => exact ⟨_, (true), (by first | rfl | (simp; done) | (simp [*]; done)), H', ⟨by have := HK1.out; have := HJ6.out; first | omega | exact Nat.le_refl _⟩, ⟨by repeat (first | (with_reducible first | exact HB.out | apply below_alloc | apply pw_below_drewN | apply below_drew1) | exact HB.out)⟩⟩
        case rest =>
         clear HC16
         try clear c1
         try clear p1
         try clear q1
         try clear hx1
         try clear qi1
         try clear c2
         try clear p2
         try clear c5
         try clear c5b0
         try clear c6
         try clear p6
         try clear c9
         try clear c9b0
         try clear c9b1
         try clear c11
         try clear c12
         try clear c14
         try clear c14b0
         try clear c14b1
         try clear c19
         try clear p19
         try clear q19
         try clear hx19
         try clear qi19
         try clear c20
         try clear c20b0
         try clear c20b1
         try clear hx190_0
         try clear p190
         try clear p2
         try clear p6
         try clear q190
         obtain ⟨kq, x69_15, rfl, HA, HJ15, HB⟩ := hcut
         cases kq with
         | zero => exact absurd HA.out (by simp [recouplaw15_FloorParted.j2])
         | succ kj15 =>
          have H := HA.out
          clear HA
          simp only [recouplaw15_FloorParted.j2] at H
          by_cases c21 : x69_15 = true
          ·subst c21
           have H1 : (some false) = some r := by rw [if_pos rfl] at H; exact H
           clear H
           have H := H1
           clear H1
           obtain rfl := Option.some.inj H
           go_wp2
           go_ret
           exact ⟨by first | rfl | (simp [errW_none, errW_some] <;> rfl) | (simp [*, errW_none, errW_some] <;> rfl), by repeat (first | (with_reducible first | exact HB.out | apply below_alloc | apply pw_below_drewN | apply below_drew1) | exact HB.out)⟩
          ·replace c21 := Bool.eq_false_iff.mpr c21
           subst c21
           have H1 : ((floor_Near.f (wrap64 ((Int.tmod (wrap64 (a0)) 64) + 1)) x11_1 (wrap64 (a2))).bind fun bt193 => (if (wrap64 ((Int.tmod (wrap64 (a0)) 64) + 1)) = 0 then (none) else ((floor_Near.f (wrap64 ((Int.tmod (wrap64 (a0)) 64) + 1)) (Int.tmod (wrap64 (a1)) (wrap64 ((Int.tmod (wrap64 (a0)) 64) + 1))) (wrap64 (a2))).bind fun bt195 => (if bt193.2 = 0 then (if bt195.2 = 0 then ((recoupref06_Has.f bt193.1 (Int.tmod (wrap64 (a1)) (wrap64 ((Int.tmod (wrap64 (a0)) 64) + 1)))).bind fun t197 => ((recoupref06_Has.f bt195.1 x11_1).bind fun t198 => (if (t197 != t198) = true then (some false) else (recouplaw15_FloorParted.l0 kj15 a1 a2 (wrap64 ((Int.tmod (wrap64 (a0)) 64) + 1)) t181 (Go.bits .or .u64 x10_1 t184) (wrap64 (x11_1 + 1)))))) else (some false)) else (some false))))) = some r := by rw [if_neg (show ¬ (false = true) by decide)] at H; exact H
           clear H
           have H := H1
           clear H1
           replace H := Option.bind_eq_some_iff.mp H
           obtain ⟨⟨t193, t194⟩, A220, H⟩ := H
           replace H : (if (wrap64 ((Int.tmod (wrap64 (a0)) 64) + 1)) = 0 then (none) else ((floor_Near.f (wrap64 ((Int.tmod (wrap64 (a0)) 64) + 1)) (Int.tmod (wrap64 (a1)) (wrap64 ((Int.tmod (wrap64 (a0)) 64) + 1))) (wrap64 (a2))).bind fun bt195 => (if t194 = 0 then (if bt195.2 = 0 then ((recoupref06_Has.f t193 (Int.tmod (wrap64 (a1)) (wrap64 ((Int.tmod (wrap64 (a0)) 64) + 1)))).bind fun t197 => ((recoupref06_Has.f bt195.1 x11_1).bind fun t198 => (if (t197 != t198) = true then (some false) else (recouplaw15_FloorParted.l0 kj15 a1 a2 (wrap64 ((Int.tmod (wrap64 (a0)) 64) + 1)) t181 (Go.bits .or .u64 x10_1 t184) (wrap64 (x11_1 + 1)))))) else (some false)) else (some false)))) = some r := H
           have A22 := Aside0.mk A220
           clear A220
           by_cases c23 : (wrap64 ((Int.tmod (wrap64 (a0)) 64) + 1)) = 0
           ·rw [if_pos c23] at H
            exact absurd H (by simp)
           ·rw [if_neg c23] at H
            have c23b0 : ((wrap64 ((Int.tmod (wrap64 (a0)) 64) + 1)) == 0) = false := beq_eq_false_iff_ne.mpr c23
            have c23b1 : ((wrap64 ((Int.tmod (wrap64 (a0)) 64) + 1)) != 0) = true := bne_iff_ne.mpr c23
            replace H := Option.bind_eq_some_iff.mp H
            obtain ⟨⟨t195, t196⟩, A240, H⟩ := H
            replace H : (if t194 = 0 then (if t196 = 0 then ((recoupref06_Has.f t193 (Int.tmod (wrap64 (a1)) (wrap64 ((Int.tmod (wrap64 (a0)) 64) + 1)))).bind fun t197 => ((recoupref06_Has.f t195 x11_1).bind fun t198 => (if (t197 != t198) = true then (some false) else (recouplaw15_FloorParted.l0 kj15 a1 a2 (wrap64 ((Int.tmod (wrap64 (a0)) 64) + 1)) t181 (Go.bits .or .u64 x10_1 t184) (wrap64 (x11_1 + 1)))))) else (some false)) else (some false)) = some r := H
            have A24 := Aside0.mk A240
            clear A240
            by_cases c25 : t194 = 0
            ·rw [if_pos c25] at H
             have c25b0 : (t194 == 0) = true := beq_iff_eq.mpr c25
             have c25b1 : (t194 != 0) = false := bne_eq_false_iff_eq.mpr c25
             clear c25
             by_cases c26 : t196 = 0
             ·rw [if_pos c26] at H
              have c26b0 : (t196 == 0) = true := beq_iff_eq.mpr c26
              have c26b1 : (t196 != 0) = false := bne_eq_false_iff_eq.mpr c26
              clear c26
              replace H := Option.bind_eq_some_iff.mp H
              obtain ⟨t197, A270, H⟩ := H
              replace H : ((recoupref06_Has.f t195 x11_1).bind fun t198 => (if (t197 != t198) = true then (some false) else (recouplaw15_FloorParted.l0 kj15 a1 a2 (wrap64 ((Int.tmod (wrap64 (a0)) 64) + 1)) t181 (Go.bits .or .u64 x10_1 t184) (wrap64 (x11_1 + 1))))) = some r := H
              have A27 := Aside0.mk A270
              clear A270
              replace H := Option.bind_eq_some_iff.mp H
              obtain ⟨t198, A280, H⟩ := H
              replace H : (if (t197 != t198) = true then (some false) else (recouplaw15_FloorParted.l0 kj15 a1 a2 (wrap64 ((Int.tmod (wrap64 (a0)) 64) + 1)) t181 (Go.bits .or .u64 x10_1 t184) (wrap64 (x11_1 + 1)))) = some r := H
              have A28 := Aside0.mk A280
              clear A280
              by_cases c29 : (t197 != t198) = true
              ·rw [if_pos c29] at H
               have c29b0 : (t197 != t198) = true := c29
               (try (have c29b1 : decide (t197 = t198) = false := by simpa using c29))
               (try (have c29b2 : (t197 == t198) = false := by simpa using c29))
               (try (have c29b3 : ¬ (t197 = t198) := by simpa using c29))
               clear c29
               obtain rfl := Option.some.inj H
               go_wp2_with (first | ((with_reducible refine gate_callee (f := 11) rfl ?_); refine goesL_ (some 78) rfl rfl Try.func11 (by kernel_rfl) rfl #[.int .i64 (wrap64 ((Int.tmod (wrap64 (a0)) 64) + 1)), .int .i64 x11_1, .int .i64 (wrap64 (a2))] rfl (by (try simp only [List.map_toArray, List.map_cons, List.map_nil]); first | done | rfl | (simp only [List.length_drop, List.length_take]; rfl)) ?_; (with_reducible refine (floor_Near.calls (wrap64 ((Int.tmod (wrap64 (a0)) 64) + 1)) x11_1 (wrap64 (a2)) t193 t194 _ A22.out).mono ?_); rintro e w30 ⟨rfl, hb⟩; refine ⟨_, rfl, ?_⟩; have n0_ := Aside0.mk (below_step (by repeat (first | (with_reducible first | exact HB.out | apply below_alloc | apply pw_below_drewN | apply below_drew1) | exact HB.out)) hb); clear HB; have HB := n0_; clear n0_; (try clear hb); (try clear hb2); (try clear hk); (try clear hi)) | ((with_reducible refine gate_callee (f := 11) rfl ?_); refine goesL_ (some 89) rfl rfl Try.func11 (by kernel_rfl) rfl #[.int .i64 (wrap64 ((Int.tmod (wrap64 (a0)) 64) + 1)), .int .i64 (Int.tmod (wrap64 (a1)) (wrap64 ((Int.tmod (wrap64 (a0)) 64) + 1))), .int .i64 (wrap64 (a2))] rfl (by (try simp only [List.map_toArray, List.map_cons, List.map_nil]); first | done | rfl | (simp only [List.length_drop, List.length_take]; rfl)) ?_; (with_reducible refine (floor_Near.calls (wrap64 ((Int.tmod (wrap64 (a0)) 64) + 1)) (Int.tmod (wrap64 (a1)) (wrap64 ((Int.tmod (wrap64 (a0)) 64) + 1))) (wrap64 (a2)) t195 t196 _ A24.out).mono ?_); rintro e w31 ⟨rfl, hb⟩; refine ⟨_, rfl, ?_⟩; have n0_ := Aside0.mk (below_step (by repeat (first | (with_reducible first | exact HB.out | apply below_alloc | apply pw_below_drewN | apply below_drew1) | exact HB.out)) hb); clear HB; have HB := n0_; clear n0_; (try clear hb); (try clear hb2); (try clear hk); (try clear hi)) | (go_at_call 20; (with_reducible refine (recoupref06_Has.calls t193 (Int.tmod (wrap64 (a1)) (wrap64 ((Int.tmod (wrap64 (a0)) 64) + 1))) t197 _ A27.out).mono ?_); rintro e w' ⟨rfl, ⟨nd, rfl⟩⟩) | (go_at_call 20; (with_reducible refine (recoupref06_Has.calls t195 x11_1 t198 _ A28.out).mono ?_); rintro e w' ⟨rfl, ⟨nd, rfl⟩⟩))
               go_ret
               exact ⟨by first | rfl | (simp [errW_none, errW_some] <;> rfl) | (simp [*, errW_none, errW_some] <;> rfl), by repeat (first | (with_reducible first | exact HB.out | apply below_alloc | apply pw_below_drewN | apply below_drew1) | exact HB.out)⟩
              ·rw [if_neg c29] at H
               have c29b0 : (t197 != t198) = false := by simpa using c29
               (try (have c29b1 : decide (t197 = t198) = true := by simpa using c29))
               (try (have c29b2 : (t197 == t198) = true := by simpa using c29))
               clear c29
               have H' := Aside0.mk H
               clear H
               go_wp2_with (first | ((with_reducible refine gate_callee (f := 11) rfl ?_); refine goesL_ (some 78) rfl rfl Try.func11 (by kernel_rfl) rfl #[.int .i64 (wrap64 ((Int.tmod (wrap64 (a0)) 64) + 1)), .int .i64 x11_1, .int .i64 (wrap64 (a2))] rfl (by (try simp only [List.map_toArray, List.map_cons, List.map_nil]); first | done | rfl | (simp only [List.length_drop, List.length_take]; rfl)) ?_; (with_reducible refine (floor_Near.calls (wrap64 ((Int.tmod (wrap64 (a0)) 64) + 1)) x11_1 (wrap64 (a2)) t193 t194 _ A22.out).mono ?_); rintro e w32 ⟨rfl, hb⟩; refine ⟨_, rfl, ?_⟩; have n0_ := Aside0.mk (below_step (by repeat (first | (with_reducible first | exact HB.out | apply below_alloc | apply pw_below_drewN | apply below_drew1) | exact HB.out)) hb); clear HB; have HB := n0_; clear n0_; (try clear hb); (try clear hb2); (try clear hk); (try clear hi)) | ((with_reducible refine gate_callee (f := 11) rfl ?_); refine goesL_ (some 89) rfl rfl Try.func11 (by kernel_rfl) rfl #[.int .i64 (wrap64 ((Int.tmod (wrap64 (a0)) 64) + 1)), .int .i64 (Int.tmod (wrap64 (a1)) (wrap64 ((Int.tmod (wrap64 (a0)) 64) + 1))), .int .i64 (wrap64 (a2))] rfl (by (try simp only [List.map_toArray, List.map_cons, List.map_nil]); first | done | rfl | (simp only [List.length_drop, List.length_take]; rfl)) ?_; (with_reducible refine (floor_Near.calls (wrap64 ((Int.tmod (wrap64 (a0)) 64) + 1)) (Int.tmod (wrap64 (a1)) (wrap64 ((Int.tmod (wrap64 (a0)) 64) + 1))) (wrap64 (a2)) t195 t196 _ A24.out).mono ?_); rintro e w33 ⟨rfl, hb⟩; refine ⟨_, rfl, ?_⟩; have n0_ := Aside0.mk (below_step (by repeat (first | (with_reducible first | exact HB.out | apply below_alloc | apply pw_below_drewN | apply below_drew1) | exact HB.out)) hb); clear HB; have HB := n0_; clear n0_; (try clear hb); (try clear hb2); (try clear hk); (try clear hi)) | (go_at_call 20; (with_reducible refine (recoupref06_Has.calls t193 (Int.tmod (wrap64 (a1)) (wrap64 ((Int.tmod (wrap64 (a0)) 64) + 1))) t197 _ A27.out).mono ?_); rintro e w' ⟨rfl, ⟨nd, rfl⟩⟩) | (go_at_call 20; (with_reducible refine (recoupref06_Has.calls t195 x11_1 t198 _ A28.out).mono ?_); rintro e w' ⟨rfl, ⟨nd, rfl⟩⟩))
               go_roundg kj15
               case measure => have := HK1.out; have := HJ6.out; have := HJ15.out; omega
               case rel => exact ⟨(Go.bits .or .u64 x10_1 t184), (wrap64 (x11_1 + 1)), (by first | rfl | (simp; done) | (simp [*]; done)), (by first | rfl | (simp; done) | (simp [*]; done)), H', ⟨by have := HK1.out; have := HJ6.out; have := HJ15.out; omega⟩, ⟨by repeat (first | (with_reducible first | exact HB.out | apply below_alloc | apply pw_below_drewN | apply below_drew1) | exact HB.out)⟩⟩
             ·rw [if_neg c26] at H
              have c26b0 : (t196 == 0) = false := beq_eq_false_iff_ne.mpr c26
              have c26b1 : (t196 != 0) = true := bne_iff_ne.mpr c26
              obtain rfl := Option.some.inj H
              go_wp2_with (first | ((with_reducible refine gate_callee (f := 11) rfl ?_); refine goesL_ (some 78) rfl rfl Try.func11 (by kernel_rfl) rfl #[.int .i64 (wrap64 ((Int.tmod (wrap64 (a0)) 64) + 1)), .int .i64 x11_1, .int .i64 (wrap64 (a2))] rfl (by (try simp only [List.map_toArray, List.map_cons, List.map_nil]); first | done | rfl | (simp only [List.length_drop, List.length_take]; rfl)) ?_; (with_reducible refine (floor_Near.calls (wrap64 ((Int.tmod (wrap64 (a0)) 64) + 1)) x11_1 (wrap64 (a2)) t193 t194 _ A22.out).mono ?_); rintro e w34 ⟨rfl, hb⟩; refine ⟨_, rfl, ?_⟩; have n0_ := Aside0.mk (below_step (by repeat (first | (with_reducible first | exact HB.out | apply below_alloc | apply pw_below_drewN | apply below_drew1) | exact HB.out)) hb); clear HB; have HB := n0_; clear n0_; (try clear hb); (try clear hb2); (try clear hk); (try clear hi)) | ((with_reducible refine gate_callee (f := 11) rfl ?_); refine goesL_ (some 89) rfl rfl Try.func11 (by kernel_rfl) rfl #[.int .i64 (wrap64 ((Int.tmod (wrap64 (a0)) 64) + 1)), .int .i64 (Int.tmod (wrap64 (a1)) (wrap64 ((Int.tmod (wrap64 (a0)) 64) + 1))), .int .i64 (wrap64 (a2))] rfl (by (try simp only [List.map_toArray, List.map_cons, List.map_nil]); first | done | rfl | (simp only [List.length_drop, List.length_take]; rfl)) ?_; (with_reducible refine (floor_Near.calls (wrap64 ((Int.tmod (wrap64 (a0)) 64) + 1)) (Int.tmod (wrap64 (a1)) (wrap64 ((Int.tmod (wrap64 (a0)) 64) + 1))) (wrap64 (a2)) t195 t196 _ A24.out).mono ?_); rintro e w35 ⟨rfl, hb⟩; refine ⟨_, rfl, ?_⟩; have n0_ := Aside0.mk (below_step (by repeat (first | (with_reducible first | exact HB.out | apply below_alloc | apply pw_below_drewN | apply below_drew1) | exact HB.out)) hb); clear HB; have HB := n0_; clear n0_; (try clear hb); (try clear hb2); (try clear hk); (try clear hi)))
              go_ret
              exact ⟨by first | rfl | (simp [errW_none, errW_some] <;> rfl) | (simp [*, errW_none, errW_some] <;> rfl), by repeat (first | (with_reducible first | exact HB.out | apply below_alloc | apply pw_below_drewN | apply below_drew1) | exact HB.out)⟩
            ·rw [if_neg c25] at H
             have c25b0 : (t194 == 0) = false := beq_eq_false_iff_ne.mpr c25
             have c25b1 : (t194 != 0) = true := bne_iff_ne.mpr c25
             obtain rfl := Option.some.inj H
             go_wp2_with (first | ((with_reducible refine gate_callee (f := 11) rfl ?_); refine goesL_ (some 78) rfl rfl Try.func11 (by kernel_rfl) rfl #[.int .i64 (wrap64 ((Int.tmod (wrap64 (a0)) 64) + 1)), .int .i64 x11_1, .int .i64 (wrap64 (a2))] rfl (by (try simp only [List.map_toArray, List.map_cons, List.map_nil]); first | done | rfl | (simp only [List.length_drop, List.length_take]; rfl)) ?_; (with_reducible refine (floor_Near.calls (wrap64 ((Int.tmod (wrap64 (a0)) 64) + 1)) x11_1 (wrap64 (a2)) t193 t194 _ A22.out).mono ?_); rintro e w36 ⟨rfl, hb⟩; refine ⟨_, rfl, ?_⟩; have n0_ := Aside0.mk (below_step (by repeat (first | (with_reducible first | exact HB.out | apply below_alloc | apply pw_below_drewN | apply below_drew1) | exact HB.out)) hb); clear HB; have HB := n0_; clear n0_; (try clear hb); (try clear hb2); (try clear hk); (try clear hi)) | ((with_reducible refine gate_callee (f := 11) rfl ?_); refine goesL_ (some 89) rfl rfl Try.func11 (by kernel_rfl) rfl #[.int .i64 (wrap64 ((Int.tmod (wrap64 (a0)) 64) + 1)), .int .i64 (Int.tmod (wrap64 (a1)) (wrap64 ((Int.tmod (wrap64 (a0)) 64) + 1))), .int .i64 (wrap64 (a2))] rfl (by (try simp only [List.map_toArray, List.map_cons, List.map_nil]); first | done | rfl | (simp only [List.length_drop, List.length_take]; rfl)) ?_; (with_reducible refine (floor_Near.calls (wrap64 ((Int.tmod (wrap64 (a0)) 64) + 1)) (Int.tmod (wrap64 (a1)) (wrap64 ((Int.tmod (wrap64 (a0)) 64) + 1))) (wrap64 (a2)) t195 t196 _ A24.out).mono ?_); rintro e w37 ⟨rfl, hb⟩; refine ⟨_, rfl, ?_⟩; have n0_ := Aside0.mk (below_step (by repeat (first | (with_reducible first | exact HB.out | apply below_alloc | apply pw_below_drewN | apply below_drew1) | exact HB.out)) hb); clear HB; have HB := n0_; clear n0_; (try clear hb); (try clear hb2); (try clear hk); (try clear hi)))
             go_ret
             exact ⟨by first | rfl | (simp [errW_none, errW_some] <;> rfl) | (simp [*, errW_none, errW_some] <;> rfl), by repeat (first | (with_reducible first | exact HB.out | apply below_alloc | apply pw_below_drewN | apply below_drew1) | exact HB.out)⟩
       ·rw [if_neg c14] at H
        exact absurd H (by simp)
   ·rw [if_neg c5] at H
    have c5b0 : decide (x11_1 < (wrap64 ((Int.tmod (wrap64 (a0)) 64) + 1))) = false := decide_eq_false c5
    clear c5
    replace H := Option.bind_eq_some_iff.mp H
    obtain ⟨t183, A380, H⟩ := H
    replace H : (if t183 = true then (some (x10_1 == t181)) else (some false)) = some r := H
    have A38 := Aside0.mk A380
    clear A380
    by_cases c39 : t183 = true
    ·subst c39
     have H1 : (some (x10_1 == t181)) = some r := by rw [if_pos rfl] at H; exact H
     clear H
     have H := H1
     clear H1
     obtain rfl := Option.some.inj H
     go_wp2_with (first | ((with_reducible refine gate_callee (f := 18) rfl ?_); refine goesL_ (some 110) rfl rfl Try.func18 (by kernel_rfl) rfl #[] rfl (by (try simp only [List.map_toArray, List.map_cons, List.map_nil]); first | done | rfl | (simp only [List.length_drop, List.length_take]; rfl)) ?_; (with_reducible refine (recouplaw15_anchored.calls  true _ A38.out).mono ?_); rintro e w40 ⟨rfl, hb⟩; refine ⟨_, rfl, ?_⟩; have n0_ := Aside0.mk (below_step (by repeat (first | (with_reducible first | exact HB.out | apply below_alloc | apply pw_below_drewN | apply below_drew1) | exact HB.out)) hb); clear HB; have HB := n0_; clear n0_; (try clear hb); (try clear hb2); (try clear hk); (try clear hi)))
     go_ret
     exact ⟨by first | rfl | (simp [errW_none, errW_some] <;> rfl) | (simp [*, errW_none, errW_some] <;> rfl), by repeat (first | (with_reducible first | exact HB.out | apply below_alloc | apply pw_below_drewN | apply below_drew1) | exact HB.out)⟩
    ·replace c39 := Bool.eq_false_iff.mpr c39
     subst c39
     have H1 : (some false) = some r := by rw [if_neg (show ¬ (false = true) by decide)] at H; exact H
     clear H
     have H := H1
     clear H1
     obtain rfl := Option.some.inj H
     go_wp2_with (first | ((with_reducible refine gate_callee (f := 18) rfl ?_); refine goesL_ (some 110) rfl rfl Try.func18 (by kernel_rfl) rfl #[] rfl (by (try simp only [List.map_toArray, List.map_cons, List.map_nil]); first | done | rfl | (simp only [List.length_drop, List.length_take]; rfl)) ?_; (with_reducible refine (recouplaw15_anchored.calls  false _ A38.out).mono ?_); rintro e w41 ⟨rfl, hb⟩; refine ⟨_, rfl, ?_⟩; have n0_ := Aside0.mk (below_step (by repeat (first | (with_reducible first | exact HB.out | apply below_alloc | apply pw_below_drewN | apply below_drew1) | exact HB.out)) hb); clear HB; have HB := n0_; clear n0_; (try clear hb); (try clear hb2); (try clear hk); (try clear hi)))
     go_ret
     exact ⟨by first | rfl | (simp [errW_none, errW_some] <;> rfl) | (simp [*, errW_none, errW_some] <;> rfl), by repeat (first | (with_reducible first | exact HB.out | apply below_alloc | apply pw_below_drewN | apply below_drew1) | exact HB.out)⟩

/-- THE ONE PURE STATEMENT of recouplaw15_FloorParted: yours. -/
def recouplaw15_FloorParted.Pure : Prop := ∀ (a0 : Int) (a1 : Int) (a2 : Int), (Lit.int .u8 a0).wf = true → (Lit.int .u8 a1).wf = true → (Lit.int .u8 a2).wf = true → ∃ k, recouplaw15_FloorParted.f k a0 a1 a2 = some true
theorem recouplaw15_FloorParted.walk (P : recouplaw15_FloorParted.Pure) (a0 : Int) (a1 : Int) (a2 : Int) (w : World) (w0 : (Lit.int .u8 a0).wf = true) (w1 : (Lit.int .u8 a1).wf = true) (w2 : (Lit.int .u8 a2).wf = true) :
  Calls Try.prog 6 #[.int .u8 a0, .int .u8 a1, .int .u8 a2] w fun e w' => e = .returned (.bool true) ∧ Below w.heap.size w w' := by
 obtain ⟨k, h⟩ := P a0 a1 a2 w0 w1 w2
 refine (recouplaw15_FloorParted.calls k a0 a1 a2 true w h).mono ?_
 rintro e w' ⟨rfl, hd⟩
 exact ⟨rfl, hd⟩

end Go.Proofs.Ytnioplhdhaomoaa.PA
