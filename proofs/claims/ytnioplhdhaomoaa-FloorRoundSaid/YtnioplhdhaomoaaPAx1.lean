-- Written by wip/tools/mp.py (the kit's print, run over several laws with some functions given by hand).
import Derived.Test.YtnioplhdhaomoaaPAx0
namespace Go.Proofs.Ytnioplhdhaomoaa.PA
open Go.RowKit Go.Proofs.YtnioplhdhaomoaaW.PrintWords Go.Proofs.YtnioplhdhaomoaaW.PrintLast Go.Proofs.YtnioplhdhaomoaaW.PrintMore
attribute [local go_sem] max2_int min2_int max_two min_two max_three min_three max_four min_four   -- for this text's walks alone
set_option linter.unusedVariables false
set_option linter.unusedSimpArgs false

/-! ### floor_may: function 33 -/
mutual
def floor_may.j0 : Nat → Int → Int → Int → Int → List Int → Bool → Option (Bool)
 | 0, _, _, _, _, _, _ => none
 | k + 1, x0, x1, x2, x3, x4, x34 => if x34 = true then (some false) else (if x0 = 3 then (if x3 < 1 then (floor_may.j1 k x0 x1 x2 x4 true) else (if x3 > 2147483647 then (floor_may.j1 k x0 x1 x2 x4 true) else (floor_may.j1 k x0 x1 x2 x4 false))) else (floor_may.j1 k x0 x1 x2 x4 (x3 != 0)))
def floor_may.j1 : Nat → Int → Int → Int → List Int → Bool → Option (Bool)
 | 0, _, _, _, _, _ => none
 | k + 1, x0, x1, x2, x4, x52 => if x52 = true then (some false) else (if x0 = 4 then (floor_may.l0 k x1 x2 x4 x4 (x4.length : Int) 0) else (some ((x4.length : Int) == 0)))
def floor_may.l0 : Nat → Int → Int → List Int → List Int → Int → Int → Option (Bool)
 | 0, _, _, _, _, _, _ => none
 | k + 1, x1, x2, x4, x58, x59, x60 => if x60 < x59 then (if 0 ≤ x60 then (if x60 < (x58.length : Int) then (if (rd x58 x60) < 0 then (some false) else (if (rd x58 x60) ≥ x2 then (some false) else (floor_may.l0 k x1 x2 x4 x58 x59 (wrap64 (x60 + 1))))) else (none)) else (none)) else (some ((x4.length : Int) == x1))
end
def floor_may.f (k : Nat) (a0 : Int) (a1 : Int) (a2 : Int) (a3 : Int) (l4 : List Int) : Option (Bool) := if a1 < 1 then (floor_may.j0 k a0 a1 a2 a3 l4 true) else (if a1 > 64 then (floor_may.j0 k a0 a1 a2 a3 l4 true) else (if a2 < 1 then (floor_may.j0 k a0 a1 a2 a3 l4 true) else (if a2 > 64 then (floor_may.j0 k a0 a1 a2 a3 l4 true) else (if a0 < 1 then (floor_may.j0 k a0 a1 a2 a3 l4 true) else (floor_may.j0 k a0 a1 a2 a3 l4 (decide (a0 > 4)))))))
set_option maxHeartbeats 8000000 in
set_option maxRecDepth 100000 in
theorem floor_may.calls (k : Nat) (a0 : Int) (a1 : Int) (a2 : Int) (a3 : Int) (A4 : Option Addr) (c4 : Nat) (l4 : List Int) (r : Bool) (w : World) (hr4 : Kd.C (Kd.int .i64) w A4 l4.length l4) (hc4 : l4.length ≤ c4) (h : floor_may.f k a0 a1 a2 a3 l4 = some r) :
  Calls Try.prog 33 #[.int .u8 a0, .int .i64 a1, .int .i64 a2, .int .i64 a3, .slice A4 l4.length c4] w fun e w' => e = .returned (.bool r) ∧ Drawn0 w w' := by
 have HR4 := Aside0.mk hr4
 have HC4 := Aside0.mk hc4
 clear hr4 hc4
 have H : (if a1 < 1 then (floor_may.j0 k a0 a1 a2 a3 l4 true) else (if a1 > 64 then (floor_may.j0 k a0 a1 a2 a3 l4 true) else (if a2 < 1 then (floor_may.j0 k a0 a1 a2 a3 l4 true) else (if a2 > 64 then (floor_may.j0 k a0 a1 a2 a3 l4 true) else (if a0 < 1 then (floor_may.j0 k a0 a1 a2 a3 l4 true) else (floor_may.j0 k a0 a1 a2 a3 l4 (decide (a0 > 4)))))))) = some r := h
 clear h
 have HC6 := Aside0.mk H
 clear H
 go_enter Try.func33, Try.ntmps33
 go_upto_region 1 with (fail)
 go_cut [34] (fun v34 wc => ∃ (kq : Nat) (x34_5 : Bool), v34 = .bool x34_5 ∧ Aside0 (floor_may.j0 kq a0 a1 a2 a3 l4 x34_5 = some r) ∧ Aside0 (kq ≤ k) ∧ Drawn0 w wc)
 case first =>
  have H := HC6.out
  clear HC6
  by_cases c7 : a1 < 1
  ·rw [if_pos c7] at H
   have c7b0 : decide (a1 < 1) = true := decide_eq_true c7
   clear c7
   (first | rw [c7b0] | (simp only [i64_w, i32_w]; rw [c7b0]) | skip)
   have H' := Aside0.mk H
   clear H
   go_wp2
   go_meet
   case rel => exact ⟨_, (true), (by first | rfl | (simp; done) | (simp [*]; done)), H', ⟨by first | omega | exact Nat.le_refl _⟩, by repeat (first | exact Drawn0.refl _ | apply Drawn0.step)⟩
  ·rw [if_neg c7] at H
   have c7b0 : decide (a1 < 1) = false := decide_eq_false c7
   clear c7
   (first | rw [c7b0] | (simp only [i64_w, i32_w]; rw [c7b0]) | skip)
   by_cases c8 : a1 > 64
   ·rw [if_pos c8] at H
    have c8b0 : decide (64 < a1) = true := decide_eq_true c8
    clear c8
    have H' := Aside0.mk H
    clear H
    go_wp2
    go_meet
    case rel => exact ⟨_, (true), (by first | rfl | (simp; done) | (simp [*]; done)), H', ⟨by first | omega | exact Nat.le_refl _⟩, by repeat (first | exact Drawn0.refl _ | apply Drawn0.step)⟩
   ·rw [if_neg c8] at H
    have c8b0 : decide (64 < a1) = false := decide_eq_false c8
    clear c8
    by_cases c9 : a2 < 1
    ·rw [if_pos c9] at H
     have c9b0 : decide (a2 < 1) = true := decide_eq_true c9
     clear c9
     have H' := Aside0.mk H
     clear H
     go_wp2
     go_meet
     case rel => exact ⟨_, (true), (by first | rfl | (simp; done) | (simp [*]; done)), H', ⟨by first | omega | exact Nat.le_refl _⟩, by repeat (first | exact Drawn0.refl _ | apply Drawn0.step)⟩
    ·rw [if_neg c9] at H
     have c9b0 : decide (a2 < 1) = false := decide_eq_false c9
     clear c9
     by_cases c10 : a2 > 64
     ·rw [if_pos c10] at H
      have c10b0 : decide (64 < a2) = true := decide_eq_true c10
      clear c10
      have H' := Aside0.mk H
      clear H
      go_wp2
      go_meet
      case rel => exact ⟨_, (true), (by first | rfl | (simp; done) | (simp [*]; done)), H', ⟨by first | omega | exact Nat.le_refl _⟩, by repeat (first | exact Drawn0.refl _ | apply Drawn0.step)⟩
     ·rw [if_neg c10] at H
      have c10b0 : decide (64 < a2) = false := decide_eq_false c10
      clear c10
      by_cases c11 : a0 < 1
      ·rw [if_pos c11] at H
       have c11b0 : decide (a0 < 1) = true := decide_eq_true c11
       clear c11
       have H' := Aside0.mk H
       clear H
       go_wp2
       go_meet
       case rel => exact ⟨_, (true), (by first | rfl | (simp; done) | (simp [*]; done)), H', ⟨by first | omega | exact Nat.le_refl _⟩, by repeat (first | exact Drawn0.refl _ | apply Drawn0.step)⟩
      ·rw [if_neg c11] at H
       have c11b0 : decide (a0 < 1) = false := decide_eq_false c11
       clear c11
       have H' := Aside0.mk H
       clear H
       go_wp2
       go_meet
       case rel => exact ⟨_, (decide (a0 > 4)), (by first | rfl | (simp; done) | (simp [*]; done)), H', ⟨by first | omega | exact Nat.le_refl _⟩, by repeat (first | exact Drawn0.refl _ | apply Drawn0.step)⟩
 case rest =>
  clear HC6
  try clear c1
  try clear p2
  try clear c3
  try clear c4
  try clear c7
  try clear c7b0
  try clear c8
  try clear c8b0
  try clear c9
  try clear c9b0
  try clear c10
  try clear c10b0
  try clear c11
  try clear c11b0
  obtain ⟨kq, x34_5, rfl, HA, HJ5, ⟨mc5, rfl⟩⟩ := hcut
  cases kq with
  | zero => exact absurd HA.out (by simp [floor_may.j0])
  | succ kj5 =>
   have H := HA.out
   clear HA
   simp only [floor_may.j0] at H
   by_cases c12 : x34_5 = true
   ·subst c12
    have H1 : (some false) = some r := by rw [if_pos rfl] at H; exact H
    clear H
    have H := H1
    clear H1
    obtain rfl := Option.some.inj H
    go_wp2
    go_ret
    exact ⟨by first | rfl | (simp; done) | (simp [*]; done), by repeat (first | exact Drawn0.refl _ | apply Drawn0.step)⟩
   ·replace c12 := Bool.eq_false_iff.mpr c12
    subst c12
    have H1 : (if a0 = 3 then (if a3 < 1 then (floor_may.j1 kj5 a0 a1 a2 l4 true) else (if a3 > 2147483647 then (floor_may.j1 kj5 a0 a1 a2 l4 true) else (floor_may.j1 kj5 a0 a1 a2 l4 false))) else (floor_may.j1 kj5 a0 a1 a2 l4 (a3 != 0))) = some r := by rw [if_neg (show ¬ (false = true) by decide)] at H; exact H
    clear H
    have H := H1
    clear H1
    have HC13 := Aside0.mk H
    clear H
    go_upto_region 3 with (fail)
    go_cut [52] (fun v52 wc => ∃ (kq : Nat) (x52_12 : Bool), v52 = .bool x52_12 ∧ Aside0 (floor_may.j1 kq a0 a1 a2 l4 x52_12 = some r) ∧ Aside0 (kq ≤ kj5) ∧ Drawn0 w wc)
    case first =>
     have H := HC13.out
     clear HC13
     by_cases c14 : a0 = 3
     ·rw [if_pos c14] at H
      have c14b0 : (a0 == 3) = true := beq_iff_eq.mpr c14
      have c14b1 : (a0 != 3) = false := bne_eq_false_iff_eq.mpr c14
      clear c14
      (first | rw [c14b0] | (simp only [i64_w, i32_w]; rw [c14b0]) | skip)
      by_cases c15 : a3 < 1
      ·rw [if_pos c15] at H
       have c15b0 : decide (a3 < 1) = true := decide_eq_true c15
       clear c15
       have H' := Aside0.mk H
       clear H
       go_wp2
       go_meet
       case rel => exact ⟨_, (true), (by first | rfl | (simp; done) | (simp [*]; done)), H', ⟨by have := HJ5.out; first | omega | exact Nat.le_refl _⟩, by repeat (first | exact Drawn0.refl _ | apply Drawn0.step)⟩
      ·rw [if_neg c15] at H
       have c15b0 : decide (a3 < 1) = false := decide_eq_false c15
       clear c15
       by_cases c16 : a3 > 2147483647
       ·rw [if_pos c16] at H
        have c16b0 : decide (2147483647 < a3) = true := decide_eq_true c16
        clear c16
        have H' := Aside0.mk H
        clear H
        go_wp2
        go_meet
        case rel => exact ⟨_, (true), (by first | rfl | (simp; done) | (simp [*]; done)), H', ⟨by have := HJ5.out; first | omega | exact Nat.le_refl _⟩, by repeat (first | exact Drawn0.refl _ | apply Drawn0.step)⟩
       ·rw [if_neg c16] at H
        have c16b0 : decide (2147483647 < a3) = false := decide_eq_false c16
        clear c16
        have H' := Aside0.mk H
        clear H
        go_wp2
        go_meet
        case rel => exact ⟨_, (false), (by first | rfl | (simp; done) | (simp [*]; done)), H', ⟨by have := HJ5.out; first | omega | exact Nat.le_refl _⟩, by repeat (first | exact Drawn0.refl _ | apply Drawn0.step)⟩
     ·rw [if_neg c14] at H
      have c14b0 : (a0 == 3) = false := beq_eq_false_iff_ne.mpr c14
      have c14b1 : (a0 != 3) = true := bne_iff_ne.mpr c14
      (first | rw [c14b0] | (simp only [i64_w, i32_w]; rw [c14b0]) | skip)
      have H' := Aside0.mk H
      clear H
      go_wp2
      go_meet
      case rel => exact ⟨_, ((a3 != 0)), (by first | rfl | (simp; done) | (simp [*]; done)), H', ⟨by have := HJ5.out; first | omega | exact Nat.le_refl _⟩, by repeat (first | exact Drawn0.refl _ | apply Drawn0.step)⟩
    case rest =>
     clear HC13
     try clear c1
     try clear p2
     try clear c3
     try clear c4
     try clear c5
     try clear c7
     try clear c7b0
     try clear c8
     try clear c8b0
     try clear c9
     try clear c9b0
     try clear c10
     try clear c10b0
     try clear c11
     try clear c11b0
     try clear c12
     try clear c14
     try clear c14b0
     try clear c14b1
     try clear c15
     try clear c15b0
     try clear c16
     try clear c16b0
     try clear p2
     obtain ⟨kq, x52_12, rfl, HA, HJ12, ⟨mc12, rfl⟩⟩ := hcut
     cases kq with
     | zero => exact absurd HA.out (by simp [floor_may.j1])
     | succ kj12 =>
      have H := HA.out
      clear HA
      simp only [floor_may.j1] at H
      by_cases c17 : x52_12 = true
      ·subst c17
       have H1 : (some false) = some r := by rw [if_pos rfl] at H; exact H
       clear H
       have H := H1
       clear H1
       obtain rfl := Option.some.inj H
       go_wp2
       go_ret
       exact ⟨by first | rfl | (simp; done) | (simp [*]; done), by repeat (first | exact Drawn0.refl _ | apply Drawn0.step)⟩
      ·replace c17 := Bool.eq_false_iff.mpr c17
       subst c17
       have H1 : (if a0 = 4 then (floor_may.l0 kj12 a1 a2 l4 l4 (l4.length : Int) 0) else (some ((l4.length : Int) == 0))) = some r := by rw [if_neg (show ¬ (false = true) by decide)] at H; exact H
       clear H
       have H := H1
       clear H1
       by_cases c18 : a0 = 4
       ·rw [if_pos c18] at H
        have c18b0 : (a0 == 4) = true := beq_iff_eq.mpr c18
        have c18b1 : (a0 != 4) = false := bne_eq_false_iff_eq.mpr c18
        clear c18
        have H' := Aside0.mk H
        clear H
        go_wp2
        go_loopg [60] kj12 (fun kq v60 w' => ∃ (x60_3 : Int), v60 = .int .i64 x60_3 ∧ Aside0 (floor_may.l0 kq a1 a2 l4 l4 (l4.length : Int) x60_3 = some r) ∧ Aside0 (kq ≤ kj12) ∧ Drawn0 w w')
        case atStart => exact ⟨(0), (by first | rfl | (simp; done) | (simp [*]; done)), H', ⟨Nat.le_refl _⟩, by repeat (first | exact Drawn0.refl _ | apply Drawn0.step)⟩
        case round =>
         clear H'
         try clear c1
         try clear p2
         try clear c3
         try clear c4
         try clear c5
         try clear c7
         try clear c7b0
         try clear c8
         try clear c8b0
         try clear c9
         try clear c9b0
         try clear c10
         try clear c10b0
         try clear c11
         try clear c11b0
         try clear c12
         try clear c14
         try clear c14b0
         try clear c14b1
         try clear c15
         try clear c15b0
         try clear c16
         try clear c16b0
         try clear c17
         try clear c18
         try clear c18b0
         try clear c18b1
         try clear p2
         obtain ⟨x60_3, rfl, HA, HK3, ⟨m3, rfl⟩⟩ := hrel
         cases gk with
         | zero => exact absurd HA.out (by simp [floor_may.l0])
         | succ k3 =>
          have H := HA.out
          clear HA
          simp only [floor_may.l0] at H
          by_cases c19 : x60_3 < (l4.length : Int)
          ·rw [if_pos c19] at H
           have c19b0 : decide (x60_3 < (l4.length : Int)) = true := decide_eq_true c19
           clear c19
           by_cases c20 : 0 ≤ x60_3
           ·rw [if_pos c20] at H
            have c20b0 : decide (0 ≤ x60_3) = true := decide_eq_true c20
            clear c20
            by_cases c21 : x60_3 < (l4.length : Int)
            ·rw [if_pos c21] at H
             have c21b0 : decide (x60_3 < (l4.length : Int)) = true := decide_eq_true c21
             clear c21
             by_cases c22 : (rd l4 x60_3) < 0
             ·rw [if_pos c22] at H
              have c22b0 : decide ((rd l4 x60_3) < 0) = true := decide_eq_true c22
              clear c22
              obtain rfl := Option.some.inj H
              have p101 : 0 ≤ (x60_3 : Int) := of_decide_eq_true (by first | (with_reducible assumption) | assumption)
              have q101 : x60_3 < (l4.length : Int) := of_decide_eq_true (by first | (with_reducible assumption) | assumption)
              obtain ⟨ad101, e101, hx101_0⟩ := Kd.at_int HR4.out x60_3 p101 q101
              cases e101
              replace p101 := eq_true p101
              replace q101 := eq_true q101
              go_wp2
              go_ret
              exact ⟨by first | rfl | (simp; done) | (simp [*]; done), by repeat (first | exact Drawn0.refl _ | apply Drawn0.step)⟩
             ·rw [if_neg c22] at H
              have c22b0 : decide ((rd l4 x60_3) < 0) = false := decide_eq_false c22
              clear c22
              by_cases c23 : (rd l4 x60_3) ≥ a2
              ·rw [if_pos c23] at H
               have c23b0 : decide (a2 ≤ (rd l4 x60_3)) = true := decide_eq_true c23
               clear c23
               obtain rfl := Option.some.inj H
               have p101 : 0 ≤ (x60_3 : Int) := of_decide_eq_true (by first | (with_reducible assumption) | assumption)
               have q101 : x60_3 < (l4.length : Int) := of_decide_eq_true (by first | (with_reducible assumption) | assumption)
               obtain ⟨ad101, e101, hx101_0⟩ := Kd.at_int HR4.out x60_3 p101 q101
               cases e101
               replace p101 := eq_true p101
               replace q101 := eq_true q101
               go_wp2
               go_ret
               exact ⟨by first | rfl | (simp; done) | (simp [*]; done), by repeat (first | exact Drawn0.refl _ | apply Drawn0.step)⟩
              ·rw [if_neg c23] at H
               have c23b0 : decide (a2 ≤ (rd l4 x60_3)) = false := decide_eq_false c23
               clear c23
               have H' := Aside0.mk H
               clear H
               have p101 : 0 ≤ (x60_3 : Int) := of_decide_eq_true (by first | (with_reducible assumption) | assumption)
               have q101 : x60_3 < (l4.length : Int) := of_decide_eq_true (by first | (with_reducible assumption) | assumption)
               obtain ⟨ad101, e101, hx101_0⟩ := Kd.at_int HR4.out x60_3 p101 q101
               cases e101
               replace p101 := eq_true p101
               replace q101 := eq_true q101
               go_wp2
               go_roundg k3
               case measure => have := HJ5.out; have := HJ12.out; have := HK3.out; omega
               case rel => exact ⟨(wrap64 (x60_3 + 1)), (by first | rfl | (simp; done) | (simp [*]; done)), H', ⟨by have := HJ5.out; have := HJ12.out; have := HK3.out; omega⟩, by repeat (first | exact Drawn0.refl _ | apply Drawn0.step)⟩
            ·rw [if_neg c21] at H
             exact absurd H (by simp)
           ·rw [if_neg c20] at H
            exact absurd H (by simp)
          ·rw [if_neg c19] at H
           have c19b0 : decide (x60_3 < (l4.length : Int)) = false := decide_eq_false c19
           clear c19
           obtain rfl := Option.some.inj H
           go_wp2
           go_ret
           exact ⟨by first | rfl | (simp; done) | (simp [*]; done), by repeat (first | exact Drawn0.refl _ | apply Drawn0.step)⟩
       ·rw [if_neg c18] at H
        have c18b0 : (a0 == 4) = false := beq_eq_false_iff_ne.mpr c18
        have c18b1 : (a0 != 4) = true := bne_iff_ne.mpr c18
        obtain rfl := Option.some.inj H
        go_wp2
        go_ret
        exact ⟨by first | rfl | (simp; done) | (simp [*]; done), by repeat (first | exact Drawn0.refl _ | apply Drawn0.step)⟩

/-! ### floor_Homes: function 13 -/
def floor_Homes.l0 : Nat → Int → Int → Int → Int → List Int → List Int → Int → Int → Option (List Int × Int)
 | 0, _, _, _, _, _, _, _, _ => none
 | k + 1, x0, x1, x2, x3, x4, x12, x24, x25 => if x25 < x24 then (if x0 = 1 then (if x2 = 0 then (none) else (if 0 ≤ x25 then (if x25 < (x12.length : Int) then (floor_Homes.l0 k x0 x1 x2 x3 x4 (x12.set (x25 : Int).toNat (Int.tmod x25 x2)) x24 (wrap64 (x25 + 1))) else (none)) else (none))) else (if x0 = 2 then (if x1 = 0 then (none) else (if 0 ≤ x25 then (if x25 < (x12.length : Int) then (floor_Homes.l0 k x0 x1 x2 x3 x4 (x12.set (x25 : Int).toNat (wrap64 (Int.tdiv (wrap64 (x25 * x2)) x1))) x24 (wrap64 (x25 + 1))) else (none)) else (none))) else (if x0 = 3 then (if x2 = 0 then (none) else (if 0 ≤ x25 then (if x25 < (x12.length : Int) then (floor_Homes.l0 k x0 x1 x2 x3 x4 (x12.set (x25 : Int).toNat (Int.tmod (wrap64 (x25 * x3)) x2)) x24 (wrap64 (x25 + 1))) else (none)) else (none))) else (if x0 = 4 then (if 0 ≤ x25 then (if x25 < (x4.length : Int) then (if x25 < (x12.length : Int) then (floor_Homes.l0 k x0 x1 x2 x3 x4 (x12.set (x25 : Int).toNat (rd x4 x25)) x24 (wrap64 (x25 + 1))) else (none)) else (none)) else (none)) else (floor_Homes.l0 k x0 x1 x2 x3 x4 x12 x24 (wrap64 (x25 + 1))))))) else (some (x12, 0))
def floor_Homes.f (k : Nat) (a0 : Int) (a1 : Int) (a2 : Int) (a3 : Int) (l4 : List Int) : Option (List Int × Int) := (floor_may.f k a0 a1 a2 a3 l4).bind fun t102 => (if t102 = true then (if 0 ≤ a1 then (if (a1 : Int).toNat ≤ 35184372088832 then ((some (List.replicate (a1 : Int).toNat 0 : List Int)).bind fun y103 => (floor_Homes.l0 k a0 a1 a2 a3 l4 y103 (y103.length : Int) 0)) else (none)) else (none)) else (some (([] : List Int), 2)))
set_option maxHeartbeats 8000000 in
set_option maxRecDepth 100000 in
theorem floor_Homes.calls (k : Nat) (a0 : Int) (a1 : Int) (a2 : Int) (a3 : Int) (A4 : Option Addr) (c4 : Nat) (l4 : List Int) (r1 : List Int) (r2 : Int) (w : World) (hr4 : Kd.C (Kd.int .i64) w A4 l4.length l4) (hc4 : l4.length ≤ c4) (h : floor_Homes.f k a0 a1 a2 a3 l4 = some (r1, r2)) :
  Calls Try.prog 13 #[.int .u8 a0, .int .i64 a1, .int .i64 a2, .int .i64 a3, .slice A4 l4.length c4] w fun e w' => ∃ v0_ : Value, e = .returned (.tuple #[v0_, .int .i64 r2]) ∧ Kd.R (Kd.int .i64) 3 w' w.heap.size (fun _ => True) v0_ r1 ∧ Below w.heap.size w w' := by
 have HR4 := Aside0.mk hr4
 have HC4 := Aside0.mk hc4
 clear hr4 hc4
 have HB := Aside0.mk (Below.refl w.heap.size w)
 have H : ((floor_may.f k a0 a1 a2 a3 l4).bind fun t102 => (if t102 = true then (if 0 ≤ a1 then (if (a1 : Int).toNat ≤ 35184372088832 then ((some (List.replicate (a1 : Int).toNat 0 : List Int)).bind fun y103 => (floor_Homes.l0 k a0 a1 a2 a3 l4 y103 (y103.length : Int) 0)) else (none)) else (none)) else (some (([] : List Int), 2)))) = some (r1, r2) := h
 clear h
 replace H := Option.bind_eq_some_iff.mp H
 obtain ⟨t102, A60, H⟩ := H
 replace H : (if t102 = true then (if 0 ≤ a1 then (if (a1 : Int).toNat ≤ 35184372088832 then ((some (List.replicate (a1 : Int).toNat 0 : List Int)).bind fun y103 => (floor_Homes.l0 k a0 a1 a2 a3 l4 y103 (y103.length : Int) 0)) else (none)) else (none)) else (some (([] : List Int), 2))) = some (r1, r2) := H
 have A6 := Aside0.mk A60
 clear A60
 by_cases c7 : t102 = true
 ·subst c7
  have H1 : (if 0 ≤ a1 then (if (a1 : Int).toNat ≤ 35184372088832 then ((some (List.replicate (a1 : Int).toNat 0 : List Int)).bind fun y103 => (floor_Homes.l0 k a0 a1 a2 a3 l4 y103 (y103.length : Int) 0)) else (none)) else (none)) = some (r1, r2) := by rw [if_pos rfl] at H; exact H
  clear H
  have H := H1
  clear H1
  by_cases c8 : 0 ≤ a1
  ·rw [if_pos c8] at H
   have c8b0 := eq_true c8
   have c8b1 : decide (0 ≤ a1) = true := decide_eq_true c8
   clear c8
   by_cases c9 : (a1 : Int).toNat ≤ 35184372088832
   ·rw [if_pos c9] at H
    have c9b0 := eq_true c9
    have c9b1 : decide ((a1 : Int).toNat ≤ 35184372088832) = true := decide_eq_true c9
    clear c9
    obtain ⟨y103, hy103⟩ : ∃ y_ : List Int, y_ = (List.replicate (a1 : Int).toNat 0) := ⟨_, rfl⟩
    replace H : (floor_Homes.l0 k a0 a1 a2 a3 l4 y103 (y103.length : Int) 0) = some (r1, r2) := by first | (rw [hy103]; with_reducible exact H) | (have H2_ := (Option.bind_some _ _).symm.trans H; rw [hy103]; with_reducible exact H2_) | (have H2_ := (Option.bind_some _ _).symm.trans H; with_reducible exact H2_) | with_reducible exact H | (rw [hy103]; exact H) | exact H
    have Ny103 := Aside0.mk hy103
    clear hy103
    have H' := Aside0.mk H
    clear H
    go_enter Try.func13, Try.ntmps13
    go_wp2_with (first | ((with_reducible refine gate_callee (f := 33) rfl ?_); refine goesL_ (some 19) rfl rfl Try.func33 (by kernel_rfl) rfl #[.int .u8 a0, .int .i64 a1, .int .i64 a2, .int .i64 a3, .slice A4 l4.length c4] rfl (by (try simp only [List.map_toArray, List.map_cons, List.map_nil]); first | done | rfl | (simp only [List.length_drop, List.length_take]; rfl)) ?_; (with_reducible refine (floor_may.calls k a0 a1 a2 a3 _ _ l4 true _ ?side1 ?side2 A6.out).mono ?_); (case side1 => repeat (first | exact HR4.out | (with_reducible refine Kd.C_alloc ?_ _) | (with_reducible refine Kd.C_drewN ?_ _) | (with_reducible refine Kd.C_drew ?_))); (case side2 => exact HC4.out); rintro e w' ⟨rfl, ⟨nd, rfl⟩⟩; refine ⟨_, rfl, ?_⟩) | ((with_reducible refine gate_dst (N := 22) rfl ?_); refine Kd.R_make (Kd.int .i64) _ 3 rfl (N := 22) rfl 32 _ _ rfl a1 rfl rfl Try.underlying32 (.int .i64 0) 8 info3 rfl (by decide) (by omega) 0 (ok := fun _ => True) (okp := fun _ => True) rfl (fun _ hk => hk) trivial (of_decide_eq_true (by first | (with_reducible assumption) | assumption)) (Nat.le_trans (Nat.mul_le_mul_right _ (of_decide_eq_true (by first | (with_reducible assumption) | assumption) : a1.toNat ≤ 35184372088832)) (by omega)) (Below.refl _ _) (Nat.le_refl _) ?_; intro v104 w10 ho11 hb hg_ hnew_; clear hg_ hnew_; (first | rw [← Ny103.out] at ho11 | (simp only [Int.reduceToNat] at ho11; rw [← Ny103.out] at ho11)); have n0_ := Aside0.mk (Kd.R_lower ho11 (below_size (by repeat (first | (with_reducible first | exact HB.out | apply below_alloc | apply pw_below_drewN | apply below_drew1) | exact HB.out)))); have n1_ := Aside0.mk (below_step (by repeat (first | (with_reducible first | exact HB.out | apply below_alloc | apply pw_below_drewN | apply below_drew1) | exact HB.out)) hb); clear HB; have HO105 := n0_; have HB := n1_; clear n0_ n1_; clear hb ho11; obtain ⟨Ao12, co12, eo12⟩ := Kd.R_slice HO105.out; subst eo12))
    go_loopg [25] k (fun kq v25 w' => ∃ (x12_1 : List Int) (x25_1 : Int), v25 = .int .i64 x25_1 ∧ Aside0 (floor_Homes.l0 kq a0 a1 a2 a3 l4 x12_1 (y103.length : Int) x25_1 = some (r1, r2)) ∧ Aside0 (kq ≤ k) ∧ Aside0 (Kd.R (Kd.int .i64) 3 w' w.heap.size (fun _ => True) (.slice Ao12 y103.length co12) x12_1) ∧ Aside0 (Below w.heap.size w w'))
    case atStart => exact ⟨(y103), (0), (by first | rfl | (simp; done) | (simp [*]; done)), H', ⟨Nat.le_refl _⟩, ⟨by (with_reducible repeat (first | apply Kd.R_alloc | apply Kd.R_drewN | apply Kd.R_drew)); exact HO105.out⟩, ⟨by repeat (first | (with_reducible first | exact HB.out | apply below_alloc | apply pw_below_drewN | apply below_drew1) | exact HB.out)⟩⟩
    case round =>
     clear H'
     try clear c1
     try clear p2
     try clear c3
     try clear c4
     try clear c7
     try clear c8
     try clear c8b0
     try clear c8b1
     try clear c9
     try clear c9b0
     try clear c9b1
     obtain ⟨x12_1, x25_1, rfl, HA, HK1, HO_12, HB⟩ := hrel
     have hl12_1 := (Kd.R_reads' HO_12.out).1
     rw [hl12_1] at HO_12
     (try simp only [hl12_1])
     cases gk with
     | zero => exact absurd HA.out (by simp [floor_Homes.l0])
     | succ k1 =>
      have H := HA.out
      clear HA
      simp only [floor_Homes.l0] at H
      by_cases c13 : x25_1 < (y103.length : Int)
      ·rw [if_pos c13] at H
       have c13b0 : decide (x25_1 < (y103.length : Int)) = true := decide_eq_true c13
       have c13b9 : decide (x25_1 < (x12_1.length : Int)) = true := by rw [← hl12_1]; exact c13b0
       clear c13
       by_cases c14 : a0 = 1
       ·rw [if_pos c14] at H
        have c14b0 : (a0 == 1) = true := beq_iff_eq.mpr c14
        have c14b1 : (a0 != 1) = false := bne_eq_false_iff_eq.mpr c14
        clear c14
        by_cases c15 : a2 = 0
        ·rw [if_pos c15] at H
         exact absurd H (by simp)
        ·rw [if_neg c15] at H
         have c15b0 : (a2 == 0) = false := beq_eq_false_iff_ne.mpr c15
         have c15b1 : (a2 != 0) = true := bne_iff_ne.mpr c15
         by_cases c16 : 0 ≤ x25_1
         ·rw [if_pos c16] at H
          have c16b0 : decide (0 ≤ x25_1) = true := decide_eq_true c16
          clear c16
          by_cases c17 : x25_1 < (x12_1.length : Int)
          ·rw [if_pos c17] at H
           have c17b0 : decide (x25_1 < (x12_1.length : Int)) = true := decide_eq_true c17
           clear c17
           obtain ⟨y106, hy106⟩ : ∃ y_ : List Int, y_ = (x12_1.set (x25_1 : Int).toNat (Int.tmod x25_1 a2)) := ⟨_, rfl⟩
           replace H : (floor_Homes.l0 k1 a0 a1 a2 a3 l4 y106 (y103.length : Int) (wrap64 (x25_1 + 1))) = some (r1, r2) := by first | (rw [hy106]; with_reducible exact H) | (have H2_ := (Option.bind_some _ _).symm.trans H; rw [hy106]; with_reducible exact H2_) | (have H2_ := (Option.bind_some _ _).symm.trans H; with_reducible exact H2_) | with_reducible exact H | (rw [hy106]; exact H) | exact H
           have Ny106 := Aside0.mk hy106
           clear hy106
           have H' := Aside0.mk H
           clear H
           have p18 : 0 ≤ (x25_1 : Int) := of_decide_eq_true (by first | (with_reducible assumption) | assumption)
           have q18 : (x25_1 : Int) < ((x12_1.length : Int) : Int) := of_decide_eq_true (by first | (with_reducible assumption) | assumption)
           obtain ⟨go18, co18, eo18, gb18, gl18, cl18, HG18⟩ := Kd.R_form HO_12.out (by omega)
           (first | cases eo18 | (injection eo18 with ea_ en_ ec_; (first | subst ea_ | (injection ea_ with ea_; subst ea_)); subst ec_; clear en_))
           have GB18 := Aside0.mk gb18
           have GG18 := Aside0.mk HG18
           clear gb18 gl18 HG18
           obtain ⟨hx18_0, hf18_0⟩ := Kd.R_celln 0 HO_12.out (x25_1 : Int) p18 q18
           replace p18 := eq_true p18
           replace q18 := eq_true q18
           have HP19 := Kd.R_putg HO_12.out (x25_1 : Int) (Int.tmod x25_1 a2)
           go_wp2_with (first | ((with_reducible refine gate_store (t := 3) (p := 36) rfl ?_); refine store_event (t := 3) (p := 36) (v := ?vo_w20) (w1 := (wr.setCell ⟨go18, (x25_1 : Int).toNat, none⟩ (.int .i64 (Int.tmod x25_1 a2)))) ?hg ?ho ?hn ?hr ?_; (case ho => rfl); (case hg => rfl); (case hn => rfl); (case hr => first | (go_simp; done) | (go_simp; rfl)); intro w20 hw; have hg : wr.grownBy w20 (some go18) := (by rw [hw]; exact HP19.2); have hp_ : Kd.R (Kd.int .i64) 3 w20 w.heap.size (fun _ => True) (.slice (some ⟨go18, 0, none⟩) x12_1.length co12) y106 := (by rw [hw, Ny106.out]; exact HP19.1); clear HP19; have n0_ := Aside0.mk (hp_); have n1_ := Aside0.mk ((by rw [hw]; exact below_set (HB.out) GB18.out : Below w.heap.size w w20)); clear HO_12; clear HB; have HO_12 := n0_; have HB := n1_; clear n0_ n1_; clear hg hw hp_))
           (try simp only [← hl12_1])
           go_roundg k1
           case measure => have := HK1.out; omega
           case rel => exact ⟨(y106), (wrap64 (x25_1 + 1)), (by first | rfl | (simp; done) | (simp [*]; done)), H', ⟨by have := HK1.out; omega⟩, ⟨by (try simp only [hl12_1]); (with_reducible repeat (first | apply Kd.R_alloc | apply Kd.R_drewN | apply Kd.R_drew)); exact HO_12.out⟩, ⟨by repeat (first | (with_reducible first | exact HB.out | apply below_alloc | apply pw_below_drewN | apply below_drew1) | exact HB.out)⟩⟩
          ·rw [if_neg c17] at H
           exact absurd H (by simp)
         ·rw [if_neg c16] at H
          exact absurd H (by simp)
       ·rw [if_neg c14] at H
        have c14b0 : (a0 == 1) = false := beq_eq_false_iff_ne.mpr c14
        have c14b1 : (a0 != 1) = true := bne_iff_ne.mpr c14
        by_cases c21 : a0 = 2
        ·rw [if_pos c21] at H
         have c21b0 : (a0 == 2) = true := beq_iff_eq.mpr c21
         have c21b1 : (a0 != 2) = false := bne_eq_false_iff_eq.mpr c21
         clear c21
         by_cases c22 : a1 = 0
         ·rw [if_pos c22] at H
          exact absurd H (by simp)
         ·rw [if_neg c22] at H
          have c22b0 : (a1 == 0) = false := beq_eq_false_iff_ne.mpr c22
          have c22b1 : (a1 != 0) = true := bne_iff_ne.mpr c22
          by_cases c23 : 0 ≤ x25_1
          ·rw [if_pos c23] at H
           have c23b0 : decide (0 ≤ x25_1) = true := decide_eq_true c23
           clear c23
           by_cases c24 : x25_1 < (x12_1.length : Int)
           ·rw [if_pos c24] at H
            have c24b0 : decide (x25_1 < (x12_1.length : Int)) = true := decide_eq_true c24
            clear c24
            obtain ⟨y107, hy107⟩ : ∃ y_ : List Int, y_ = (x12_1.set (x25_1 : Int).toNat (wrap64 (Int.tdiv (wrap64 (x25_1 * a2)) a1))) := ⟨_, rfl⟩
            replace H : (floor_Homes.l0 k1 a0 a1 a2 a3 l4 y107 (y103.length : Int) (wrap64 (x25_1 + 1))) = some (r1, r2) := by first | (rw [hy107]; with_reducible exact H) | (have H2_ := (Option.bind_some _ _).symm.trans H; rw [hy107]; with_reducible exact H2_) | (have H2_ := (Option.bind_some _ _).symm.trans H; with_reducible exact H2_) | with_reducible exact H | (rw [hy107]; exact H) | exact H
            have Ny107 := Aside0.mk hy107
            clear hy107
            have H' := Aside0.mk H
            clear H
            have p25 : 0 ≤ (x25_1 : Int) := of_decide_eq_true (by first | (with_reducible assumption) | assumption)
            have q25 : (x25_1 : Int) < ((x12_1.length : Int) : Int) := of_decide_eq_true (by first | (with_reducible assumption) | assumption)
            obtain ⟨go25, co25, eo25, gb25, gl25, cl25, HG25⟩ := Kd.R_form HO_12.out (by omega)
            (first | cases eo25 | (injection eo25 with ea_ en_ ec_; (first | subst ea_ | (injection ea_ with ea_; subst ea_)); subst ec_; clear en_))
            have GB25 := Aside0.mk gb25
            have GG25 := Aside0.mk HG25
            clear gb25 gl25 HG25
            obtain ⟨hx25_0, hf25_0⟩ := Kd.R_celln 0 HO_12.out (x25_1 : Int) p25 q25
            replace p25 := eq_true p25
            replace q25 := eq_true q25
            have HP26 := Kd.R_putg HO_12.out (x25_1 : Int) (wrap64 (Int.tdiv (wrap64 (x25_1 * a2)) a1))
            go_wp2_with (first | ((with_reducible refine gate_store (t := 3) (p := 46) rfl ?_); refine store_event (t := 3) (p := 46) (v := ?vo_w27) (w1 := (wr.setCell ⟨go25, (x25_1 : Int).toNat, none⟩ (.int .i64 (wrap64 (Int.tdiv (wrap64 (x25_1 * a2)) a1))))) ?hg ?ho ?hn ?hr ?_; (case ho => rfl); (case hg => rfl); (case hn => rfl); (case hr => first | (go_simp; done) | (go_simp; rfl)); intro w27 hw; have hg : wr.grownBy w27 (some go25) := (by rw [hw]; exact HP26.2); have hp_ : Kd.R (Kd.int .i64) 3 w27 w.heap.size (fun _ => True) (.slice (some ⟨go25, 0, none⟩) x12_1.length co12) y107 := (by rw [hw, Ny107.out]; exact HP26.1); clear HP26; have n0_ := Aside0.mk (hp_); have n1_ := Aside0.mk ((by rw [hw]; exact below_set (HB.out) GB25.out : Below w.heap.size w w27)); clear HO_12; clear HB; have HO_12 := n0_; have HB := n1_; clear n0_ n1_; clear hg hw hp_))
            (try simp only [← hl12_1])
            go_roundg k1
            case measure => have := HK1.out; omega
            case rel => exact ⟨(y107), (wrap64 (x25_1 + 1)), (by first | rfl | (simp; done) | (simp [*]; done)), H', ⟨by have := HK1.out; omega⟩, ⟨by (try simp only [hl12_1]); (with_reducible repeat (first | apply Kd.R_alloc | apply Kd.R_drewN | apply Kd.R_drew)); exact HO_12.out⟩, ⟨by repeat (first | (with_reducible first | exact HB.out | apply below_alloc | apply pw_below_drewN | apply below_drew1) | exact HB.out)⟩⟩
           ·rw [if_neg c24] at H
            exact absurd H (by simp)
          ·rw [if_neg c23] at H
           exact absurd H (by simp)
        ·rw [if_neg c21] at H
         have c21b0 : (a0 == 2) = false := beq_eq_false_iff_ne.mpr c21
         have c21b1 : (a0 != 2) = true := bne_iff_ne.mpr c21
         by_cases c28 : a0 = 3
         ·rw [if_pos c28] at H
          have c28b0 : (a0 == 3) = true := beq_iff_eq.mpr c28
          have c28b1 : (a0 != 3) = false := bne_eq_false_iff_eq.mpr c28
          clear c28
          by_cases c29 : a2 = 0
          ·rw [if_pos c29] at H
           exact absurd H (by simp)
          ·rw [if_neg c29] at H
           have c29b0 : (a2 == 0) = false := beq_eq_false_iff_ne.mpr c29
           have c29b1 : (a2 != 0) = true := bne_iff_ne.mpr c29
           by_cases c30 : 0 ≤ x25_1
           ·rw [if_pos c30] at H
            have c30b0 : decide (0 ≤ x25_1) = true := decide_eq_true c30
            clear c30
            by_cases c31 : x25_1 < (x12_1.length : Int)
            ·rw [if_pos c31] at H
             have c31b0 : decide (x25_1 < (x12_1.length : Int)) = true := decide_eq_true c31
             clear c31
             obtain ⟨y108, hy108⟩ : ∃ y_ : List Int, y_ = (x12_1.set (x25_1 : Int).toNat (Int.tmod (wrap64 (x25_1 * a3)) a2)) := ⟨_, rfl⟩
             replace H : (floor_Homes.l0 k1 a0 a1 a2 a3 l4 y108 (y103.length : Int) (wrap64 (x25_1 + 1))) = some (r1, r2) := by first | (rw [hy108]; with_reducible exact H) | (have H2_ := (Option.bind_some _ _).symm.trans H; rw [hy108]; with_reducible exact H2_) | (have H2_ := (Option.bind_some _ _).symm.trans H; with_reducible exact H2_) | with_reducible exact H | (rw [hy108]; exact H) | exact H
             have Ny108 := Aside0.mk hy108
             clear hy108
             have H' := Aside0.mk H
             clear H
             have p32 : 0 ≤ (x25_1 : Int) := of_decide_eq_true (by first | (with_reducible assumption) | assumption)
             have q32 : (x25_1 : Int) < ((x12_1.length : Int) : Int) := of_decide_eq_true (by first | (with_reducible assumption) | assumption)
             obtain ⟨go32, co32, eo32, gb32, gl32, cl32, HG32⟩ := Kd.R_form HO_12.out (by omega)
             (first | cases eo32 | (injection eo32 with ea_ en_ ec_; (first | subst ea_ | (injection ea_ with ea_; subst ea_)); subst ec_; clear en_))
             have GB32 := Aside0.mk gb32
             have GG32 := Aside0.mk HG32
             clear gb32 gl32 HG32
             obtain ⟨hx32_0, hf32_0⟩ := Kd.R_celln 0 HO_12.out (x25_1 : Int) p32 q32
             replace p32 := eq_true p32
             replace q32 := eq_true q32
             have HP33 := Kd.R_putg HO_12.out (x25_1 : Int) (Int.tmod (wrap64 (x25_1 * a3)) a2)
             go_wp2_with (first | ((with_reducible refine gate_store (t := 3) (p := 56) rfl ?_); refine store_event (t := 3) (p := 56) (v := ?vo_w34) (w1 := (wr.setCell ⟨go32, (x25_1 : Int).toNat, none⟩ (.int .i64 (Int.tmod (wrap64 (x25_1 * a3)) a2)))) ?hg ?ho ?hn ?hr ?_; (case ho => rfl); (case hg => rfl); (case hn => rfl); (case hr => first | (go_simp; done) | (go_simp; rfl)); intro w34 hw; have hg : wr.grownBy w34 (some go32) := (by rw [hw]; exact HP33.2); have hp_ : Kd.R (Kd.int .i64) 3 w34 w.heap.size (fun _ => True) (.slice (some ⟨go32, 0, none⟩) x12_1.length co12) y108 := (by rw [hw, Ny108.out]; exact HP33.1); clear HP33; have n0_ := Aside0.mk (hp_); have n1_ := Aside0.mk ((by rw [hw]; exact below_set (HB.out) GB32.out : Below w.heap.size w w34)); clear HO_12; clear HB; have HO_12 := n0_; have HB := n1_; clear n0_ n1_; clear hg hw hp_))
             (try simp only [← hl12_1])
             go_roundg k1
             case measure => have := HK1.out; omega
             case rel => exact ⟨(y108), (wrap64 (x25_1 + 1)), (by first | rfl | (simp; done) | (simp [*]; done)), H', ⟨by have := HK1.out; omega⟩, ⟨by (try simp only [hl12_1]); (with_reducible repeat (first | apply Kd.R_alloc | apply Kd.R_drewN | apply Kd.R_drew)); exact HO_12.out⟩, ⟨by repeat (first | (with_reducible first | exact HB.out | apply below_alloc | apply pw_below_drewN | apply below_drew1) | exact HB.out)⟩⟩
            ·rw [if_neg c31] at H
             exact absurd H (by simp)
           ·rw [if_neg c30] at H
            exact absurd H (by simp)
         ·rw [if_neg c28] at H
          have c28b0 : (a0 == 3) = false := beq_eq_false_iff_ne.mpr c28
          have c28b1 : (a0 != 3) = true := bne_iff_ne.mpr c28
          by_cases c35 : a0 = 4
          ·rw [if_pos c35] at H
           have c35b0 : (a0 == 4) = true := beq_iff_eq.mpr c35
           have c35b1 : (a0 != 4) = false := bne_eq_false_iff_eq.mpr c35
           clear c35
           by_cases c36 : 0 ≤ x25_1
           ·rw [if_pos c36] at H
            have c36b0 : decide (0 ≤ x25_1) = true := decide_eq_true c36
            clear c36
            by_cases c37 : x25_1 < (l4.length : Int)
            ·rw [if_pos c37] at H
             have c37b0 : decide (x25_1 < (l4.length : Int)) = true := decide_eq_true c37
             clear c37
             by_cases c38 : x25_1 < (x12_1.length : Int)
             ·rw [if_pos c38] at H
              have c38b0 : decide (x25_1 < (x12_1.length : Int)) = true := decide_eq_true c38
              clear c38
              obtain ⟨y110, hy110⟩ : ∃ y_ : List Int, y_ = (x12_1.set (x25_1 : Int).toNat (rd l4 x25_1)) := ⟨_, rfl⟩
              replace H : (floor_Homes.l0 k1 a0 a1 a2 a3 l4 y110 (y103.length : Int) (wrap64 (x25_1 + 1))) = some (r1, r2) := by first | (rw [hy110]; with_reducible exact H) | (have H2_ := (Option.bind_some _ _).symm.trans H; rw [hy110]; with_reducible exact H2_) | (have H2_ := (Option.bind_some _ _).symm.trans H; with_reducible exact H2_) | with_reducible exact H | (rw [hy110]; exact H) | exact H
              have Ny110 := Aside0.mk hy110
              clear hy110
              have H' := Aside0.mk H
              clear H
              have p109 : 0 ≤ (x25_1 : Int) := of_decide_eq_true (by first | (with_reducible assumption) | assumption)
              have q109 : x25_1 < (l4.length : Int) := of_decide_eq_true (by first | (with_reducible assumption) | assumption)
              obtain ⟨ad109, e109, hx109_0⟩ := Kd.at_int HR4.out x25_1 p109 q109
              cases e109
              replace hx109_0 := (HB.out.cell (World.block_lt_of_cell? w _ hx109_0)).trans hx109_0
              replace p109 := eq_true p109
              replace q109 := eq_true q109
              have p39 : 0 ≤ (x25_1 : Int) := of_decide_eq_true (by first | (with_reducible assumption) | assumption)
              have q39 : (x25_1 : Int) < ((x12_1.length : Int) : Int) := of_decide_eq_true (by first | (with_reducible assumption) | assumption)
              obtain ⟨go39, co39, eo39, gb39, gl39, cl39, HG39⟩ := Kd.R_form HO_12.out (by omega)
              (first | cases eo39 | (injection eo39 with ea_ en_ ec_; (first | subst ea_ | (injection ea_ with ea_; subst ea_)); subst ec_; clear en_))
              have GB39 := Aside0.mk gb39
              have GG39 := Aside0.mk HG39
              clear gb39 gl39 HG39
              obtain ⟨hx39_0, hf39_0⟩ := Kd.R_celln 0 HO_12.out (x25_1 : Int) p39 q39
              replace p39 := eq_true p39
              replace q39 := eq_true q39
              have HP40 := Kd.R_putg HO_12.out (x25_1 : Int) (rd l4 x25_1)
              go_wp2_with (first | ((with_reducible refine gate_store (t := 3) (p := 65) rfl ?_); refine store_event (t := 3) (p := 65) (v := ?vo_w41) (w1 := (wr.setCell ⟨go39, (x25_1 : Int).toNat, none⟩ (.int .i64 (rd l4 x25_1)))) ?hg ?ho ?hn ?hr ?_; (case ho => rfl); (case hg => rfl); (case hn => rfl); (case hr => first | (go_simp; done) | (go_simp; rfl)); intro w41 hw; have hg : wr.grownBy w41 (some go39) := (by rw [hw]; exact HP40.2); have hp_ : Kd.R (Kd.int .i64) 3 w41 w.heap.size (fun _ => True) (.slice (some ⟨go39, 0, none⟩) x12_1.length co12) y110 := (by rw [hw, Ny110.out]; exact HP40.1); clear HP40; have n0_ := Aside0.mk (hp_); have n1_ := Aside0.mk ((by rw [hw]; exact below_set (HB.out) GB39.out : Below w.heap.size w w41)); clear HO_12; clear HB; have HO_12 := n0_; have HB := n1_; clear n0_ n1_; clear hg hw hp_))
              (try simp only [← hl12_1])
              go_roundg k1
              case measure => have := HK1.out; omega
              case rel => exact ⟨(y110), (wrap64 (x25_1 + 1)), (by first | rfl | (simp; done) | (simp [*]; done)), H', ⟨by have := HK1.out; omega⟩, ⟨by (try simp only [hl12_1]); (with_reducible repeat (first | apply Kd.R_alloc | apply Kd.R_drewN | apply Kd.R_drew)); exact HO_12.out⟩, ⟨by repeat (first | (with_reducible first | exact HB.out | apply below_alloc | apply pw_below_drewN | apply below_drew1) | exact HB.out)⟩⟩
             ·rw [if_neg c38] at H
              exact absurd H (by simp)
            ·rw [if_neg c37] at H
             exact absurd H (by simp)
           ·rw [if_neg c36] at H
            exact absurd H (by simp)
          ·rw [if_neg c35] at H
           have c35b0 : (a0 == 4) = false := beq_eq_false_iff_ne.mpr c35
           have c35b1 : (a0 != 4) = true := bne_iff_ne.mpr c35
           have H' := Aside0.mk H
           clear H
           go_wp2
           (try simp only [← hl12_1])
           go_roundg k1
           case measure => have := HK1.out; omega
           case rel => exact ⟨(x12_1), (wrap64 (x25_1 + 1)), (by first | rfl | (simp; done) | (simp [*]; done)), H', ⟨by have := HK1.out; omega⟩, ⟨by (try simp only [hl12_1]); (with_reducible repeat (first | apply Kd.R_alloc | apply Kd.R_drewN | apply Kd.R_drew)); exact HO_12.out⟩, ⟨by repeat (first | (with_reducible first | exact HB.out | apply below_alloc | apply pw_below_drewN | apply below_drew1) | exact HB.out)⟩⟩
      ·rw [if_neg c13] at H
       have c13b0 : decide (x25_1 < (y103.length : Int)) = false := decide_eq_false c13
       have c13b9 : decide (x25_1 < (x12_1.length : Int)) = false := by rw [← hl12_1]; exact c13b0
       clear c13
       simp only [Option.some.injEq, Prod.mk.injEq] at H
       obtain ⟨rfl, rfl⟩ := H
       go_wp2
       go_ret2
       exact ⟨_, by first | rfl | (simp [errW_none, errW_some] <;> rfl) | (simp [*, errW_none, errW_some] <;> rfl), by (with_reducible repeat (first | apply Kd.R_alloc | apply Kd.R_drewN | apply Kd.R_drew)); exact HO_12.out, by repeat (first | (with_reducible first | exact HB.out | apply below_alloc | apply pw_below_drewN | apply below_drew1) | exact HB.out)⟩
   ·rw [if_neg c9] at H
    exact absurd H (by simp)
  ·rw [if_neg c8] at H
   exact absurd H (by simp)
 ·replace c7 := Bool.eq_false_iff.mpr c7
  subst c7
  have H1 : (some (([] : List Int), 2)) = some (r1, r2) := by rw [if_neg (show ¬ (false = true) by decide)] at H; exact H
  clear H
  have H := H1
  clear H1
  simp only [Option.some.injEq, Prod.mk.injEq] at H
  obtain ⟨rfl, rfl⟩ := H
  go_enter Try.func13, Try.ntmps13
  go_wp2_with (first | ((with_reducible refine gate_callee (f := 33) rfl ?_); refine goesL_ (some 19) rfl rfl Try.func33 (by kernel_rfl) rfl #[.int .u8 a0, .int .i64 a1, .int .i64 a2, .int .i64 a3, .slice A4 l4.length c4] rfl (by (try simp only [List.map_toArray, List.map_cons, List.map_nil]); first | done | rfl | (simp only [List.length_drop, List.length_take]; rfl)) ?_; (with_reducible refine (floor_may.calls k a0 a1 a2 a3 _ _ l4 false _ ?side1 ?side2 A6.out).mono ?_); (case side1 => repeat (first | exact HR4.out | (with_reducible refine Kd.C_alloc ?_ _) | (with_reducible refine Kd.C_drewN ?_ _) | (with_reducible refine Kd.C_drew ?_))); (case side2 => exact HC4.out); rintro e w' ⟨rfl, ⟨nd, rfl⟩⟩; refine ⟨_, rfl, ?_⟩))
  go_ret2
  exact ⟨_, by first | rfl | (simp [errW_none, errW_some] <;> rfl) | (simp [*, errW_none, errW_some] <;> rfl), by first | exact Kd.R_nil _ _ _ _ _ | exact Kd.N_nil _ _ _ _ _ | exact Kd.V_nil _ _ _ _ _ | exact Kd.Q_nil _ _ _ _ _ | exact Kd.S_nil _ _ _ _ _, by repeat (first | (with_reducible first | exact HB.out | apply below_alloc | apply pw_below_drewN | apply below_drew1) | exact HB.out)⟩

end Go.Proofs.Ytnioplhdhaomoaa.PA
