/- The law FloorRound walked: for any two cells of 16 bits and any quarters it answers true. -/
import Derived.Test.YtnioplhdhaomoaaPAx0
import Derived.Test.YtnioplhdhaomoaaPAx3
import Derived.Test.YtnioplhdhaomoaaPAx5
import Derived.Test.YtnioplhdhaomoaaWhole
namespace Go.Proofs.Ytnioplhdhaomoaa.PA
open Go.RowKit Go.Proofs.YtnioplhdhaomoaaW.PrintWords Go.Proofs.YtnioplhdhaomoaaW.PrintLast Go.Proofs.YtnioplhdhaomoaaW.PrintMore Go.Proofs.Ytnioplhdhaomoaa.Whole
set_option linter.unusedVariables false
set_option linter.unusedSimpArgs false
attribute [local go_sem] run_store_cx
theorem run43w (a : Nat) (m : Int) (h : Wh a m) (w : World) : (callFunc 43 #[.float .f64 a]).run Try.prog w = .ok (.value (.float .f64 (FloatKind.f64.encode ((FloatKind.f64.decode a).integral .zero)))) w := by
  have e : Extern.MathFloor.toIntegral "math.archTrunc" .zero #[.float .f64 a] = (match FloatKind.f64.decode a with
    | .nan s t => if FloatKind.f64.format.quiet t = t then pure (.float .f64 a) else do
      let kept ← choose (.extern "math.Floor,Ceil,Trunc,RoundToEven.signallingNaN kept" 2)
      pure (.float .f64 (if kept == 1 then a else FloatKind.f64.encode (.nan s (FloatKind.f64.format.quiet t))))
    | d => pure (.float .f64 (FloatKind.f64.encode (d.integral .zero)))) := rfl
  rw [run_callFunc_extern (e := Extern.MathFloor.toIntegral "math.archTrunc" .zero) Try.func43 (by kernel_rfl) (by kernel_rfl) (by kernel_rfl) (by kernel_rfl), e]
  obtain ⟨s, k, hd, _⟩ := h.1
  rw [hd]; rfl
set_option maxHeartbeats 400000 in
theorem Trunc_w (a : Nat) (m : Int) (h : Wh a m) (hm : m.natAbs ≤ 262144) (w : World) : Calls Try.prog 39 #[.float .f64 a] w fun e w' => (∃ t, e = .returned (.float .f64 t) ∧ Wh t m) ∧ w' = w := by
  have h43 := run43w a m h
  have hW := Aside0.mk (h.integral (by omega) .zero)
  clear h
  generalize FloatKind.f64.encode ((FloatKind.f64.decode a).integral .zero) = t at h43 hW
  go_enter Try.func39, Try.ntmps39
  go_wp2
  go_ret
  exact ⟨⟨t, rfl, hW.out⟩, rfl⟩
theorem big20 : Wh 4697254411347427328 1048576 := by
  have := Wh.ofInt 1048576 (by decide)
  rwa [show floatOfInt .f64 1048576 = 4697254411347427328 by decide] at this
set_option maxHeartbeats 400000 in
theorem cell1_w (a : Nat) (m : Int) (h : Wh a m) (hm : m.natAbs ≤ 262144) (w : World) : Calls Try.prog 38 #[.float .f64 a] w fun e w' => e = .returned (.bool true) ∧ w' = w := by
  have HT := Aside0.mk (fun W => Trunc_w a m h hm W)
  have HW := Aside0.mk h
  have hc2 : (FloatKind.f64.format.order (absF a) 4697254411347427328 == some .lt) = true := by
    have h2 : FloatKind.f64.format.order (absF a) 4697254411347427328 = some (compare (m.natAbs : Int) 1048576) := (h.abs).order big20
    rw [h2, Int.compare_eq_lt.2 (by omega)]; rfl
  clear h
  go_enter Try.func38, Try.ntmps38
  go_wp2_with (first | (go_at_call 39; refine (HT.out _).mono ?_; rintro e w' ⟨⟨t, rfl, ht⟩, rfl⟩; have hc1 : (FloatKind.f64.format.order a t == some .eq) = true := (by have h2 := HW.out.order ht; rw [h2, Int.compare_eq_eq.2 rfl]; rfl); clear ht) | (go_at_call 36; refine (abs_calls _ _).mono ?_; rintro e w' ⟨rfl, rfl⟩))
  go_ret
  exact ⟨by simp, rfl⟩
set_option maxHeartbeats 400000 in
theorem cell_w (a b : Nat) (m n : Int) (ha : Wh a m) (hb : Wh b n) (hm : m.natAbs ≤ 262144) (hn : n.natAbs ≤ 262144) (w : World) : Calls Try.prog 35 #[.complex .f64 a b] w fun e w' => e = .returned (.bool true) ∧ w' = w := by
  have HX := Aside0.mk (fun W => cell1_w a m ha hm W)
  have HY := Aside0.mk (fun W => cell1_w b n hb hn W)
  clear ha hb
  go_enter Try.func35, Try.ntmps35
  go_wp2_with fail
  refine (HX.out _).mono ?_
  rintro e w' ⟨rfl, rfl⟩
  go_wp2_with fail
  refine (HY.out _).mono ?_
  rintro e w' ⟨rfl, rfl⟩
  go_wp2_with fail
  go_ret
  exact ⟨by simp, rfl⟩
/-- How far apart two cells are. -/
def dist (p q : Int × Int) : Int := ((p.1 - q.1).natAbs : Int) + ((p.2 - q.2).natAbs : Int)
/-- Bits of a cell. -/
def Cw (z : Nat × Nat) (p : Int × Int) : Prop := Wh z.1 p.1 ∧ Wh z.2 p.2 ∧ p.1.natAbs ≤ 32768 ∧ p.2.natAbs ≤ 32768
theorem apart_w (y z : Nat × Nat) (p q : Int × Int) (hy : Cw y p) (hz : Cw z q) : apartF y z = some (dist p q) := by
  obtain ⟨a1, a2, a3, a4⟩ := hy
  obtain ⟨b1, b2, b3, b4⟩ := hz
  obtain ⟨r, hr, wr⟩ := a1.sub b1 (by omega)
  obtain ⟨s, hs, ws⟩ := a2.sub b2 (by omega)
  obtain ⟨t, ht, wt⟩ := wr.abs.add ws.abs (by omega)
  have hi := wt.toInt (by omega) (by omega)
  unfold apartF cSumBits
  rw [hr, hs]
  simp only [Option.bind_some]
  show (floatBits .add .f64 _ _).bind _ = _
  unfold absF
  rw [ht]
  exact hi
set_option maxHeartbeats 400000 in
theorem Apart_w (y z : Nat × Nat) (p q : Int × Int) (hy : Cw y p) (hz : Cw z q) (w : World) : Calls Try.prog 24 #[.complex .f64 y.1 y.2, .complex .f64 z.1 z.2] w fun e w' => e = .returned (.tuple #[.int .i64 (dist p q), .int .i64 0]) ∧ w' = w := by
  have H1 := Aside0.mk (fun W => cell_w y.1 y.2 p.1 p.2 hy.1 hy.2.1 (by have := hy.2.2; omega) (by have := hy.2.2; omega) W)
  have H2 := Aside0.mk (fun W => cell_w z.1 z.2 q.1 q.2 hz.1 hz.2.1 (by have := hz.2.2; omega) (by have := hz.2.2; omega) W)
  have H3 := Aside0.mk (fun W => apart_calls y z _ (apart_w y z p q hy hz) W)
  clear hy hz
  generalize dist p q = n at H3 ⊢
  obtain ⟨a, b⟩ := y
  obtain ⟨c, d⟩ := z
  dsimp only at *
  go_enter Try.func24, Try.ntmps24
  go_wp2_with fail
  refine (H1.out _).mono ?_
  rintro e w' ⟨rfl, rfl⟩
  go_wp2_with fail
  refine (H2.out _).mono ?_
  rintro e w' ⟨rfl, rfl⟩
  go_wp2_with fail
  refine (H3.out _).mono ?_
  rintro e w' ⟨rfl, rfl⟩
  go_wp2_with fail
  go_ret2
  exact ⟨rfl, rfl⟩
set_option maxHeartbeats 400000 in
theorem Made_w (m n : Int) (w : World) : Calls Try.prog 25 #[.int .i64 m, .int .i64 n] w fun e w' => e = .returned (.complex .f64 (floatOfInt .f64 m) (floatOfInt .f64 n)) ∧ w' = w := by
  go_enter Try.func25, Try.ntmps25
  go_wp2
  go_ret
  exact ⟨rfl, rfl⟩
def rot (p : Int × Int) : Int × Int := (-p.2, p.1)
def rotN : Nat → Int × Int → Int × Int
  | 0, p => p
  | k + 1, p => rot (rotN k p)
theorem Cw.rot {z : Nat × Nat} {p : Int × Int} (h : Cw z p) : Cw (Op.negFloat .f64 z.2, z.1) (rot p) := ⟨h.2.1.neg, h.1, by show (-p.2).natAbs ≤ _; rw [Int.natAbs_neg]; exact h.2.2.2, h.2.2.1⟩
theorem quarters (q : Int) (h0 : -1000 ≤ q) (h1 : q ≤ 1000) : ∃ n : Nat, n < 4 ∧ Int.tmod (Int.tmod q 4 + 4) 4 = (n : Int) ∧ (n : Int) = q % 4 ∧ -4 < Int.tmod q 4 ∧ Int.tmod q 4 < 4 := by
  have e : Int.tmod q 4 = if 0 ≤ q then q % 4 else -((-q) % 4) := by
    by_cases h : 0 ≤ q
    · rw [if_pos h, Int.tmod_eq_emod_of_nonneg h]
    · rw [if_neg h]
      obtain ⟨a, rfl⟩ : ∃ a, q = -a := ⟨-q, by omega⟩
      rw [Int.neg_tmod, Int.tmod_eq_emod_of_nonneg (by omega), Int.neg_neg]
  have hb : -4 < Int.tmod q 4 ∧ Int.tmod q 4 < 4 := by
    rw [e]; split <;> omega
  refine ⟨(q % 4).toNat, by omega, ?_, by omega, hb⟩
  rw [Int.tmod_eq_emod_of_nonneg (by omega), e]
  split <;> omega
theorem run_neg_f (x : Nat) (w : World) : (Op.unary .neg (.float .f64 x)).run Try.prog w = .ok (.float .f64 (Op.negFloat .f64 x)) w := rfl
attribute [local go_sem] run_neg_f
set_option maxHeartbeats 1000000 in
theorem Turn_w (z : Nat × Nat) (p : Int × Int) (hz : Cw z p) (q : Int) (h0 : -1000 ≤ q) (h1 : q ≤ 1000) (w : World) :
    Calls Try.prog 26 #[.complex .f64 z.1 z.2, .int .i64 q] w fun e w' => ∃ y : Nat × Nat, e = .returned (.tuple #[.complex .f64 y.1 y.2, .int .i64 0]) ∧ Cw y (rotN (q % 4).toNat p) ∧ w' = w := by
  have HC := Aside0.mk (fun W => cell_w z.1 z.2 p.1 p.2 hz.1 hz.2.1 (by have := hz.2.2; omega) (by have := hz.2.2; omega) W)
  have HZ := Aside0.mk hz
  obtain ⟨n, hn4, hn, hnq, hb0, hb1⟩ := quarters q h0 h1
  have hN := Aside0.mk (show (q % 4).toNat = n by omega)
  have hw1 : IntKind.i64.wrap (Int.tmod q 4) = Int.tmod q 4 := by rw [i64_w]; unfold wrap64; omega
  have hw2 : IntKind.i64.wrap (Int.tmod q 4 + 4) = Int.tmod q 4 + 4 := by rw [i64_w]; unfold wrap64; omega
  have hw3 : IntKind.i64.wrap (n : Int) = (n : Int) := by rw [i64_w]; unfold wrap64; omega
  clear hz hnq
  obtain ⟨a, b⟩ := z
  dsimp only at *
  go_enter Try.func26, Try.ntmps26
  go_wp2_with fail
  refine (HC.out _).mono ?_
  rintro e w' ⟨rfl, rfl⟩
  go_wp2_with fail
  go_loopg [0, 13] n (fun g v0 v13 wr => wr = w' ∧ ∃ (k : Nat) (y : Nat × Nat), k ≤ n ∧ g = n - k ∧ v13 = .int .i64 k ∧ v0 = .complex .f64 y.1 y.2 ∧ Aside0 (Cw y (rotN k p)))
  case atStart => exact ⟨rfl, 0, (a, b), Nat.zero_le _, rfl, rfl, rfl, ⟨HZ.out⟩⟩
  case round =>
    obtain ⟨rfl, k, y, hk, rfl, rfl, rfl, HY⟩ := hrel
    by_cases hlt : k < n
    · have hb : (k : Int) < (n : Int) := by omega
      go_wp2
      go_roundg (n - (k + 1))
      case measure => omega
      case rel => exact ⟨rfl, k + 1, (Op.negFloat .f64 y.2, y.1), by omega, rfl, by go_num, rfl, ⟨HY.out.rot⟩⟩
    · obtain rfl : k = n := by omega
      have hb : ¬ ((k : Int) < (k : Int)) := by omega
      go_wp2
      go_ret2
      exact ⟨y.1, y.2, rfl, by rw [hN.out]; exact HY.out, rfl⟩
theorem rotN_add (j k : Nat) (p : Int × Int) : rotN (j + k) p = rotN j (rotN k p) := by
  induction j with
  | zero => rw [Nat.zero_add]; rfl
  | succ j ih => rw [Nat.succ_add]; show rot _ = rot _; rw [ih]
theorem rot4 (p : Int × Int) : rotN 4 p = p := by
  obtain ⟨a, b⟩ := p
  simp [rotN, rot]
theorem dist_rot (p q : Int × Int) : dist (rot p) (rot q) = dist p q := by
  unfold dist rot
  dsimp only
  rw [show -p.2 - -q.2 = -(p.2 - q.2) by omega, Int.natAbs_neg]
  omega
theorem dist_rotN (k : Nat) (p q : Int × Int) : dist (rotN k p) (rotN k q) = dist p q := by
  induction k with
  | zero => rfl
  | succ k ih => show dist (rot _) (rot _) = _; rw [dist_rot, ih]
theorem dist_comm (p q : Int × Int) : dist p q = dist q p := by unfold dist; omega
theorem dist_tri (p q r : Int × Int) : dist p q ≤ dist p r + dist r q := by unfold dist; omega
theorem dist_zero (p q : Int × Int) : dist p q = 0 ↔ p.1 = q.1 ∧ p.2 = q.2 := by unfold dist; omega
theorem dist_bound {y z : Nat × Nat} {p q : Int × Int} (h : Cw y p) (g : Cw z q) : 0 ≤ dist p q ∧ dist p q ≤ 262144 := by
  obtain ⟨_, _, h1, h2⟩ := h
  obtain ⟨_, _, g1, g2⟩ := g
  unfold dist; omega
theorem cw_eq {y z : Nat × Nat} {p : Int × Int} (h : Cw y p) (g : Cw z p) : (FloatKind.f64.format.order y.1 z.1 == some .eq) = true ∧ (FloatKind.f64.format.order y.2 z.2 == some .eq) = true := by
  rw [h.1.order g.1, h.2.1.order g.2.1, Int.compare_eq_eq.2 rfl, Int.compare_eq_eq.2 rfl]
  exact ⟨rfl, rfl⟩
theorem cw_test {y z : Nat × Nat} {p q : Int × Int} (h : Cw y p) (g : Cw z q) : ((FloatKind.f64.format.order y.1 z.1 == some .eq) && (FloatKind.f64.format.order y.2 z.2 == some .eq)) = (dist p q == 0) := by
  rw [h.1.order g.1, h.2.1.order g.2.1]
  have key : ∀ a b : Int, (some (compare a b) == some Ordering.eq) = decide (a = b) := fun a b => by
    rcases Int.lt_trichotomy a b with c | c | c
    · rw [Int.compare_eq_lt.2 c, decide_eq_false (by omega)]; rfl
    · rw [Int.compare_eq_eq.2 c, decide_eq_true c]; rfl
    · rw [Int.compare_eq_gt.2 c, decide_eq_false (by omega)]; rfl
  rw [key, key]
  have hz := dist_zero p q
  by_cases c : dist p q = 0
  · rw [c, decide_eq_true (hz.1 c).1, decide_eq_true (hz.1 c).2]; rfl
  · have hc : (dist p q == 0) = false := by simpa using c
    rw [hc]
    by_cases c1 : p.1 = q.1
    · rw [decide_eq_true c1, decide_eq_false (fun c2 => c (hz.2 ⟨c1, c2⟩))]; rfl
    · rw [decide_eq_false c1]; rfl
set_option maxHeartbeats 4000000 in
theorem recouplaw15_FloorRound.calls (x0 x1 y0 y1 q : Int) (hx0 : -32768 ≤ x0 ∧ x0 ≤ 32767) (hx1 : -32768 ≤ x1 ∧ x1 ≤ 32767) (hy0 : -32768 ≤ y0 ∧ y0 ≤ 32767) (hy1 : -32768 ≤ y1 ∧ y1 ≤ 32767) (hq : -128 ≤ q ∧ q ≤ 127) (w : World) :
    Calls Try.prog 8 #[.agg #[.int .i16 x0, .int .i16 x1], .agg #[.int .i16 y0, .int .i16 y1], .int .i8 q] w fun e w' => e = .returned (.bool true) ∧ Below w.heap.size w w' := by
  have wi : ∀ v : Int, -1000000 ≤ v → v ≤ 1000000 → IntKind.i64.wrap v = v := fun v h0 h1 => by rw [i64_w]; unfold wrap64; omega
  have e1 := wi x0 (by omega) (by omega)
  have e2 := wi x1 (by omega) (by omega)
  have e3 := wi y0 (by omega) (by omega)
  have e4 := wi y1 (by omega) (by omega)
  have e5 := wi q (by omega) (by omega)
  have e6 := wi (-q) (by omega) (by omega)
  have e7 := wi (4 * q) (by omega) (by omega)
  have WI := Aside0.mk wi
  have HA := Aside0.mk (show Cw (floatOfInt .f64 x0, floatOfInt .f64 x1) (x0, x1) from ⟨Wh.ofInt _ (by omega), Wh.ofInt _ (by omega), by dsimp only; omega, by dsimp only; omega⟩)
  have HBq := Aside0.mk (show Cw (floatOfInt .f64 y0, floatOfInt .f64 y1) (y0, y1) from ⟨Wh.ofInt _ (by omega), Wh.ofInt _ (by omega), by dsimp only; omega, by dsimp only; omega⟩)
  have HQ := Aside0.mk hq
  have HB := Aside0.mk (((Below.refl w.heap.size w).alloc (Nat.le_refl _) (.cells #[Value.int .i16 x0, Value.int .i16 x1] 60)).alloc (by simp) (.cells #[Value.int .i16 y0, Value.int .i16 y1] 60))
  clear wi hx0 hx1 hy0 hy1 hq
  go_enter Try.func8, Try.ntmps8
  go_wp2_with fail
  go_quiet ((go_at_call 25; exact Calls.quiet_of_same (Made_w _ _ _)))
  go_wp2_with fail
  generalize floatOfInt .f64 x0 = a0 at HA ⊢
  generalize floatOfInt .f64 x1 = a1 at HA ⊢
  generalize floatOfInt .f64 y0 = b0 at HBq ⊢
  generalize floatOfInt .f64 y1 = b1 at HBq ⊢
  generalize (w.alloc (.cells #[Value.int .i16 x0, Value.int .i16 x1] 60)).alloc (.cells #[Value.int .i16 y0, Value.int .i16 y1] 60) = W at HB ⊢
  refine (Turn_w (a0, a1) (x0, x1) HA.out q (by have := HQ.out; omega) (by have := HQ.out; omega) _).mono ?_
  rintro e w' ⟨c, rfl, hc, rfl⟩
  have HC := Aside0.mk hc
  clear hc
  go_wp2_with fail
  refine (Turn_w (b0, b1) (y0, y1) HBq.out q (by have := HQ.out; omega) (by have := HQ.out; omega) _).mono ?_
  rintro e w' ⟨d, rfl, hd, rfl⟩
  have HD := Aside0.mk hd
  clear hd
  go_wp2_with fail
  refine (Turn_w c _ HC.out (-q) (by have := HQ.out; omega) (by have := HQ.out; omega) _).mono ?_
  rintro e w' ⟨z, rfl, hz, rfl⟩
  have HZ := Aside0.mk hz
  clear hz
  go_wp2_with fail
  refine (Turn_w (a0, a1) (x0, x1) HA.out (4 * q) (by have := HQ.out; omega) (by have := HQ.out; omega) _).mono ?_
  rintro e w' ⟨v, rfl, hv, rfl⟩
  have HV := Aside0.mk hv
  clear hv
  go_wp2_with fail
  have HZ := Aside0.mk (show Cw z (x0, x1) from by
    have h := HZ.out
    rw [← rotN_add] at h
    have hq := HQ.out
    by_cases c0 : q % 4 = 0
    · rw [show ((-q) % 4).toNat + (q % 4).toNat = 0 by omega] at h; exact h
    · rw [show ((-q) % 4).toNat + (q % 4).toNat = 4 by omega, rot4] at h; exact h)
  have HV := Aside0.mk (show Cw v (x0, x1) from by
    have h := HV.out
    rw [show ((4 * q) % 4).toNat = 0 by omega] at h; exact h)
  have a1_ := Apart_w (a0, a1) (b0, b1) _ _ HA.out HBq.out
  have a2_ := Apart_w d c _ _ HD.out HC.out
  have a3_ := Apart_w (a0, a1) c _ _ HA.out HC.out
  have a4_ := Apart_w c (b0, b1) _ _ HC.out HBq.out
  have d2_ := (dist_rotN (q % 4).toNat (y0, y1) (x0, x1)).trans (dist_comm _ _)
  have t_ := dist_tri (x0, x1) (y0, y1) (rotN (q % 4).toNat (x0, x1))
  have b1_ := dist_bound HA.out HBq.out
  have b3_ := dist_bound HA.out HC.out
  have b4_ := dist_bound HC.out HBq.out
  have hab := cw_test HA.out HBq.out
  rw [d2_] at a2_
  obtain ⟨hz1, hz2⟩ := cw_eq HZ.out HA.out
  obtain ⟨hv1, hv2⟩ := cw_eq HV.out HA.out
  generalize dist (x0, x1) (y0, y1) = M at *
  generalize dist (x0, x1) (rotN (q % 4).toNat (x0, x1)) = p at *
  generalize dist (rotN (q % 4).toNat (x0, x1)) (y0, y1) = r at *
  have hw := WI.out (p + r) (by omega) (by omega)
  have hle : decide (M ≤ p + r) = true := decide_eq_true t_
  have A1 := Aside0.mk a1_
  have A2 := Aside0.mk a2_
  have A3 := Aside0.mk a3_
  have A4 := Aside0.mk a4_
  have HAB := Aside0.mk hab
  dsimp only at hz1 hz2 hv1 hv2
  clear a1_ a2_ a3_ a4_ d2_ t_ b1_ b3_ b4_ hab
  refine (A1.out _).mono ?_
  rintro e w' ⟨rfl, rfl⟩
  go_wp2_with fail
  refine (A2.out _).mono ?_
  rintro e w' ⟨rfl, rfl⟩
  go_wp2_with fail
  refine (A3.out _).mono ?_
  rintro e w' ⟨rfl, rfl⟩
  go_wp2_with fail
  refine (A4.out _).mono ?_
  rintro e w' ⟨rfl, rfl⟩
  go_wp2_with (go_at_call 18; refine (recouplaw15_anchored.calls true _ rfl).mono ?_; rintro e w1 ⟨rfl, hb⟩; have HB2 := Aside0.mk (below_step (by repeat (first | exact HB.out | apply pw_below_drewN | apply below_drew1)) hb); clear hb)
  go_ret
  refine ⟨?_, by repeat (first | exact HB2.out | apply pw_below_drewN | apply below_drew1)⟩
  have h := HAB.out

  simp [hz1, hz2, hv1, hv2, h, hle, hw]
end Go.Proofs.Ytnioplhdhaomoaa.PA
