-- Written by wip/tools/mp.py (the kit's print, run over several laws with some functions given by hand).
import Derived.Test.YtnioplhdhaomoaaPAx0
import Derived.Test.YtnioplhdhaomoaaPAx3
namespace Go.Proofs.Ytnioplhdhaomoaa.PA
open Go.RowKit Go.Proofs.YtnioplhdhaomoaaW.PrintWords Go.Proofs.YtnioplhdhaomoaaW.PrintLast Go.Proofs.YtnioplhdhaomoaaW.PrintMore
attribute [local go_sem] max2_int min2_int max_two min_two max_three min_three max_four min_four   -- for this text's walks alone
set_option linter.unusedVariables false
set_option linter.unusedSimpArgs false

/-! ### floor_those: function 27 (by hand) -/
theorem run41 (a : Nat) (w : World) : (callFunc 41 #[.float .f64 a]).run Try.prog w = .ok (.value (.int .u64 a)) w := by
  rw [run_callFunc_extern (e := Extern.MathFloatBits.float64bits) Try.func41 (by kernel_rfl) (by kernel_rfl) (by kernel_rfl) (by kernel_rfl)]; rfl
theorem run40 (a : Int) (w : World) : (callFunc 40 #[.int .u64 a]).run Try.prog w = .ok (.value (.float .f64 a.toNat)) w := by
  rw [run_callFunc_extern (e := Extern.MathFloatBits.float64frombits) Try.func40 (by kernel_rfl) (by kernel_rfl) (by kernel_rfl) (by kernel_rfl)]; rfl
def absF (a : Nat) : Nat := (Go.bits .andNot .u64 (a : Int) 9223372036854775808).toNat
set_option maxHeartbeats 400000 in
theorem abs_calls (a : Nat) (w : World) : Calls Try.prog 36 #[.float .f64 a] w fun e w' => e = .returned (.float .f64 (absF a)) ∧ w' = w := by
  have h1 := run41
  have h2 := run40
  go_enter Try.func36, Try.ntmps36
  go_wp2
  go_ret
  exact ⟨rfl, rfl⟩
def apartF (p q : Nat × Nat) : Option Int :=
  (cSumBits .sub .f64 p.1 p.2 q.1 q.2).bind fun d => (floatBits .add .f64 (absF d.1) (absF d.2)).bind fun s => floatToIntVal .f64 s .i64
set_option maxHeartbeats 400000 in
theorem apart_calls (p q : Nat × Nat) (n : Int) (h : apartF p q = some n) (w : World) : Calls Try.prog 31 #[.complex .f64 p.1 p.2, .complex .f64 q.1 q.2] w fun e w' => e = .returned (.int .i64 n) ∧ w' = w := by
  obtain ⟨a, b⟩ := p
  obtain ⟨c, d⟩ := q
  obtain ⟨⟨re, im⟩, h1, h⟩ := Option.bind_eq_some_iff.1 h
  obtain ⟨s, h2, h3⟩ := Option.bind_eq_some_iff.1 h
  dsimp only at *
  have hop1 := fun t w => run_complex_sum (P := Try.prog) w .sub (Or.inr rfl) t .f64 _ _ _ _ _ _ h1
  have hop2 := fun t w => run_float_arith (P := Try.prog) w .add t .f64 _ _ _ h2
  have hop3 : ∀ w, (convert 67 3 (.float .f64 s)).run Try.prog w = .ok (.int .i64 n) w := fun w => run_convert_float_int w 67 3 .f64 .i64 s n (by rw [Try.underlying67]; rfl) Try.underlying3 h3
  clear h1 h2 h3 h
  go_enter Try.func31, Try.ntmps31
  go_wp2_with (first | (simp only [hop1]; done) | (simp only [hop1]) | (simp only [hop2]) | (simp only [hop3]) | (go_at_call 36; refine (abs_calls _ _).mono ?_; rintro e w' ⟨rfl, rfl⟩))
  go_ret
  exact ⟨rfl, rfl⟩
def reEq (p q : Nat × Nat) : Bool := FloatKind.f64.format.order p.1 q.1 == some .eq
set_option maxHeartbeats 400000 in
theorem aisle1_calls (p q : Nat × Nat) (w : World) : Calls Try.prog 28 #[.complex .f64 p.1 p.2, .complex .f64 q.1 q.2] w fun e w' => e = .returned (.bool (reEq p q)) ∧ Drawn0 w w' := by
  obtain ⟨a, b⟩ := p
  obtain ⟨c, d⟩ := q
  dsimp only
  go_enter Try.func28, Try.ntmps28
  go_wp2
  go_ret
  exact ⟨rfl, Drawn0.refl _⟩
def nearB (r : Int) (p q : Nat × Nat) : Bool := decide ((apartF p q).getD 0 ≤ r)
set_option maxHeartbeats 400000 in
theorem near1_calls (p q : Nat × Nat) (n r : Int) (g : Nat) (h : apartF p q = some n) (w : World) (hg : w.heap[g]? = some (.cells #[.int .i64 r] 3 (0, 0))) : Calls Try.prog 30 #[.complex .f64 p.1 p.2, .complex .f64 q.1 q.2, .pointer (some ⟨g, 0, none⟩)] w fun e w' => e = .returned (.bool (nearB r p q)) ∧ Drawn0 w w' := by
  have hn : nearB r p q = decide (n ≤ r) := by unfold nearB; rw [h]; rfl
  rw [hn]
  have HC := Aside0.mk (fun W => apart_calls p q n h W)
  have hc : w.cell? ⟨g, 0, none⟩ = some (.int .i64 r) := (blk_cell hg 0).trans rfl
  have hu3 := Try.underlying3
  obtain ⟨a, b⟩ := p
  obtain ⟨c, d⟩ := q
  dsimp only at *
  clear h hg hn
  go_enter Try.func30, Try.ntmps30
  go_wp2
  go_quiet ((go_at_call 31; exact Calls.quiet_of_same (HC.out _)))
  try go_wp2
  go_ret
  exact ⟨rfl, by repeat (first | exact Drawn0.refl _ | apply Drawn0.step)⟩
def setF (p : Nat × Nat → Bool) : List (Nat × Nat) → Nat → Int → Int
  | [], _, s => s
  | z :: r, i, s => setF p r (i + 1) (if p z = true then Go.bits .or .u64 s (shl .u64 1 (i : Int)) else s)
def zAt (d : Int) : Nat × Nat := ((st d.toNat).zr, (st d.toNat).zi)
def thoseF (p : Nat × Nat → Nat × Nat → Bool) (n d : Int) : Int × Int := if n < 1 ∨ n > 64 ∨ d < 0 ∨ d ≥ n then (0, 2) else (setF (fun z => p z (zAt d)) (zsl n.toNat) 0 0, 0)
theorem shl_one (i : Nat) (h : i < 64) : IntKind.u64.wrap (2 ^ i) = shl .u64 1 (i : Int) := by
  unfold shl
  rw [Int.toNat_natCast, Nat.min_eq_left (by show i ≤ 64; omega), Int.one_mul]
set_option maxHeartbeats 1000000 in
theorem those_aisle (n d : Int) (w : World)  : Calls Try.prog 27 #[.int .i64 n, .int .i64 d, .func (.func 28) #[] #[]] w fun e w' => e = .returned (.tuple #[.int .u64 (thoseF reEq n d).1, .int .i64 (thoseF reEq n d).2]) ∧ Below w.heap.size w w' := by
  have hu55 := Try.underlying55
  have hu3 := Try.underlying3
  have hu50 := Try.underlying50
  by_cases c1 : n < 1
  · have e1 : thoseF reEq n d = (0, 2) := if_pos (.inl c1)
    rw [e1]
    have c1' : decide (n < 1) = true := decide_eq_true c1
    clear e1
    go_enter Try.func27, Try.ntmps27
    go_wp2
    go_ret2
    exact ⟨rfl, Below.refl _ _⟩
  have c1' : decide (n < 1) = false := decide_eq_false c1
  by_cases c2 : n > 64
  · have e1 : thoseF reEq n d = (0, 2) := if_pos (.inr (.inl c2))
    rw [e1]
    have c2' : decide (n > 64) = true := decide_eq_true c2
    clear e1
    go_enter Try.func27, Try.ntmps27
    go_wp2
    go_ret2
    exact ⟨rfl, Below.refl _ _⟩
  have c2' : decide (n > 64) = false := decide_eq_false c2
  by_cases c3 : d < 0
  · have e1 : thoseF reEq n d = (0, 2) := if_pos (.inr (.inr (.inl c3)))
    rw [e1]
    have c3' : decide (d < 0) = true := decide_eq_true c3
    clear e1
    go_enter Try.func27, Try.ntmps27
    go_wp2
    go_ret2
    exact ⟨rfl, Below.refl _ _⟩
  have c3' : decide (d < 0) = false := decide_eq_false c3
  by_cases c4 : d ≥ n
  · have e1 : thoseF reEq n d = (0, 2) := if_pos (.inr (.inr (.inr c4)))
    rw [e1]
    have c4' : decide (d ≥ n) = true := decide_eq_true c4
    clear e1
    go_enter Try.func27, Try.ntmps27
    go_wp2
    go_ret2
    exact ⟨rfl, Below.refl _ _⟩
  have c4' : decide (d ≥ n) = false := decide_eq_false c4
  have e1 : thoseF reEq n d = (setF (fun z => reEq z (zAt d)) (zsl n.toNat) 0 0, 0) := if_neg (by omega)
  rw [e1]
  obtain ⟨N, rfl⟩ : ∃ N : Nat, (N : Int) = n := ⟨n.toNat, by omega⟩
  obtain ⟨D, rfl⟩ : ∃ D : Nat, (D : Int) = d := ⟨d.toNat, by omega⟩
  have hD : D < N := by omega
  have hN : N ≤ 64 := by omega
  have ez : zAt (D : Int) = ((st D).zr, (st D).zi) := by unfold zAt; rw [Int.toNat_natCast]
  rw [ez, Int.toNat_natCast]
  have HS := Aside0.mk (spiral_calls N hN w)
  clear e1 c1 c2 c3 c4 ez
  go_enter Try.func27, Try.ntmps27
  go_wp2_with (go_at_call 34; refine HS.out.mono ?_; rintro e w1 ⟨g, rfl, hg0, hg1, hb1⟩; have HB := Aside0.mk hb1; have HG := Aside0.mk hg1; clear hb1 hg1 hg0)
  go_loopw [9, 10, 11, 31] (fun v9 v10 v11 v31 w' => ∃ (i : Nat) (s : Int), i ≤ N ∧ v31 = .int .i64 i ∧ v9 = .int .u64 s ∧ Aside0 (setF (fun z => reEq z ((st D).zr, (st D).zi)) (zsl N) 0 0 = setF (fun z => reEq z ((st D).zr, (st D).zi)) ((zsl N).drop i) i s) ∧ Drawn0 w1 w') (fun _ _ _ v _ => N - (intOf v).toNat)
  case atStart => exact ⟨0, 0, Nat.zero_le _, rfl, rfl, ⟨rfl⟩, Drawn0.refl _⟩
  case round =>
    obtain ⟨i, s, hi, rfl, rfl, HA, ⟨m, rfl⟩⟩ := hrel
    by_cases hlt : i < N
    · have hc := (blk_cell HG.out i).trans (cxs_get N i hlt)
      have hcd := (blk_cell HG.out D).trans (cxs_get N D hD)
      have hA := HA.out
      rw [zsl_drop N i hlt, setF] at hA
      have HC := Aside0.mk (fun W => aisle1_calls ((st i).zr, (st i).zi) ((st D).zr, (st D).zi) W)
      by_cases cb : reEq ((st i).zr, (st i).zi) ((st D).zr, (st D).zi) = true
      · rw [cb] at HC
        rw [if_pos cb] at hA
        have HA1 := Aside0.mk hA
        have hsh := shl_one i (by omega)
        clear hA HA cb
        go_wp2_with (go_at_call 28; refine (HC.out _).mono ?_; rintro e w2 ⟨rfl, ⟨m2, rfl⟩⟩)
        go_roundw
        case rel => exact ⟨i + 1, _, by omega, by go_num, rfl, HA1, by repeat (first | exact Drawn0.refl _ | apply Drawn0.step)⟩
        case measure => simp [intOf]; omega
      · rw [show reEq ((st i).zr, (st i).zi) ((st D).zr, (st D).zi) = false by simpa using cb] at HC
        rw [if_neg cb] at hA
        have HA1 := Aside0.mk hA
        clear hA HA cb
        go_wp2_with (go_at_call 28; refine (HC.out _).mono ?_; rintro e w2 ⟨rfl, ⟨m2, rfl⟩⟩)
        go_roundw
        case rel => exact ⟨i + 1, s, by omega, by go_num, rfl, HA1, by repeat (first | exact Drawn0.refl _ | apply Drawn0.step)⟩
        case measure => simp [intOf]; omega
    · obtain rfl : i = N := by omega
      have HA2 := Aside0.mk (show setF (fun z => reEq z ((st D).zr, (st D).zi)) (zsl i) 0 0 = s by rw [HA.out, List.drop_of_length_le (by rw [zsl_len]; omega)]; rfl)
      go_wp2
      go_ret2
      rw [HA2.out]
      exact ⟨rfl, pw_below_drewN HB.out _⟩
def fbn : List Nat := [0, 4607182418800017408, 4611686018427387904, 4613937818241073152, 4616189618054758400, 4617315517961601024, 4618441417868443648, 4619567317775286272, 4620693217682128896, 4621256167635550208, 4621819117588971520, 4622382067542392832, 4622945017495814144, 4623507967449235456, 4624070917402656768, 4624633867356078080, 4625196817309499392]
def fb (x : Int) : Nat := if x < 0 then 9223372036854775808 + fbn.getD x.natAbs 0 else fbn.getD x.natAbs 0
def R4 : List Int := [-4, -3, -2, -1, 0, 1, 2, 3, 4]
def R8 : List Int := [-8, -7, -6, -5, -4, -3, -2, -1, 0, 1, 2, 3, 4, 5, 6, 7, 8]
def P8 : List Int := [0, 1, 2, 3, 4, 5, 6, 7, 8]
def P16 : List Int := [0, 1, 2, 3, 4, 5, 6, 7, 8, 9, 10, 11, 12, 13, 14, 15, 16]
theorem sub_tab : ∀ x ∈ R4, ∀ y ∈ R4, floatBits .sub .f64 (fb x) (fb y) = some (fb (x - y)) := by decide +kernel
theorem abs_tab : ∀ x ∈ R8, absF (fb x) = fb (if x < 0 then -x else x) := by decide +kernel
theorem add_tab : ∀ x ∈ P8, ∀ y ∈ P8, floatBits .add .f64 (fb x) (fb y) = some (fb (x + y)) := by decide +kernel
theorem int_tab : ∀ x ∈ P16, floatToIntVal .f64 (fb x) .i64 = some x := by decide +kernel
theorem eq_tab : ∀ x ∈ R4, ∀ y ∈ R4, (FloatKind.f64.format.order (fb x) (fb y) == some .eq) = decide (x = y) := by decide +kernel
def CL : List (Int × Int) := [(0, 0), (1, 0), (1, 1), (0, 1), (-1, 1), (-1, 0), (-1, -1), (0, -1), (1, -1), (2, -1), (2, 0), (2, 1), (2, 2), (1, 2), (0, 2), (-1, 2), (-2, 2), (-2, 1), (-2, 0), (-2, -1), (-2, -2), (-1, -2), (0, -2), (1, -2), (2, -2), (3, -2), (3, -1), (3, 0), (3, 1), (3, 2), (3, 3), (2, 3), (1, 3), (0, 3), (-1, 3), (-2, 3), (-3, 3), (-3, 2), (-3, 1), (-3, 0), (-3, -1), (-3, -2), (-3, -3), (-2, -3), (-1, -3), (0, -3), (1, -3), (2, -3), (3, -3), (4, -3), (4, -2), (4, -1), (4, 0), (4, 1), (4, 2), (4, 3), (4, 4), (3, 4), (2, 4), (1, 4), (0, 4), (-1, 4), (-2, 4), (-3, 4)]
theorem zsl_cl : zsl 64 = CL.map fun c => (fb c.1, fb c.2) := by decide +kernel
theorem cl_in : ∀ c ∈ CL, c.1 ∈ R4 ∧ c.2 ∈ R4 := by decide +kernel
def cl (i : Nat) : Int × Int := CL.getD i (0, 0)
theorem cl_len : CL.length = 64 := rfl
theorem cl_mem (i : Nat) (h : i < 64) : cl i ∈ CL := by
  unfold cl
  rw [List.getD_eq_getElem?_getD, List.getElem?_eq_getElem (by rw [cl_len]; exact h)]
  exact List.getElem_mem _
theorem st_cl (i : Nat) (h : i < 64) : ((st i).zr, (st i).zi) = (fb (cl i).1, fb (cl i).2) := by
  have h1 := zsl_get 64 i h
  rw [zsl_cl, List.getElem?_map, List.getElem?_eq_getElem (by rw [cl_len]; exact h)] at h1
  have h2 := Option.some.inj h1
  rw [← h2]
  unfold cl
  rw [List.getD_eq_getElem?_getD, List.getElem?_eq_getElem (by rw [cl_len]; exact h)]; rfl
theorem r4_bd {x : Int} (h : x ∈ R4) : -4 ≤ x ∧ x ≤ 4 := by simp [R4] at h; omega
theorem r8_mem {x : Int} (h0 : -8 ≤ x) (h1 : x ≤ 8) : x ∈ R8 := by simp [R8]; omega
theorem p8_mem {x : Int} (h0 : 0 ≤ x) (h1 : x ≤ 8) : x ∈ P8 := by simp [P8]; omega
theorem p16_mem {x : Int} (h0 : 0 ≤ x) (h1 : x ≤ 16) : x ∈ P16 := by simp [P16]; omega
def sz (x : Int) : Int := if x < 0 then -x else x
theorem apart_fb (x y u v : Int) (hx : x ∈ R4) (hy : y ∈ R4) (hu : u ∈ R4) (hv : v ∈ R4) : apartF (fb x, fb y) (fb u, fb v) = some (sz (x - u) + sz (y - v)) := by
  have b1 := r4_bd hx
  have b2 := r4_bd hy
  have b3 := r4_bd hu
  have b4 := r4_bd hv
  have a1 : 0 ≤ sz (x - u) ∧ sz (x - u) ≤ 8 := by unfold sz; split <;> omega
  have a2 : 0 ≤ sz (y - v) ∧ sz (y - v) ≤ 8 := by unfold sz; split <;> omega
  unfold apartF cSumBits
  rw [sub_tab x hx u hu, sub_tab y hy v hv]
  simp only [Option.bind_some]
  rw [abs_tab _ (r8_mem (by omega) (by omega)), abs_tab _ (r8_mem (by omega) (by omega))]
  show (floatBits .add .f64 (fb (sz (x - u))) (fb (sz (y - v)))).bind _ = _
  rw [add_tab _ (p8_mem a1.1 a1.2) _ (p8_mem a2.1 a2.2)]
  simp only [Option.bind_some]
  exact int_tab _ (p16_mem (by omega) (by omega))
theorem apart_st (i j : Nat) (hi : i < 64) (hj : j < 64) : apartF ((st i).zr, (st i).zi) ((st j).zr, (st j).zi) = some (sz ((cl i).1 - (cl j).1) + sz ((cl i).2 - (cl j).2)) := by
  rw [st_cl i hi, st_cl j hj]
  have h1 := cl_in _ (cl_mem i hi)
  have h2 := cl_in _ (cl_mem j hj)
  exact apart_fb _ _ _ _ h1.1 h1.2 h2.1 h2.2
theorem re_st (i j : Nat) (hi : i < 64) (hj : j < 64) : reEq ((st i).zr, (st i).zi) ((st j).zr, (st j).zi) = decide ((cl i).1 = (cl j).1) := by
  rw [st_cl i hi, st_cl j hj]
  have h1 := cl_in _ (cl_mem i hi)
  have h2 := cl_in _ (cl_mem j hj)
  exact eq_tab _ h1.1 _ h2.1
theorem apart_some (i j : Nat) (hi : i < 64) (hj : j < 64) : ∃ n, apartF ((st i).zr, (st i).zi) ((st j).zr, (st j).zi) = some n := ⟨_, apart_st i j hi hj⟩
set_option maxHeartbeats 1000000 in
theorem those_near (n d : Int) (w : World) (g0 : Nat) (r : Int) (hg : w.heap[g0]? = some (.cells #[.int .i64 r] 3 (0, 0))) : Calls Try.prog 27 #[.int .i64 n, .int .i64 d, .func (.func 30) #[] #[.pointer (some ⟨g0, 0, none⟩)]] w fun e w' => e = .returned (.tuple #[.int .u64 (thoseF (nearB r) n d).1, .int .i64 (thoseF (nearB r) n d).2]) ∧ Below w.heap.size w w' := by
  have HGW := Aside0.mk hg
  clear hg
  have hu55 := Try.underlying55
  have hu3 := Try.underlying3
  have hu50 := Try.underlying50
  by_cases c1 : n < 1
  · have e1 : thoseF (nearB r) n d = (0, 2) := if_pos (.inl c1)
    rw [e1]
    have c1' : decide (n < 1) = true := decide_eq_true c1
    clear e1
    go_enter Try.func27, Try.ntmps27
    go_wp2
    go_ret2
    exact ⟨rfl, Below.refl _ _⟩
  have c1' : decide (n < 1) = false := decide_eq_false c1
  by_cases c2 : n > 64
  · have e1 : thoseF (nearB r) n d = (0, 2) := if_pos (.inr (.inl c2))
    rw [e1]
    have c2' : decide (n > 64) = true := decide_eq_true c2
    clear e1
    go_enter Try.func27, Try.ntmps27
    go_wp2
    go_ret2
    exact ⟨rfl, Below.refl _ _⟩
  have c2' : decide (n > 64) = false := decide_eq_false c2
  by_cases c3 : d < 0
  · have e1 : thoseF (nearB r) n d = (0, 2) := if_pos (.inr (.inr (.inl c3)))
    rw [e1]
    have c3' : decide (d < 0) = true := decide_eq_true c3
    clear e1
    go_enter Try.func27, Try.ntmps27
    go_wp2
    go_ret2
    exact ⟨rfl, Below.refl _ _⟩
  have c3' : decide (d < 0) = false := decide_eq_false c3
  by_cases c4 : d ≥ n
  · have e1 : thoseF (nearB r) n d = (0, 2) := if_pos (.inr (.inr (.inr c4)))
    rw [e1]
    have c4' : decide (d ≥ n) = true := decide_eq_true c4
    clear e1
    go_enter Try.func27, Try.ntmps27
    go_wp2
    go_ret2
    exact ⟨rfl, Below.refl _ _⟩
  have c4' : decide (d ≥ n) = false := decide_eq_false c4
  have e1 : thoseF (nearB r) n d = (setF (fun z => (nearB r) z (zAt d)) (zsl n.toNat) 0 0, 0) := if_neg (by omega)
  rw [e1]
  obtain ⟨N, rfl⟩ : ∃ N : Nat, (N : Int) = n := ⟨n.toNat, by omega⟩
  obtain ⟨D, rfl⟩ : ∃ D : Nat, (D : Int) = d := ⟨d.toNat, by omega⟩
  have hD : D < N := by omega
  have hN : N ≤ 64 := by omega
  have ez : zAt (D : Int) = ((st D).zr, (st D).zi) := by unfold zAt; rw [Int.toNat_natCast]
  rw [ez, Int.toNat_natCast]
  have HS := Aside0.mk (spiral_calls N hN w)
  clear e1 c1 c2 c3 c4 ez
  go_enter Try.func27, Try.ntmps27
  go_wp2_with (go_at_call 34; refine HS.out.mono ?_; rintro e w1 ⟨g, rfl, hg0, hg1, hb1⟩; have HB := Aside0.mk hb1; have HG := Aside0.mk hg1; have HGP := Aside0.mk (blk_below HGW.out hb1); clear hb1 hg1 hg0)
  go_loopw [9, 10, 11, 31] (fun v9 v10 v11 v31 w' => ∃ (i : Nat) (s : Int), i ≤ N ∧ v31 = .int .i64 i ∧ v9 = .int .u64 s ∧ Aside0 (setF (fun z => (nearB r) z ((st D).zr, (st D).zi)) (zsl N) 0 0 = setF (fun z => (nearB r) z ((st D).zr, (st D).zi)) ((zsl N).drop i) i s) ∧ Drawn0 w1 w') (fun _ _ _ v _ => N - (intOf v).toNat)
  case atStart => exact ⟨0, 0, Nat.zero_le _, rfl, rfl, ⟨rfl⟩, Drawn0.refl _⟩
  case round =>
    obtain ⟨i, s, hi, rfl, rfl, HA, ⟨m, rfl⟩⟩ := hrel
    by_cases hlt : i < N
    · have hc := (blk_cell HG.out i).trans (cxs_get N i hlt)
      have hcd := (blk_cell HG.out D).trans (cxs_get N D hD)
      have hA := HA.out
      rw [zsl_drop N i hlt, setF] at hA
      obtain ⟨an, han⟩ := apart_some i D (by omega) (by omega)
      have HC := Aside0.mk (fun W hW => near1_calls ((st i).zr, (st i).zi) ((st D).zr, (st D).zi) an r g0 han W hW)
      by_cases cb : (nearB r) ((st i).zr, (st i).zi) ((st D).zr, (st D).zi) = true
      · rw [cb] at HC
        rw [if_pos cb] at hA
        have HA1 := Aside0.mk hA
        have hsh := shl_one i (by omega)
        clear hA HA cb
        go_wp2_with (go_at_call 30; refine (HC.out _ (by (with_reducible repeat (first | refine blk_drewN ?_ _ | refine blk_drew ?_)); exact HGP.out)).mono ?_; rintro e w2 ⟨rfl, ⟨m2, rfl⟩⟩)
        go_roundw
        case rel => exact ⟨i + 1, _, by omega, by go_num, rfl, HA1, by repeat (first | exact Drawn0.refl _ | apply Drawn0.step)⟩
        case measure => simp [intOf]; omega
      · rw [show (nearB r) ((st i).zr, (st i).zi) ((st D).zr, (st D).zi) = false by simpa using cb] at HC
        rw [if_neg cb] at hA
        have HA1 := Aside0.mk hA
        clear hA HA cb
        go_wp2_with (go_at_call 30; refine (HC.out _ (by (with_reducible repeat (first | refine blk_drewN ?_ _ | refine blk_drew ?_)); exact HGP.out)).mono ?_; rintro e w2 ⟨rfl, ⟨m2, rfl⟩⟩)
        go_roundw
        case rel => exact ⟨i + 1, s, by omega, by go_num, rfl, HA1, by repeat (first | exact Drawn0.refl _ | apply Drawn0.step)⟩
        case measure => simp [intOf]; omega
    · obtain rfl : i = N := by omega
      have HA2 := Aside0.mk (show setF (fun z => (nearB r) z ((st D).zr, (st D).zi)) (zsl i) 0 0 = s by rw [HA.out, List.drop_of_length_le (by rw [zsl_len]; omega)]; rfl)
      go_wp2
      go_ret2
      rw [HA2.out]
      exact ⟨rfl, pw_below_drewN HB.out _⟩

/-! ### floor_Aisle: function 9 (by hand) -/
def floor_Aisle.f (a0 : Int) (a1 : Int) : Option (Int × Int) := some (thoseF reEq a0 a1)
set_option maxHeartbeats 1000000 in
theorem floor_Aisle.calls (a0 : Int) (a1 : Int) (r1 : Int) (r2 : Int) (w : World) (h : floor_Aisle.f a0 a1 = some (r1, r2)) : Calls Try.prog 9 #[.int .i64 a0, .int .i64 a1] w fun e w' => e = .returned (.tuple #[.int .u64 r1, .int .i64 r2]) ∧ Below w.heap.size w w' := by
  have h1 := Option.some.inj h
  have HT := those_aisle a0 a1 w
  rw [h1] at HT
  have HT := Aside0.mk HT
  clear h h1
  go_enter Try.func9, Try.ntmps9
  go_wp2_with (go_at_call 27; refine HT.out.mono ?_; rintro e w1 ⟨rfl, hb1⟩; have HB := Aside0.mk hb1; clear hb1)
  go_ret2
  exact ⟨rfl, HB.out⟩

/-! ### floor_Near: function 11 (by hand) -/
def floor_Near.f (a0 : Int) (a1 : Int) (a2 : Int) : Option (Int × Int) := some (if a2 < 0 then (0, 2) else thoseF (nearB a2) a0 a1)
set_option maxHeartbeats 1000000 in
theorem floor_Near.calls (a0 : Int) (a1 : Int) (a2 : Int) (r1 : Int) (r2 : Int) (w : World) (h : floor_Near.f a0 a1 a2 = some (r1, r2)) : Calls Try.prog 11 #[.int .i64 a0, .int .i64 a1, .int .i64 a2] w fun e w' => e = .returned (.tuple #[.int .u64 r1, .int .i64 r2]) ∧ Below w.heap.size w w' := by
  have h1 := Option.some.inj h
  have hu3 := Try.underlying3
  have hmf : ∀ (fn : Fn) (first cap : Array Value) (w : World), (Instr.makeFunc fn first cap).run Try.prog w = .ok (.func fn first cap) w := fun _ _ _ _ => rfl
  have HB := Aside0.mk ((Below.refl w.heap.size w).alloc (Nat.le_refl _) (.cells #[.int .i64 a2] 3))
  have HG := Aside0.mk (al_new w (.cells #[.int .i64 a2] 3))
  by_cases c : a2 < 0
  · rw [if_pos c] at h1
    obtain ⟨rfl, rfl⟩ := Prod.mk.inj h1
    have c' : decide (a2 < 0) = true := decide_eq_true c
    clear h h1
    go_enter Try.func11, Try.ntmps11
    go_wp2
    go_ret2
    exact ⟨rfl, HB.out⟩
  · rw [if_neg c] at h1
    have c' : decide (a2 < 0) = false := decide_eq_false c
    have HT := fun W hW => those_near a0 a1 W w.heap.size a2 hW
    rw [h1] at HT
    have HT := Aside0.mk HT
    clear h h1
    go_enter Try.func11, Try.ntmps11
    go_wp2_with (go_at_call 27; refine (HT.out _ HG.out).mono ?_; rintro e w1 ⟨rfl, hb1⟩; have HB1 := Aside0.mk (HB.out.trans (hb1.mono (by simp))); clear hb1)
    go_ret2
    exact ⟨rfl, HB1.out⟩

/-! ### recoupref15_size: function 32 -/
end Go.Proofs.Ytnioplhdhaomoaa.PA
