-- Written by wip/tools/mp.py (the kit's print, run over several laws with some functions given by hand).
import Derived.Test.YtnioplhdhaomoaaPAx0
import Derived.Test.YtnioplhdhaomoaaPAx3
namespace Go.Proofs.Ytnioplhdhaomoaa.PA
open Go.RowKit Go.Proofs.YtnioplhdhaomoaaW.PrintWords Go.Proofs.YtnioplhdhaomoaaW.PrintLast Go.Proofs.YtnioplhdhaomoaaW.PrintMore
attribute [local go_sem] max2_int min2_int max_two min_two max_three min_three max_four min_four   -- for this text's walks alone
set_option linter.unusedVariables false
set_option linter.unusedSimpArgs false

/-! ### floor_those: function 27 (by hand) -/
theorem run41 (a : Nat) (w : World) : (callFunc 41 #[.float .f64 a]).run Try.prog w = .ok (.value (.int .u64 a)) w := by
  rw [run_callFunc_extern (e := Extern.MathFloatBits.float64bits) Try.func41 (by kernel_rfl) (by kernel_rfl) (by kernel_rfl) (by kernel_rfl)]; rfl
theorem run40 (a : Int) (w : World) : (callFunc 40 #[.int .u64 a]).run Try.prog w = .ok (.value (.float .f64 a.toNat)) w := by
  rw [run_callFunc_extern (e := Extern.MathFloatBits.float64frombits) Try.func40 (by kernel_rfl) (by kernel_rfl) (by kernel_rfl) (by kernel_rfl)]; rfl
def absF (a : Nat) : Nat := (Go.bits .andNot .u64 (a : Int) 9223372036854775808).toNat
set_option maxHeartbeats 400000 in
theorem abs_calls (a : Nat) (w : World) : Calls Try.prog 36 #[.float .f64 a] w fun e w' => e = .returned (.float .f64 (absF a)) ∧ w' = w := by
  have h1 := run41
  have h2 := run40
  go_enter Try.func36, Try.ntmps36
  go_wp2
  go_ret
  exact ⟨rfl, rfl⟩
def apartF (p q : Nat × Nat) : Option Int :=
  (cSumBits .sub .f64 p.1 p.2 q.1 q.2).bind fun d => (floatBits .add .f64 (absF d.1) (absF d.2)).bind fun s => floatToIntVal .f64 s .i64
set_option maxHeartbeats 400000 in
theorem apart_calls (p q : Nat × Nat) (n : Int) (h : apartF p q = some n) (w : World) : Calls Try.prog 31 #[.complex .f64 p.1 p.2, .complex .f64 q.1 q.2] w fun e w' => e = .returned (.int .i64 n) ∧ w' = w := by
  obtain ⟨a, b⟩ := p
  obtain ⟨c, d⟩ := q
  obtain ⟨⟨re, im⟩, h1, h⟩ := Option.bind_eq_some_iff.1 h
  obtain ⟨s, h2, h3⟩ := Option.bind_eq_some_iff.1 h
  dsimp only at *
  have hop1 := fun t w => run_complex_sum (P := Try.prog) w .sub (Or.inr rfl) t .f64 _ _ _ _ _ _ h1
  have hop2 := fun t w => run_float_arith (P := Try.prog) w .add t .f64 _ _ _ h2
  have hop3 : ∀ w, (convert 67 3 (.float .f64 s)).run Try.prog w = .ok (.int .i64 n) w := fun w => run_convert_float_int w 67 3 .f64 .i64 s n (by rw [Try.underlying67]; rfl) Try.underlying3 h3
  clear h1 h2 h3 h
  go_enter Try.func31, Try.ntmps31
  go_wp2_with (first | (simp only [hop1]; done) | (simp only [hop1]) | (simp only [hop2]) | (simp only [hop3]) | (go_at_call 36; refine (abs_calls _ _).mono ?_; rintro e w' ⟨rfl, rfl⟩))
  go_ret
  exact ⟨rfl, rfl⟩
def fbn : List Nat := [0, 4607182418800017408, 4611686018427387904, 4613937818241073152, 4616189618054758400, 4617315517961601024, 4618441417868443648, 4619567317775286272, 4620693217682128896, 4621256167635550208, 4621819117588971520, 4622382067542392832, 4622945017495814144, 4623507967449235456, 4624070917402656768, 4624633867356078080, 4625196817309499392]
def fb (x : Int) : Nat := if x < 0 then 9223372036854775808 + fbn.getD x.natAbs 0 else fbn.getD x.natAbs 0
def R4 : List Int := [-4, -3, -2, -1, 0, 1, 2, 3, 4]
def R8 : List Int := [-8, -7, -6, -5, -4, -3, -2, -1, 0, 1, 2, 3, 4, 5, 6, 7, 8]
def P8 : List Int := [0, 1, 2, 3, 4, 5, 6, 7, 8]
def P16 : List Int := [0, 1, 2, 3, 4, 5, 6, 7, 8, 9, 10, 11, 12, 13, 14, 15, 16]
theorem sub_tab : ∀ x ∈ R4, ∀ y ∈ R4, floatBits .sub .f64 (fb x) (fb y) = some (fb (x - y)) := by decide +kernel
theorem abs_tab : ∀ x ∈ R8, absF (fb x) = fb (if x < 0 then -x else x) := by decide +kernel
theorem add_tab : ∀ x ∈ P8, ∀ y ∈ P8, floatBits .add .f64 (fb x) (fb y) = some (fb (x + y)) := by decide +kernel
theorem int_tab : ∀ x ∈ P16, floatToIntVal .f64 (fb x) .i64 = some x := by decide +kernel
theorem eq_tab : ∀ x ∈ R4, ∀ y ∈ R4, (FloatKind.f64.format.order (fb x) (fb y) == some .eq) = decide (x = y) := by decide +kernel
def CL : List (Int × Int) := [(0, 0), (1, 0), (1, 1), (0, 1), (-1, 1), (-1, 0), (-1, -1), (0, -1), (1, -1), (2, -1), (2, 0), (2, 1), (2, 2), (1, 2), (0, 2), (-1, 2), (-2, 2), (-2, 1), (-2, 0), (-2, -1), (-2, -2), (-1, -2), (0, -2), (1, -2), (2, -2), (3, -2), (3, -1), (3, 0), (3, 1), (3, 2), (3, 3), (2, 3), (1, 3), (0, 3), (-1, 3), (-2, 3), (-3, 3), (-3, 2), (-3, 1), (-3, 0), (-3, -1), (-3, -2), (-3, -3), (-2, -3), (-1, -3), (0, -3), (1, -3), (2, -3), (3, -3), (4, -3), (4, -2), (4, -1), (4, 0), (4, 1), (4, 2), (4, 3), (4, 4), (3, 4), (2, 4), (1, 4), (0, 4), (-1, 4), (-2, 4), (-3, 4)]
theorem zsl_cl : zsl 64 = CL.map fun c => (fb c.1, fb c.2) := by decide +kernel
theorem cl_in : ∀ c ∈ CL, c.1 ∈ R4 ∧ c.2 ∈ R4 := by decide +kernel
def cl (i : Nat) : Int × Int := CL.getD i (0, 0)
theorem cl_len : CL.length = 64 := rfl
theorem cl_mem (i : Nat) (h : i < 64) : cl i ∈ CL := by
  unfold cl
  rw [List.getD_eq_getElem?_getD, List.getElem?_eq_getElem (by rw [cl_len]; exact h)]
  exact List.getElem_mem _
theorem st_cl (i : Nat) (h : i < 64) : ((st i).zr, (st i).zi) = (fb (cl i).1, fb (cl i).2) := by
  have h1 := zsl_get 64 i h
  rw [zsl_cl, List.getElem?_map, List.getElem?_eq_getElem (by rw [cl_len]; exact h)] at h1
  have h2 := Option.some.inj h1
  rw [← h2]
  unfold cl
  rw [List.getD_eq_getElem?_getD, List.getElem?_eq_getElem (by rw [cl_len]; exact h)]; rfl
theorem r4_bd {x : Int} (h : x ∈ R4) : -4 ≤ x ∧ x ≤ 4 := by simp [R4] at h; omega
theorem r8_mem {x : Int} (h0 : -8 ≤ x) (h1 : x ≤ 8) : x ∈ R8 := by simp [R8]; omega
theorem p8_mem {x : Int} (h0 : 0 ≤ x) (h1 : x ≤ 8) : x ∈ P8 := by simp [P8]; omega
theorem p16_mem {x : Int} (h0 : 0 ≤ x) (h1 : x ≤ 16) : x ∈ P16 := by simp [P16]; omega
def sz (x : Int) : Int := if x < 0 then -x else x
theorem apart_fb (x y u v : Int) (hx : x ∈ R4) (hy : y ∈ R4) (hu : u ∈ R4) (hv : v ∈ R4) : apartF (fb x, fb y) (fb u, fb v) = some (sz (x - u) + sz (y - v)) := by
  have b1 := r4_bd hx
  have b2 := r4_bd hy
  have b3 := r4_bd hu
  have b4 := r4_bd hv
  have a1 : 0 ≤ sz (x - u) ∧ sz (x - u) ≤ 8 := by unfold sz; split <;> omega
  have a2 : 0 ≤ sz (y - v) ∧ sz (y - v) ≤ 8 := by unfold sz; split <;> omega
  unfold apartF cSumBits
  rw [sub_tab x hx u hu, sub_tab y hy v hv]
  simp only [Option.bind_some]
  rw [abs_tab _ (r8_mem (by omega) (by omega)), abs_tab _ (r8_mem (by omega) (by omega))]
  show (floatBits .add .f64 (fb (sz (x - u))) (fb (sz (y - v)))).bind _ = _
  rw [add_tab _ (p8_mem a1.1 a1.2) _ (p8_mem a2.1 a2.2)]
  simp only [Option.bind_some]
  exact int_tab _ (p16_mem (by omega) (by omega))
/-! ### recoupref15_size: function 32 -/
end Go.Proofs.Ytnioplhdhaomoaa.PA
