-- Written by wip/tools/mp.py (the kit's print, run over several laws with some functions given by hand).
import Derived.Test.YtnioplhdhaomoaaPAx0
import Derived.Test.YtnioplhdhaomoaaPAx3
namespace Go.Proofs.Ytnioplhdhaomoaa.PA
open Go.RowKit Go.Proofs.YtnioplhdhaomoaaW.PrintWords Go.Proofs.YtnioplhdhaomoaaW.PrintLast Go.Proofs.YtnioplhdhaomoaaW.PrintMore
attribute [local go_sem] max2_int min2_int max_two min_two max_three min_three max_four min_four   -- for this text's walks alone
set_option linter.unusedVariables false
set_option linter.unusedSimpArgs false

/-! ### floor_those: function 27 (by hand) -/
theorem run41 (a : Nat) (w : World) : (callFunc 41 #[.float .f64 a]).run Try.prog w = .ok (.value (.int .u64 a)) w := by
  rw [run_callFunc_extern (e := Extern.MathFloatBits.float64bits) Try.func41 (by kernel_rfl) (by kernel_rfl) (by kernel_rfl) (by kernel_rfl)]; rfl
theorem run40 (a : Int) (w : World) : (callFunc 40 #[.int .u64 a]).run Try.prog w = .ok (.value (.float .f64 a.toNat)) w := by
  rw [run_callFunc_extern (e := Extern.MathFloatBits.float64frombits) Try.func40 (by kernel_rfl) (by kernel_rfl) (by kernel_rfl) (by kernel_rfl)]; rfl
def absF (a : Nat) : Nat := (Go.bits .andNot .u64 (a : Int) 9223372036854775808).toNat
set_option maxHeartbeats 400000 in
theorem abs_calls (a : Nat) (w : World) : Calls Try.prog 36 #[.float .f64 a] w fun e w' => e = .returned (.float .f64 (absF a)) ∧ w' = w := by
  have h1 := run41
  have h2 := run40
  go_enter Try.func36, Try.ntmps36
  go_wp2
  go_ret
  exact ⟨rfl, rfl⟩
def apartF (p q : Nat × Nat) : Option Int :=
  (cSumBits .sub .f64 p.1 p.2 q.1 q.2).bind fun d => (floatBits .add .f64 (absF d.1) (absF d.2)).bind fun s => floatToIntVal .f64 s .i64
set_option maxHeartbeats 400000 in
theorem apart_calls (p q : Nat × Nat) (n : Int) (h : apartF p q = some n) (w : World) : Calls Try.prog 31 #[.complex .f64 p.1 p.2, .complex .f64 q.1 q.2] w fun e w' => e = .returned (.int .i64 n) ∧ w' = w := by
  obtain ⟨a, b⟩ := p
  obtain ⟨c, d⟩ := q
  obtain ⟨⟨re, im⟩, h1, h⟩ := Option.bind_eq_some_iff.1 h
  obtain ⟨s, h2, h3⟩ := Option.bind_eq_some_iff.1 h
  dsimp only at *
  have hop1 := fun t w => run_complex_sum (P := Try.prog) w .sub (Or.inr rfl) t .f64 _ _ _ _ _ _ h1
  have hop2 := fun t w => run_float_arith (P := Try.prog) w .add t .f64 _ _ _ h2
  have hop3 : ∀ w, (convert 67 3 (.float .f64 s)).run Try.prog w = .ok (.int .i64 n) w := fun w => run_convert_float_int w 67 3 .f64 .i64 s n (by rw [Try.underlying67]; rfl) Try.underlying3 h3
  clear h1 h2 h3 h
  go_enter Try.func31, Try.ntmps31
  go_wp2_with (first | (simp only [hop1]; done) | (simp only [hop1]) | (simp only [hop2]) | (simp only [hop3]) | (go_at_call 36; refine (abs_calls _ _).mono ?_; rintro e w' ⟨rfl, rfl⟩))
  go_ret
  exact ⟨rfl, rfl⟩
def sz (x : Int) : Int := if x < 0 then -x else x
/-! ### recoupref15_size: function 32 -/
end Go.Proofs.Ytnioplhdhaomoaa.PA
