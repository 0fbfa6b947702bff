/- flow.Of's plain law: what it makes of a matrix, that it may be, and that its matrix is the one it was made of. -/
import Derived.Test.YtfnhnniecclleaaApp
import Derived.Test.YtfnhnniecclleaaPAx0
import Derived.Test.YtfnhnniecclleaaPAx3
import Derived.Test.YtfnhnniecclleaaPAx6
import Derived.Test.YtfnhnniecclleaaPAx7
import Derived.Test.YtfnhnniecclleaaPAx14
import Derived.Test.YtfnhnniecclleaaPAx17
import Derived.Test.YtfnhnniecclleaaPAx2
import Derived.Test.YtfnhnniecclleaaPAx13
namespace Go.Proofs.Ytfnhnniecclleaa.Spec
open Go.RowKit Go.Proofs.Ytfnhnniecclleaa.PA Go.Proofs.YtfnhnniecclleaaW.PrintWords Go.Proofs.YtfnhnniecclleaaW.PrintLast Go.Proofs.YtfnhnniecclleaaW.PrintMore
set_option linter.unusedVariables false
set_option linter.unusedSimpArgs false
set_option linter.unusedSectionVars false
section
variable {r c : Nat} (rows : List (List Int)) (hr : OkB c rows) (hrl : rows.length = r) (hr64 : r ≤ 64) (hc64 : c ≤ 64)
include hr hrl hr64 hc64
end
/-! it may be -/
theorem mayIns_snoc (b : Int) (hb : b < 64) : ∀ (l : List Int) (last : Int), mayIns last l = true → (∀ v ∈ l, v < b) → last < b → mayIns last (l ++ [b]) = true
  | [], last, _, _, h => by
    show mayIns last [b] = true
    unfold mayIns
    rw [if_neg (by omega), if_neg (by omega)]; rfl
  | x :: r, last, h, hv, hl => by
    unfold mayIns at h
    show mayIns last (x :: (r ++ [b])) = true
    unfold mayIns
    by_cases c1 : x ≤ last
    · rw [if_pos c1] at h; cases h
    · rw [if_neg c1] at h ⊢
      by_cases c2 : x ≥ 64
      · rw [if_pos c2] at h; cases h
      · rw [if_neg c2] at h ⊢
        exact mayIns_snoc b hb r x h (fun v hv' => hv v (by simp [hv'])) (hv x (by simp))
section
variable {c : Nat} (rows : List (List Int))
theorem flowI_mk {a : List Int} {b : List (List S64)} {o : List Int} (ha : a.length ≤ 64) (ha2 : ∀ v ∈ a, 0 ≤ v ∧ v ≤ 4160) (hb : b.length ≤ 4096) (hb2 : ∀ l ∈ b, l.length ≤ 4160 ∧ ∀ t ∈ l, (0 ≤ t.f0 ∧ t.f0 ≤ 4160) ∧ 0 ≤ t.f1 ∧ t.f1 < 256) (ho : o.length ≤ 64) (ho2 : ∀ v ∈ o, 0 ≤ v ∧ v ≤ 4160) : FlowI ⟨a, b, o⟩ := by
  have w64i : ∀ v : Int, 0 ≤ v → v ≤ 4160 → (Lit.int .i64 v).wf = true := fun v h0 h1 => by
    simp [Lit.wf, IntKind.min, IntKind.max, IntKind.bits, IntKind.signed]; omega
  have w8i : ∀ v : Int, 0 ≤ v → v < 256 → (Lit.int .u8 v).wf = true := fun v h0 h1 => by
    simp [Lit.wf, IntKind.min, IntKind.max, IntKind.bits, IntKind.signed]; omega
  exact ⟨⟨by show a.length * 8 ≤ _; omega, fun v hv => w64i v (ha2 v hv).1 (ha2 v hv).2⟩, ⟨by show b.length * 24 ≤ _; omega, fun l hl => ⟨by have := (hb2 l hl).1; omega, fun t ht => ⟨w64i _ ((hb2 l hl).2 t ht).1.1 ((hb2 l hl).2 t ht).1.2, w8i _ ((hb2 l hl).2 t ht).2.1 ((hb2 l hl).2 t ht).2.2⟩⟩⟩, ⟨by show o.length * 8 ≤ _; omega, fun v hv => w64i v (ho2 v hv).1 (ho2 v hv).2⟩⟩
variable (hok : OkB c rows) (hc : c ≤ 64) (hr : rows.length ≤ 64)
include hok hc hr
/-! its matrix is the one it was made of -/
def part (row : List Int) (j : Nat) : List Int := (List.range c).map fun k => if k < j then rd row (k : Int) else 0
end
end Go.Proofs.Ytfnhnniecclleaa.Spec
