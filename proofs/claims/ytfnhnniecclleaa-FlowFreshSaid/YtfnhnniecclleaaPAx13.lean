-- Written by wip/tools/mp.py (the kit's print, run over several laws with some functions given by hand).
import Derived.Test.YtfnhnniecclleaaPAx0
import Derived.Test.YtfnhnniecclleaaPAx12
namespace Go.Proofs.Ytfnhnniecclleaa.PA
open Go.RowKit Go.Proofs.YtfnhnniecclleaaW.PrintWords Go.Proofs.YtfnhnniecclleaaW.PrintLast Go.Proofs.YtfnhnniecclleaaW.PrintMore
attribute [local go_sem] max2_int min2_int max_two min_two max_three min_three max_four min_four   -- for this text's walks alone
set_option linter.unusedVariables false
set_option linter.unusedSimpArgs false

/-! ### flow_run: function 43 -/
mutual
def flow_run.l0 : Nat → Int → List (List Int) → List (List (S64)) → Int → Int → List Int → List (List (S64)) → List Int → Option ((List (List Int)))
 | 0, _, _, _, _, _, _, _, _ => none
 | k + 1, x2, x7, x21, x22, x23, x325000, x325001, x325002 => if x23 < x22 then (if 0 ≤ x23 then (if x23 < (x21.length : Int) then (if 0 ≤ x2 then (if (x2 : Int).toNat ≤ 281474976710656 then (flow_run.l1 k x2 x7 (List.replicate (x2 : Int).toNat 0) x21 x22 x23 (rd_L4 x21 x23) ((rd_L4 x21 x23).length : Int) 0 x325000 x325001 x325002) else (none)) else (none)) else (none)) else (none)) else (flow_run.l3 k x7 ([] : List (List Int)) x325002 (x325002.length : Int) 0)
def flow_run.l1 : Nat → Int → List (List Int) → List Int → List (List (S64)) → Int → Int → List (S64) → Int → Int → List Int → List (List (S64)) → List Int → Option ((List (List Int)))
 | 0, _, _, _, _, _, _, _, _, _, _, _, _ => none
 | k + 1, x2, x7, x10, x21, x22, x23, x29, x30, x31, x325000, x325001, x325002 => if x31 < x30 then (if 0 ≤ x31 then (if x31 < (x29.length : Int) then (if 0 ≤ ((rd_T64 x29 x31).f0) then (if ((rd_T64 x29 x31).f0) < (x7.length : Int) then ((field_Scale.f ((rd_T64 x29 x31).f1) (rd_L9 x7 ((rd_T64 x29 x31).f0))).bind fun t338 => (flow_run.l2 k x2 x7 x10 x21 x22 x23 x29 x30 x31 t338 (t338.length : Int) 0 x325000 x325001 x325002)) else (none)) else (none)) else (none)) else (none)) else (if x7.length < 5864062014805 then (flow_run.l0 k x2 (x7 ++ [x10]) x21 x22 (wrap64 (x23 + 1)) x325000 x325001 x325002) else (none))
def flow_run.l2 : Nat → Int → List (List Int) → List Int → List (List (S64)) → Int → Int → List (S64) → Int → Int → List Int → Int → Int → List Int → List (List (S64)) → List Int → Option ((List (List Int)))
 | 0, _, _, _, _, _, _, _, _, _, _, _, _, _, _, _ => none
 | k + 1, x2, x7, x10, x21, x22, x23, x29, x30, x31, x42, x43, x44, x325000, x325001, x325002 => if x44 < x43 then (if 0 ≤ x44 then (if x44 < (x42.length : Int) then (if x44 < (x10.length : Int) then (flow_run.l2 k x2 x7 (x10.set (x44 : Int).toNat (Go.bits .xor .u8 (rd x10 x44) (rd x42 x44))) x21 x22 x23 x29 x30 x31 x42 x43 (wrap64 (x44 + 1)) x325000 x325001 x325002) else (none)) else (none)) else (none)) else (flow_run.l1 k x2 x7 x10 x21 x22 x23 x29 x30 (wrap64 (x31 + 1)) x325000 x325001 x325002)
def flow_run.l3 : Nat → List (List Int) → List (List Int) → List Int → Int → Int → Option ((List (List Int)))
 | 0, _, _, _, _, _ => none
 | k + 1, x7, x15, x64, x65, x66 => if x66 < x65 then (if 0 ≤ x66 then (if x66 < (x64.length : Int) then (if 0 ≤ (rd x64 x66) then (if (rd x64 x66) < (x7.length : Int) then ((slices_Clone_byte_byte_51.f (rd_L9 x7 (rd x64 x66))).bind fun t346 => (if x15.length < 5864062014805 then (flow_run.l3 k x7 (x15 ++ [t346]) x64 x65 (wrap64 (x66 + 1))) else (none))) else (none)) else (none)) else (none)) else (none)) else (some x15)
end
def flow_run.f (k : Nat) (l0_0 : List Int) (l0_1 : List (List (S64))) (l0_2 : List Int) (l1 : List (List Int)) (a2 : Int) : Option ((List (List Int))) := (slices_Clone_byte_byte_49.f l1).bind fun t325 => (flow_run.l0 k a2 t325 l0_1 (l0_1.length : Int) 0 l0_0 l0_1 l0_2)
def flow_run.T9 : Bool × List (List Nat × List Nat) := (true, [([], []), ([0], [0]), ([], []), ([], []), ([3], [3]), ([2, 4], [2, 4]), ([5], [5]), ([1, 6], [1, 6]), ([7], [7]), ([], [])])
def flow_run.B9 : List Nat := [0, 1, 0, 0, 8, 28, 60, 127, 255, 0]
theorem flow_run.tab9 : rtab .any (opsOf Try.f43 9) = flow_run.T9 := by kernel_rfl
theorem flow_run.bits9 : waitsOk flow_run.T9.2 flow_run.B9 = true := by kernel_rfl
end Go.Proofs.Ytfnhnniecclleaa.PA
