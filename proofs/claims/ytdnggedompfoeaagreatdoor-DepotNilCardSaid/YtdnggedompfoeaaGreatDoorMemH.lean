/- Calls of this program at fixed arguments, each carried out once by the kernel: what it answers and what memory it leaves. -/
import Derived.Test.YtdnggedompfoeaaGreatDoorMemG
set_option linter.unusedVariables false
set_option linter.unusedSimpArgs false
set_option maxRecDepth 100000
namespace Go.AE
noncomputable def l3_65 : List (Nat × Sm) := [(284, known K0.g [m0] (fun _ _ _ _ => .fail)), (243, known K0.g [m1, m2] (fun _ _ _ _ => .fail)), (221, known K0.g [m8, m17] (fun _ _ _ _ => .fail)), (334, known K0.g [m9, m10] (fun _ _ _ _ => .fail))]
theorem l3_65_ok : AllS K0 l3_65 := (AllS.cons (known_ok sum_fail (AllM.cons m0_ok AllM.nil)) (AllS.cons (known_ok sum_fail (AllM.cons m1_ok (AllM.cons m2_ok AllM.nil))) (AllS.cons (known_ok sum_fail (AllM.cons m8_ok (AllM.cons m17_ok AllM.nil))) (AllS.cons (known_ok sum_fail (AllM.cons m9_ok (AllM.cons m10_ok AllM.nil))) AllS.nil))))
noncomputable def S3_65 : FuncId → Option Sm := fun f => pick1 l3_65 f
theorem S3_65_ok : ∀ f k, S3_65 f = some k → SumOk K0 f k := pick1_ok l3_65_ok
noncomputable def l3_120 : List (Nat × Sm) := [(260, known K0.g [m90, m91, m92, m93, m97, m98, m108, m109, m110, m111, m112, m125, m126, m127, m128, m129, m146, m147, m151, m152, m156, m157] (fun _ _ _ _ => .fail))]
theorem l3_120_ok : AllS K0 l3_120 := (AllS.cons (known_ok sum_fail (AllM.cons m90_ok (AllM.cons m91_ok (AllM.cons m92_ok (AllM.cons m93_ok (AllM.cons m97_ok (AllM.cons m98_ok (AllM.cons m108_ok (AllM.cons m109_ok (AllM.cons m110_ok (AllM.cons m111_ok (AllM.cons m112_ok (AllM.cons m125_ok (AllM.cons m126_ok (AllM.cons m127_ok (AllM.cons m128_ok (AllM.cons m129_ok (AllM.cons m146_ok (AllM.cons m147_ok (AllM.cons m151_ok (AllM.cons m152_ok (AllM.cons m156_ok (AllM.cons m157_ok AllM.nil))))))))))))))))))))))) AllS.nil)
noncomputable def S3_120 : FuncId → Option Sm := fun f => pick1 l3_120 f
theorem S3_120_ok : ∀ f k, S3_120 f = some k → SumOk K0 f k := pick1_ok l3_120_ok
noncomputable def l3_281 : List (Nat × Sm) := [(243, known K0.g [m11, m12, m13] (fun _ _ _ _ => .fail)), (233, known K0.g [m22, m23, m24, m25, m27, m36, m45] (fun _ _ _ _ => .fail)), (221, known K0.g [m19, m34, m43, m46, m49, m56, m76] (fun _ _ _ _ => .fail))]
theorem l3_281_ok : AllS K0 l3_281 := (AllS.cons (known_ok sum_fail (AllM.cons m11_ok (AllM.cons m12_ok (AllM.cons m13_ok AllM.nil)))) (AllS.cons (known_ok sum_fail (AllM.cons m22_ok (AllM.cons m23_ok (AllM.cons m24_ok (AllM.cons m25_ok (AllM.cons m27_ok (AllM.cons m36_ok (AllM.cons m45_ok AllM.nil)))))))) (AllS.cons (known_ok sum_fail (AllM.cons m19_ok (AllM.cons m34_ok (AllM.cons m43_ok (AllM.cons m46_ok (AllM.cons m49_ok (AllM.cons m56_ok (AllM.cons m76_ok AllM.nil)))))))) AllS.nil)))
noncomputable def S3_281 : FuncId → Option Sm := fun f => pick1 l3_281 f
theorem S3_281_ok : ∀ f k, S3_281 f = some k → SumOk K0 f k := pick1_ok l3_281_ok
noncomputable def m18 : Memo := ⟨[(.str ⟨#[99, 111, 100, 101, 32, 120, 32, 61, 32, 114, 101, 101, 100, 40, 50, 44, 32, 49, 41, 59, 32, 117, 115, 101, 32, 120, 59, 32, 100, 111, 109, 97, 105, 110, 115, 32, 51, 59, 32, 116, 111, 108, 101, 114, 97, 116, 101, 32, 49, 59]⟩)],
 [], 2,
 (.tup [(.agg [(vn .i64 3), (vn .i64 2), (.sl 16929 0 6 none), (.sl 16920 0 0 (some 0)), (.sl 16903 0 3 none), (vn .i64 3), (vn .i64 1)]), (.agg [(vn .i64 0), (vn .i64 0), (vn .i64 0)])]), false, [(16929, (.cells (.n (some (vn .u8 1)) (.n (some (vn .u8 0)) (lf (vn .u8 2)) .e .e .e) (lf (vn .u8 0)) (lf (vn .u8 1)) (lf (vn .u8 3))) 6 5 1)), (16920, (.cells .e 0 30 1)), (16903, (.cells (.n (some (vn .i64 0)) (lf (vn .i64 1)) (lf (vn .i64 2)) .e .e) 3 3 1))], [], 16935⟩
theorem m18_ok : MemoOk K0 65 m18 := memo_ok k0_base S3_65_ok (N := 300) (by decide +kernel)
noncomputable def m26 : Memo := ⟨[(.agg [(vn .i64 3), (vn .i64 2), (.sl 2 0 6 none)]), (vn .u64 7)],
 [(2, (.cells (.n (some (vn .u8 1)) (.n (some (vn .u8 0)) (lf (vn .u8 2)) .e .e .e) (lf (vn .u8 0)) (lf (vn .u8 1)) (lf (vn .u8 3))) 6 5 1))], 3,
 (.tup [(vn .i64 2), (vn .i64 0)]), true, [], [], 541⟩
theorem m26_ok : MemoOk K0 281 m26 := memo_ok k0_base S3_281_ok (N := 300) (by decide +kernel)
noncomputable def m35 : Memo := ⟨[(.agg [(vn .i64 3), (vn .i64 2), (.sl 2 0 6 none)]), (vn .u64 6)],
 [(2, (.cells (.n (some (vn .u8 1)) (.n (some (vn .u8 0)) (lf (vn .u8 2)) .e .e .e) (lf (vn .u8 0)) (lf (vn .u8 1)) (lf (vn .u8 3))) 6 5 1))], 3,
 (.tup [(vn .i64 2), (vn .i64 0)]), true, [], [], 360⟩
theorem m35_ok : MemoOk K0 281 m35 := memo_ok k0_base S3_281_ok (N := 300) (by decide +kernel)
noncomputable def m44 : Memo := ⟨[(.agg [(vn .i64 3), (vn .i64 2), (.sl 2 0 6 none)]), (vn .u64 5)],
 [(2, (.cells (.n (some (vn .u8 1)) (.n (some (vn .u8 0)) (lf (vn .u8 2)) .e .e .e) (lf (vn .u8 0)) (lf (vn .u8 1)) (lf (vn .u8 3))) 6 5 1))], 3,
 (.tup [(vn .i64 2), (vn .i64 0)]), true, [], [], 359⟩
theorem m44_ok : MemoOk K0 281 m44 := memo_ok k0_base S3_281_ok (N := 300) (by decide +kernel)
noncomputable def m47 : Memo := ⟨[(.agg [(vn .i64 3), (vn .i64 2), (.sl 2 0 6 none)]), (vn .u64 3)],
 [(2, (.cells (.n (some (vn .u8 1)) (.n (some (vn .u8 0)) (lf (vn .u8 2)) .e .e .e) (lf (vn .u8 0)) (lf (vn .u8 1)) (lf (vn .u8 3))) 6 5 1))], 3,
 (.tup [(vn .i64 2), (vn .i64 0)]), true, [], [], 359⟩
theorem m47_ok : MemoOk K0 281 m47 := memo_ok k0_base S3_281_ok (N := 300) (by decide +kernel)
noncomputable def m73 : Memo := ⟨[(.agg [(vn .i64 3), (vn .i64 2), (.sl 2 0 6 none)]), (vn .u64 1)],
 [(2, (.cells (.n (some (vn .u8 1)) (.n (some (vn .u8 0)) (lf (vn .u8 2)) .e .e .e) (lf (vn .u8 0)) (lf (vn .u8 1)) (lf (vn .u8 3))) 6 5 1))], 3,
 (.tup [(vn .i64 1), (vn .i64 0)]), true, [], [], 122⟩
theorem m73_ok : MemoOk K0 281 m73 := memo_ok k0_base S3_281_ok (N := 300) (by decide +kernel)
end Go.AE
