/- Calls of this program at fixed arguments, each carried out once by the kernel: what it answers and what memory it leaves. -/
import Derived.Test.YtdnggedompfoeaaGreatDoorEvE
set_option linter.unusedVariables false
set_option linter.unusedSimpArgs false
set_option maxRecDepth 100000
namespace Go.AE
noncomputable def l1_67 : List (Nat × Sm) := []
theorem l1_67_ok : AllS K0 l1_67 := AllS.nil
noncomputable def S1_67 : FuncId → Option Sm := fun f => pick1 l1_67 f
theorem S1_67_ok : ∀ f k, S1_67 f = some k → SumOk K0 f k := pick1_ok l1_67_ok
noncomputable def l1_221 : List (Nat × Sm) := []
theorem l1_221_ok : AllS K0 l1_221 := AllS.nil
noncomputable def S1_221 : FuncId → Option Sm := fun f => pick1 l1_221 f
theorem S1_221_ok : ∀ f k, S1_221 f = some k → SumOk K0 f k := pick1_ok l1_221_ok
noncomputable def l1_233 : List (Nat × Sm) := []
theorem l1_233_ok : AllS K0 l1_233 := AllS.nil
noncomputable def S1_233 : FuncId → Option Sm := fun f => pick1 l1_233 f
theorem S1_233_ok : ∀ f k, S1_233 f = some k → SumOk K0 f k := pick1_ok l1_233_ok
noncomputable def l1_243 : List (Nat × Sm) := []
theorem l1_243_ok : AllS K0 l1_243 := AllS.nil
noncomputable def S1_243 : FuncId → Option Sm := fun f => pick1 l1_243 f
theorem S1_243_ok : ∀ f k, S1_243 f = some k → SumOk K0 f k := pick1_ok l1_243_ok
noncomputable def l1_284 : List (Nat × Sm) := []
theorem l1_284_ok : AllS K0 l1_284 := AllS.nil
noncomputable def S1_284 : FuncId → Option Sm := fun f => pick1 l1_284 f
theorem S1_284_ok : ∀ f k, S1_284 f = some k → SumOk K0 f k := pick1_ok l1_284_ok
noncomputable def l1_312 : List (Nat × Sm) := []
theorem l1_312_ok : AllS K0 l1_312 := AllS.nil
noncomputable def S1_312 : FuncId → Option Sm := fun f => pick1 l1_312 f
theorem S1_312_ok : ∀ f k, S1_312 f = some k → SumOk K0 f k := pick1_ok l1_312_ok
noncomputable def l1_324 : List (Nat × Sm) := []
theorem l1_324_ok : AllS K0 l1_324 := AllS.nil
noncomputable def S1_324 : FuncId → Option Sm := fun f => pick1 l1_324 f
theorem S1_324_ok : ∀ f k, S1_324 f = some k → SumOk K0 f k := pick1_ok l1_324_ok
noncomputable def l1_325 : List (Nat × Sm) := []
theorem l1_325_ok : AllS K0 l1_325 := AllS.nil
noncomputable def S1_325 : FuncId → Option Sm := fun f => pick1 l1_325 f
theorem S1_325_ok : ∀ f k, S1_325 f = some k → SumOk K0 f k := pick1_ok l1_325_ok
noncomputable def m0 : Memo := ⟨[(vn .i64 3)],
 [], 2,
 (.sl 2 0 66 (some 66)), false, [(2, (.cells (.n (some (vn .i64 1)) (.n (some (vn .i64 3)) (.n (some (vn .i64 0)) (lf (vn .i64 0)) (lf (vn .i64 0)) (lf (vn .i64 0)) .e) (.n (some (vn .i64 0)) (lf (vn .i64 0)) (lf (vn .i64 0)) (lf (vn .i64 0)) .e) (.n (some (vn .i64 0)) (lf (vn .i64 0)) (lf (vn .i64 0)) (lf (vn .i64 0)) .e) (.n (some (vn .i64 0)) (lf (vn .i64 0)) (lf (vn .i64 0)) (lf (vn .i64 0)) .e)) (.n (some (vn .i64 3)) (.n (some (vn .i64 0)) (lf (vn .i64 0)) (lf (vn .i64 0)) (lf (vn .i64 0)) .e) (.n (some (vn .i64 0)) (lf (vn .i64 0)) (lf (vn .i64 0)) (lf (vn .i64 0)) .e) (.n (some (vn .i64 0)) (lf (vn .i64 0)) (lf (vn .i64 0)) (lf (vn .i64 0)) .e) (.n (some (vn .i64 0)) (lf (vn .i64 0)) (lf (vn .i64 0)) .e .e)) (.n (some (vn .i64 1)) (.n (some (vn .i64 0)) (lf (vn .i64 0)) (lf (vn .i64 0)) (lf (vn .i64 0)) .e) (.n (some (vn .i64 0)) (lf (vn .i64 0)) (lf (vn .i64 0)) (lf (vn .i64 0)) .e) (.n (some (vn .i64 0)) (lf (vn .i64 0)) (lf (vn .i64 0)) (lf (vn .i64 0)) .e) (.n (some (vn .i64 0)) (lf (vn .i64 0)) (lf (vn .i64 0)) .e .e)) (.n (some (vn .i64 0)) (.n (some (vn .i64 0)) (lf (vn .i64 0)) (lf (vn .i64 0)) (lf (vn .i64 0)) .e) (.n (some (vn .i64 0)) (lf (vn .i64 0)) (lf (vn .i64 0)) (lf (vn .i64 0)) .e) (.n (some (vn .i64 0)) (lf (vn .i64 0)) (lf (vn .i64 0)) (lf (vn .i64 0)) .e) (.n (some (vn .i64 0)) (lf (vn .i64 0)) (lf (vn .i64 0)) .e .e))) 66 3 1))], [], 2733⟩
theorem m0_ok : MemoOk K0 284 m0 := memo_ok k0_base S1_284_ok (N := 300) (by decide +kernel)
noncomputable def m1 : Memo := ⟨[(.agg [(vn .i64 2), (vn .i64 2), (.sl 2 0 4 none)]), (vn .i64 0)],
 [(2, (.cells (.n (some (vn .u8 1)) (lf (vn .u8 0)) (lf (vn .u8 1)) (lf (vn .u8 1)) .e) 4 5 1))], 3,
 (.tup [(.sl 10 0 2 none), (vn .i64 0)]), false, [(10, (.cells (.n (some (vn .u8 1)) (lf (vn .u8 0)) .e .e .e) 2 5 1))], [], 11⟩
theorem m1_ok : MemoOk K0 243 m1 := memo_ok k0_base S1_243_ok (N := 300) (by decide +kernel)
noncomputable def m2 : Memo := ⟨[(.agg [(vn .i64 2), (vn .i64 2), (.sl 2 0 4 none)]), (vn .i64 1)],
 [(2, (.cells (.n (some (vn .u8 1)) (lf (vn .u8 0)) (lf (vn .u8 1)) (lf (vn .u8 1)) .e) 4 5 1))], 3,
 (.tup [(.sl 10 0 2 none), (vn .i64 0)]), false, [(10, (.cells (.n (some (vn .u8 1)) (lf (vn .u8 1)) .e .e .e) 2 5 1))], [], 11⟩
theorem m2_ok : MemoOk K0 243 m2 := memo_ok k0_base S1_243_ok (N := 300) (by decide +kernel)
noncomputable def m3 : Memo := ⟨[(vn .u8 1)],
 [], 2,
 (.tup [(vn .u8 1), (vn .i64 0)]), true, [], [], 2⟩
theorem m3_ok : MemoOk K0 324 m3 := memo_ok k0_base S1_324_ok (N := 300) (by decide +kernel)
noncomputable def m4 : Memo := ⟨[(vn .u8 1), (.sl 2 0 2 none)],
 [(2, (.cells (.n (some (vn .u8 1)) (lf (vn .u8 0)) .e .e .e) 2 5 1))], 3,
 (.sl 6 0 2 none), false, [(6, (.cells (.n (some (vn .u8 1)) (lf (vn .u8 0)) .e .e .e) 2 5 1))], [], 7⟩
theorem m4_ok : MemoOk K0 325 m4 := memo_ok k0_base S1_325_ok (N := 300) (by decide +kernel)
noncomputable def m5 : Memo := ⟨[(.agg [(vn .i64 2), (vn .i64 2), (.sl 2 0 4 none)]), (vn .i64 0)],
 [(2, (.cells (.n (some (vn .u8 1)) (lf (vn .u8 0)) (lf (vn .u8 0)) (lf (vn .u8 1)) .e) 4 5 1))], 3,
 (.tup [(.sl 10 0 2 none), (vn .i64 0)]), false, [(10, (.cells (.n (some (vn .u8 1)) (lf (vn .u8 0)) .e .e .e) 2 5 1))], [], 11⟩
theorem m5_ok : MemoOk K0 243 m5 := memo_ok k0_base S1_243_ok (N := 300) (by decide +kernel)
noncomputable def m6 : Memo := ⟨[(.agg [(vn .i64 2), (vn .i64 2), (.sl 2 0 4 none)]), (vn .i64 1)],
 [(2, (.cells (.n (some (vn .u8 1)) (lf (vn .u8 0)) (lf (vn .u8 0)) (lf (vn .u8 1)) .e) 4 5 1))], 3,
 (.tup [(.sl 10 0 2 none), (vn .i64 0)]), false, [(10, (.cells (.n (some (vn .u8 0)) (lf (vn .u8 1)) .e .e .e) 2 5 1))], [], 11⟩
theorem m6_ok : MemoOk K0 243 m6 := memo_ok k0_base S1_243_ok (N := 300) (by decide +kernel)
noncomputable def m7 : Memo := ⟨[(vn .u8 1), (.sl 2 0 2 none)],
 [(2, (.cells (.n (some (vn .u8 0)) (lf (vn .u8 1)) .e .e .e) 2 5 1))], 3,
 (.sl 6 0 2 none), false, [(6, (.cells (.n (some (vn .u8 0)) (lf (vn .u8 1)) .e .e .e) 2 5 1))], [], 7⟩
theorem m7_ok : MemoOk K0 325 m7 := memo_ok k0_base S1_325_ok (N := 300) (by decide +kernel)
noncomputable def m11 : Memo := ⟨[(.agg [(vn .i64 3), (vn .i64 2), (.sl 2 0 6 none)]), (vn .i64 0)],
 [(2, (.cells (.n (some (vn .u8 1)) (.n (some (vn .u8 0)) (lf (vn .u8 2)) .e .e .e) (lf (vn .u8 0)) (lf (vn .u8 1)) (lf (vn .u8 3))) 6 5 1))], 3,
 (.tup [(.sl 10 0 2 none), (vn .i64 0)]), false, [(10, (.cells (.n (some (vn .u8 1)) (lf (vn .u8 0)) .e .e .e) 2 5 1))], [], 11⟩
theorem m11_ok : MemoOk K0 243 m11 := memo_ok k0_base S1_243_ok (N := 300) (by decide +kernel)
noncomputable def m12 : Memo := ⟨[(.agg [(vn .i64 3), (vn .i64 2), (.sl 2 0 6 none)]), (vn .i64 1)],
 [(2, (.cells (.n (some (vn .u8 1)) (.n (some (vn .u8 0)) (lf (vn .u8 2)) .e .e .e) (lf (vn .u8 0)) (lf (vn .u8 1)) (lf (vn .u8 3))) 6 5 1))], 3,
 (.tup [(.sl 10 0 2 none), (vn .i64 0)]), false, [(10, (.cells (.n (some (vn .u8 0)) (lf (vn .u8 1)) .e .e .e) 2 5 1))], [], 11⟩
theorem m12_ok : MemoOk K0 243 m12 := memo_ok k0_base S1_243_ok (N := 300) (by decide +kernel)
noncomputable def m13 : Memo := ⟨[(.agg [(vn .i64 3), (vn .i64 2), (.sl 2 0 6 none)]), (vn .i64 2)],
 [(2, (.cells (.n (some (vn .u8 1)) (.n (some (vn .u8 0)) (lf (vn .u8 2)) .e .e .e) (lf (vn .u8 0)) (lf (vn .u8 1)) (lf (vn .u8 3))) 6 5 1))], 3,
 (.tup [(.sl 10 0 2 none), (vn .i64 0)]), false, [(10, (.cells (.n (some (vn .u8 3)) (lf (vn .u8 2)) .e .e .e) 2 5 1))], [], 11⟩
theorem m13_ok : MemoOk K0 243 m13 := memo_ok k0_base S1_243_ok (N := 300) (by decide +kernel)
noncomputable def m14 : Memo := ⟨[(.agg [(vn .i64 3), (vn .i64 2), (.sl 2 0 6 none)]), (vn .i64 0)],
 [(2, (.cells (.n (some (vn .u8 1)) (.n (some (vn .u8 0)) (lf (vn .u8 2)) .e .e .e) (lf (vn .u8 0)) (lf (vn .u8 1)) (lf (vn .u8 0))) 6 5 1))], 3,
 (.tup [(.sl 10 0 2 none), (vn .i64 0)]), false, [(10, (.cells (.n (some (vn .u8 1)) (lf (vn .u8 0)) .e .e .e) 2 5 1))], [], 11⟩
theorem m14_ok : MemoOk K0 243 m14 := memo_ok k0_base S1_243_ok (N := 300) (by decide +kernel)
noncomputable def m15 : Memo := ⟨[(.agg [(vn .i64 3), (vn .i64 2), (.sl 2 0 6 none)]), (vn .i64 1)],
 [(2, (.cells (.n (some (vn .u8 1)) (.n (some (vn .u8 0)) (lf (vn .u8 2)) .e .e .e) (lf (vn .u8 0)) (lf (vn .u8 1)) (lf (vn .u8 0))) 6 5 1))], 3,
 (.tup [(.sl 10 0 2 none), (vn .i64 0)]), false, [(10, (.cells (.n (some (vn .u8 0)) (lf (vn .u8 1)) .e .e .e) 2 5 1))], [], 11⟩
theorem m15_ok : MemoOk K0 243 m15 := memo_ok k0_base S1_243_ok (N := 300) (by decide +kernel)
noncomputable def m16 : Memo := ⟨[(.agg [(vn .i64 3), (vn .i64 2), (.sl 2 0 6 none)]), (vn .i64 2)],
 [(2, (.cells (.n (some (vn .u8 1)) (.n (some (vn .u8 0)) (lf (vn .u8 2)) .e .e .e) (lf (vn .u8 0)) (lf (vn .u8 1)) (lf (vn .u8 0))) 6 5 1))], 3,
 (.tup [(.sl 10 0 2 none), (vn .i64 0)]), false, [(10, (.cells (.n (some (vn .u8 0)) (lf (vn .u8 2)) .e .e .e) 2 5 1))], [], 11⟩
theorem m16_ok : MemoOk K0 243 m16 := memo_ok k0_base S1_243_ok (N := 300) (by decide +kernel)
noncomputable def m20 : Memo := ⟨[(vn .u8 3)],
 [], 2,
 (.tup [(vn .u8 244), (vn .i64 0)]), true, [], [], 2⟩
theorem m20_ok : MemoOk K0 324 m20 := memo_ok k0_base S1_324_ok (N := 300) (by decide +kernel)
noncomputable def m21 : Memo := ⟨[(vn .u64 0)],
 [], 2,
 .nilsl, true, [], [], 2⟩
theorem m21_ok : MemoOk K0 233 m21 := memo_ok k0_base S1_233_ok (N := 300) (by decide +kernel)
noncomputable def m22 : Memo := ⟨[(vn .u64 1)],
 [], 2,
 (.sl 3 0 1 none), false, [(3, (.cells (lf (vn .i64 0)) 1 3 1))], [], 4⟩
theorem m22_ok : MemoOk K0 233 m22 := memo_ok k0_base S1_233_ok (N := 300) (by decide +kernel)
noncomputable def m23 : Memo := ⟨[(vn .u64 2)],
 [], 2,
 (.sl 3 0 1 none), false, [(3, (.cells (lf (vn .i64 1)) 1 3 1))], [], 4⟩
theorem m23_ok : MemoOk K0 233 m23 := memo_ok k0_base S1_233_ok (N := 300) (by decide +kernel)
noncomputable def m24 : Memo := ⟨[(vn .u64 4)],
 [], 2,
 (.sl 3 0 1 none), false, [(3, (.cells (lf (vn .i64 2)) 1 3 1))], [], 4⟩
theorem m24_ok : MemoOk K0 233 m24 := memo_ok k0_base S1_233_ok (N := 300) (by decide +kernel)
noncomputable def m25 : Memo := ⟨[(vn .u64 7)],
 [], 2,
 (.sl 7 0 3 none), false, [(7, (.cells (.n (some (vn .i64 0)) (lf (vn .i64 1)) (lf (vn .i64 2)) .e .e) 3 3 1))], [], 8⟩
theorem m25_ok : MemoOk K0 233 m25 := memo_ok k0_base S1_233_ok (N := 300) (by decide +kernel)
noncomputable def m27 : Memo := ⟨[(vn .u64 6)],
 [], 2,
 (.sl 5 0 2 none), false, [(5, (.cells (.n (some (vn .i64 1)) (lf (vn .i64 2)) .e .e .e) 2 3 1))], [], 6⟩
theorem m27_ok : MemoOk K0 233 m27 := memo_ok k0_base S1_233_ok (N := 300) (by decide +kernel)
noncomputable def m28 : Memo := ⟨[(.agg [(vn .i64 2), (vn .i64 2), (.sl 2 0 4 none)]), (vn .i64 1)],
 [(2, (.cells (.n (some (vn .u8 0)) (lf (vn .u8 1)) (lf (vn .u8 3)) (lf (vn .u8 2)) .e) 4 5 1))], 3,
 (.tup [(.sl 10 0 2 none), (vn .i64 0)]), false, [(10, (.cells (.n (some (vn .u8 3)) (lf (vn .u8 2)) .e .e .e) 2 5 1))], [], 11⟩
theorem m28_ok : MemoOk K0 243 m28 := memo_ok k0_base S1_243_ok (N := 300) (by decide +kernel)
noncomputable def m29 : Memo := ⟨[(.agg [(vn .i64 2), (vn .i64 2), (.sl 2 0 4 none)]), (vn .i64 0)],
 [(2, (.cells (.n (some (vn .u8 0)) (lf (vn .u8 1)) (lf (vn .u8 3)) (lf (vn .u8 2)) .e) 4 5 1))], 3,
 (.tup [(.sl 10 0 2 none), (vn .i64 0)]), false, [(10, (.cells (.n (some (vn .u8 0)) (lf (vn .u8 1)) .e .e .e) 2 5 1))], [], 11⟩
theorem m29_ok : MemoOk K0 243 m29 := memo_ok k0_base S1_243_ok (N := 300) (by decide +kernel)
noncomputable def m30 : Memo := ⟨[(.agg [(vn .i64 2), (vn .i64 2), (.sl 2 0 4 none)]), (vn .i64 0)],
 [(2, (.cells (.n (some (vn .u8 3)) (lf (vn .u8 2)) (lf (vn .u8 0)) (lf (vn .u8 1)) .e) 4 5 1))], 3,
 (.tup [(.sl 10 0 2 none), (vn .i64 0)]), false, [(10, (.cells (.n (some (vn .u8 3)) (lf (vn .u8 2)) .e .e .e) 2 5 1))], [], 11⟩
theorem m30_ok : MemoOk K0 243 m30 := memo_ok k0_base S1_243_ok (N := 300) (by decide +kernel)
noncomputable def m31 : Memo := ⟨[(vn .u8 244), (.sl 2 0 2 none)],
 [(2, (.cells (.n (some (vn .u8 3)) (lf (vn .u8 2)) .e .e .e) 2 5 1))], 3,
 (.sl 6 0 2 none), false, [(6, (.cells (.n (some (vn .u8 1)) (lf (vn .u8 245)) .e .e .e) 2 5 1))], [], 7⟩
theorem m31_ok : MemoOk K0 325 m31 := memo_ok k0_base S1_325_ok (N := 300) (by decide +kernel)
end Go.AE
