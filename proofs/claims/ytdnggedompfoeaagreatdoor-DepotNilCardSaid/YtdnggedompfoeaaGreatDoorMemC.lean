/- Calls of this program at fixed arguments, each carried out once by the kernel: what it answers and what memory it leaves. -/
import Derived.Test.YtdnggedompfoeaaGreatDoorMemB
set_option linter.unusedVariables false
set_option linter.unusedSimpArgs false
set_option maxRecDepth 100000
namespace Go.AE
noncomputable def l2_221 : List (Nat × Sm) := [(243, known K0.g [m1, m2, m5, m6, m11, m12, m13, m14, m15, m16, m28, m29, m30, m32, m33, m37, m38, m39, m40, m48, m55, m75] (fun _ _ _ _ => .fail)), (324, known K0.g [m3, m20, m41] (fun _ _ _ _ => .fail)), (325, known K0.g [m4, m7, m31, m42] (fun _ _ _ _ => .fail))]
theorem l2_221_ok : AllS K0 l2_221 := (AllS.cons (known_ok sum_fail (AllM.cons m1_ok (AllM.cons m2_ok (AllM.cons m5_ok (AllM.cons m6_ok (AllM.cons m11_ok (AllM.cons m12_ok (AllM.cons m13_ok (AllM.cons m14_ok (AllM.cons m15_ok (AllM.cons m16_ok (AllM.cons m28_ok (AllM.cons m29_ok (AllM.cons m30_ok (AllM.cons m32_ok (AllM.cons m33_ok (AllM.cons m37_ok (AllM.cons m38_ok (AllM.cons m39_ok (AllM.cons m40_ok (AllM.cons m48_ok (AllM.cons m55_ok (AllM.cons m75_ok AllM.nil))))))))))))))))))))))) (AllS.cons (known_ok sum_fail (AllM.cons m3_ok (AllM.cons m20_ok (AllM.cons m41_ok AllM.nil)))) (AllS.cons (known_ok sum_fail (AllM.cons m4_ok (AllM.cons m7_ok (AllM.cons m31_ok (AllM.cons m42_ok AllM.nil))))) AllS.nil)))
noncomputable def S2_221 : FuncId → Option Sm := fun f => pick1 l2_221 f
theorem S2_221_ok : ∀ f k, S2_221 f = some k → SumOk K0 f k := pick1_ok l2_221_ok
noncomputable def l2_260 : List (Nat × Sm) := [(312, known K0.g [m81] (fun _ _ _ _ => .fail))]
theorem l2_260_ok : AllS K0 l2_260 := (AllS.cons (known_ok sum_fail (AllM.cons m81_ok AllM.nil)) AllS.nil)
noncomputable def S2_260 : FuncId → Option Sm := fun f => pick1 l2_260 f
theorem S2_260_ok : ∀ f k, S2_260 f = some k → SumOk K0 f k := pick1_ok l2_260_ok
noncomputable def l2_281 : List (Nat × Sm) := [(233, known K0.g [m21] (fun _ _ _ _ => .fail)), (221, known K0.g [m50] (fun _ _ _ _ => .fail))]
theorem l2_281_ok : AllS K0 l2_281 := (AllS.cons (known_ok sum_fail (AllM.cons m21_ok AllM.nil)) (AllS.cons (known_ok sum_fail (AllM.cons m50_ok AllM.nil)) AllS.nil))
noncomputable def S2_281 : FuncId → Option Sm := fun f => pick1 l2_281 f
theorem S2_281_ok : ∀ f k, S2_281 f = some k → SumOk K0 f k := pick1_ok l2_281_ok
noncomputable def l2_311 : List (Nat × Sm) := [(312, known K0.g [m81] (fun _ _ _ _ => .fail))]
theorem l2_311_ok : AllS K0 l2_311 := (AllS.cons (known_ok sum_fail (AllM.cons m81_ok AllM.nil)) AllS.nil)
noncomputable def S2_311 : FuncId → Option Sm := fun f => pick1 l2_311 f
theorem S2_311_ok : ∀ f k, S2_311 f = some k → SumOk K0 f k := pick1_ok l2_311_ok
noncomputable def l2_334 : List (Nat × Sm) := [(324, known K0.g [m3, m20, m41] (fun _ _ _ _ => .fail))]
theorem l2_334_ok : AllS K0 l2_334 := (AllS.cons (known_ok sum_fail (AllM.cons m3_ok (AllM.cons m20_ok (AllM.cons m41_ok AllM.nil)))) AllS.nil)
noncomputable def S2_334 : FuncId → Option Sm := fun f => pick1 l2_334 f
theorem S2_334_ok : ∀ f k, S2_334 f = some k → SumOk K0 f k := pick1_ok l2_334_ok
noncomputable def l2_339 : List (Nat × Sm) := [(312, known K0.g [m81] (fun _ _ _ _ => .fail))]
theorem l2_339_ok : AllS K0 l2_339 := (AllS.cons (known_ok sum_fail (AllM.cons m81_ok AllM.nil)) AllS.nil)
noncomputable def S2_339 : FuncId → Option Sm := fun f => pick1 l2_339 f
theorem S2_339_ok : ∀ f k, S2_339 f = some k → SumOk K0 f k := pick1_ok l2_339_ok
noncomputable def m8 : Memo := ⟨[(.agg [(vn .i64 2), (vn .i64 2), (.sl 2 0 4 none)])],
 [(2, (.cells (.n (some (vn .u8 1)) (lf (vn .u8 0)) (lf (vn .u8 1)) (lf (vn .u8 1)) .e) 4 5 1))], 3,
 (.tup [(vn .i64 2), (vn .i64 0)]), true, [], [], 269⟩
theorem m8_ok : MemoOk K0 221 m8 := memo_ok k0_base S2_221_ok (N := 300) (by decide +kernel)
noncomputable def m9 : Memo := ⟨[(.agg [(vn .i64 2), (vn .i64 3), (.sl 2 0 6 none)])],
 [(2, (.cells (.n (some (vn .u8 1)) (.n (some (vn .u8 0)) (lf (vn .u8 0)) .e .e .e) (lf (vn .u8 1)) (lf (vn .u8 1)) (lf (vn .u8 1))) 6 5 1))], 3,
 (.tup [(.agg [(vn .i64 2), (vn .i64 3), (.sl 2 0 6 none)]), (.sl 284 0 2 none)]), false, [(2, (.cells (.n (some (vn .u8 1)) (.n (some (vn .u8 0)) (lf (vn .u8 1)) .e .e .e) (lf (vn .u8 1)) (lf (vn .u8 0)) (lf (vn .u8 1))) 6 5 1)), (284, (.cells (.n (some (vn .i64 0)) (lf (vn .i64 1)) .e .e .e) 2 3 1))], [2], 285⟩
theorem m9_ok : MemoOk K0 334 m9 := memo_ok k0_base S2_334_ok (N := 300) (by decide +kernel)
noncomputable def m10 : Memo := ⟨[(.agg [(vn .i64 2), (vn .i64 3), (.sl 2 0 6 none)])],
 [(2, (.cells (.n (some (vn .u8 1)) (.n (some (vn .u8 0)) (lf (vn .u8 1)) .e .e .e) (lf (vn .u8 0)) (lf (vn .u8 1)) (lf (vn .u8 1))) 6 5 1))], 3,
 (.tup [(.agg [(vn .i64 2), (vn .i64 3), (.sl 2 0 6 none)]), (.sl 284 0 2 none)]), false, [(2, (.cells (.n (some (vn .u8 1)) (.n (some (vn .u8 0)) (lf (vn .u8 1)) .e .e .e) (lf (vn .u8 0)) (lf (vn .u8 0)) (lf (vn .u8 1))) 6 5 1)), (284, (.cells (.n (some (vn .i64 0)) (lf (vn .i64 1)) .e .e .e) 2 3 1))], [2], 285⟩
theorem m10_ok : MemoOk K0 334 m10 := memo_ok k0_base S2_334_ok (N := 300) (by decide +kernel)
noncomputable def m17 : Memo := ⟨[(.agg [(vn .i64 3), (vn .i64 2), (.sl 2 0 6 (some 6))])],
 [(2, (.cells (.n (some (vn .u8 1)) (.n (some (vn .u8 0)) (lf (vn .u8 2)) .e .e .e) (lf (vn .u8 0)) (lf (vn .u8 1)) (lf (vn .u8 3))) 6 5 1))], 3,
 (.tup [(vn .i64 2), (vn .i64 0)]), true, [], [], 415⟩
theorem m17_ok : MemoOk K0 221 m17 := memo_ok k0_base S2_221_ok (N := 300) (by decide +kernel)
noncomputable def m19 : Memo := ⟨[(.agg [(vn .i64 3), (vn .i64 2), (.sl 2 0 6 none)])],
 [(2, (.cells (.n (some (vn .u8 1)) (.n (some (vn .u8 0)) (lf (vn .u8 2)) .e .e .e) (lf (vn .u8 0)) (lf (vn .u8 1)) (lf (vn .u8 3))) 6 5 1))], 3,
 (.tup [(vn .i64 2), (vn .i64 0)]), true, [], [], 415⟩
theorem m19_ok : MemoOk K0 221 m19 := memo_ok k0_base S2_221_ok (N := 300) (by decide +kernel)
noncomputable def m34 : Memo := ⟨[(.agg [(vn .i64 2), (vn .i64 2), (.sl 2 0 4 none)])],
 [(2, (.cells (.n (some (vn .u8 0)) (lf (vn .u8 1)) (lf (vn .u8 3)) (lf (vn .u8 2)) .e) 4 5 1))], 3,
 (.tup [(vn .i64 2), (vn .i64 0)]), true, [], [], 270⟩
theorem m34_ok : MemoOk K0 221 m34 := memo_ok k0_base S2_221_ok (N := 300) (by decide +kernel)
noncomputable def m43 : Memo := ⟨[(.agg [(vn .i64 2), (vn .i64 2), (.sl 2 0 4 none)])],
 [(2, (.cells (.n (some (vn .u8 1)) (lf (vn .u8 0)) (lf (vn .u8 3)) (lf (vn .u8 2)) .e) 4 5 1))], 3,
 (.tup [(vn .i64 2), (vn .i64 0)]), true, [], [], 269⟩
theorem m43_ok : MemoOk K0 221 m43 := memo_ok k0_base S2_221_ok (N := 300) (by decide +kernel)
noncomputable def m46 : Memo := ⟨[(.agg [(vn .i64 2), (vn .i64 2), (.sl 2 0 4 none)])],
 [(2, (.cells (.n (some (vn .u8 1)) (lf (vn .u8 0)) (lf (vn .u8 0)) (lf (vn .u8 1)) .e) 4 5 1))], 3,
 (.tup [(vn .i64 2), (vn .i64 0)]), true, [], [], 269⟩
theorem m46_ok : MemoOk K0 221 m46 := memo_ok k0_base S2_221_ok (N := 300) (by decide +kernel)
noncomputable def m49 : Memo := ⟨[(.agg [(vn .i64 1), (vn .i64 2), (.sl 2 0 2 none)])],
 [(2, (.cells (.n (some (vn .u8 1)) (lf (vn .u8 0)) .e .e .e) 2 5 1))], 3,
 (.tup [(vn .i64 1), (vn .i64 0)]), true, [], [], 68⟩
theorem m49_ok : MemoOk K0 221 m49 := memo_ok k0_base S2_221_ok (N := 300) (by decide +kernel)
noncomputable def m51 : Memo := ⟨[(.agg [(vn .i64 1), (vn .i64 2), (.sl 2 0 2 none)])],
 [(2, (.cells (.n (some (vn .u8 1)) (lf (vn .u8 0)) (lf (vn .u8 0)) (lf (vn .u8 1)) .e) 4 5 1))], 3,
 (.tup [(vn .i64 1), (vn .i64 0)]), true, [], [], 68⟩
theorem m51_ok : MemoOk K0 221 m51 := memo_ok k0_base S2_221_ok (N := 300) (by decide +kernel)
noncomputable def m52 : Memo := ⟨[(.agg [(vn .i64 2), (vn .i64 3), (.sl 2 0 6 none)])],
 [(2, (.cells (.n (some (vn .u8 1)) (.n (some (vn .u8 0)) (lf (vn .u8 0)) .e .e .e) (lf (vn .u8 1)) (lf (vn .u8 0)) (lf (vn .u8 1))) 6 5 1))], 3,
 (.tup [(.agg [(vn .i64 2), (vn .i64 3), (.sl 2 0 6 none)]), (.sl 284 0 2 none)]), false, [(284, (.cells (.n (some (vn .i64 0)) (lf (vn .i64 1)) .e .e .e) 2 3 1))], [], 285⟩
theorem m52_ok : MemoOk K0 334 m52 := memo_ok k0_base S2_334_ok (N := 300) (by decide +kernel)
noncomputable def m53 : Memo := ⟨[(.agg [(vn .i64 2), (vn .i64 3), (.sl 2 0 6 none)])],
 [(2, (.cells (.n (some (vn .u8 1)) (.n (some (vn .u8 0)) (lf (vn .u8 1)) .e .e .e) (lf (vn .u8 0)) (lf (vn .u8 0)) (lf (vn .u8 1))) 6 5 1))], 3,
 (.tup [(.agg [(vn .i64 2), (vn .i64 3), (.sl 2 0 6 none)]), (.sl 284 0 2 none)]), false, [(284, (.cells (.n (some (vn .i64 0)) (lf (vn .i64 1)) .e .e .e) 2 3 1))], [], 285⟩
theorem m53_ok : MemoOk K0 334 m53 := memo_ok k0_base S2_334_ok (N := 300) (by decide +kernel)
noncomputable def m56 : Memo := ⟨[(.agg [(vn .i64 1), (vn .i64 2), (.sl 2 0 2 none)])],
 [(2, (.cells (.n (some (vn .u8 0)) (lf (vn .u8 1)) .e .e .e) 2 5 1))], 3,
 (.tup [(vn .i64 1), (vn .i64 0)]), true, [], [], 69⟩
theorem m56_ok : MemoOk K0 221 m56 := memo_ok k0_base S2_221_ok (N := 300) (by decide +kernel)
noncomputable def m57 : Memo := ⟨[(.agg [(vn .i64 1), (vn .i64 2), (.sl 2 0 2 none)])],
 [(2, (.cells (.n (some (vn .u8 0)) (lf (vn .u8 1)) (lf (vn .u8 3)) (lf (vn .u8 2)) .e) 4 5 1))], 3,
 (.tup [(vn .i64 1), (vn .i64 0)]), true, [], [], 69⟩
theorem m57_ok : MemoOk K0 221 m57 := memo_ok k0_base S2_221_ok (N := 300) (by decide +kernel)
noncomputable def m60 : Memo := ⟨[(.agg [(vn .i64 2), (vn .i64 3), (.sl 2 0 6 none)])],
 [(2, (.cells (.n (some (vn .u8 0)) (.n (some (vn .u8 3)) (lf (vn .u8 0)) .e .e .e) (lf (vn .u8 1)) (lf (vn .u8 1)) (lf (vn .u8 2))) 6 5 1))], 3,
 (.tup [(.agg [(vn .i64 2), (vn .i64 3), (.sl 2 0 6 none)]), (.sl 285 0 2 none)]), false, [(2, (.cells (.n (some (vn .u8 1)) (.n (some (vn .u8 0)) (lf (vn .u8 244)) .e .e .e) (lf (vn .u8 245)) (lf (vn .u8 0)) (lf (vn .u8 1))) 6 5 1)), (285, (.cells (.n (some (vn .i64 0)) (lf (vn .i64 1)) .e .e .e) 2 3 1))], [2], 286⟩
theorem m60_ok : MemoOk K0 334 m60 := memo_ok k0_base S2_334_ok (N := 300) (by decide +kernel)
noncomputable def m61 : Memo := ⟨[(.agg [(vn .i64 2), (vn .i64 3), (.sl 2 0 6 none)])],
 [(2, (.cells (.n (some (vn .u8 0)) (.n (some (vn .u8 3)) (lf (vn .u8 1)) .e .e .e) (lf (vn .u8 0)) (lf (vn .u8 1)) (lf (vn .u8 2))) 6 5 1))], 3,
 (.tup [(.agg [(vn .i64 2), (vn .i64 3), (.sl 2 0 6 none)]), (.sl 285 0 2 none)]), false, [(2, (.cells (.n (some (vn .u8 1)) (.n (some (vn .u8 0)) (lf (vn .u8 0)) .e .e .e) (lf (vn .u8 1)) (lf (vn .u8 0)) (lf (vn .u8 1))) 6 5 1)), (285, (.cells (.n (some (vn .i64 0)) (lf (vn .i64 1)) .e .e .e) 2 3 1))], [2], 286⟩
theorem m61_ok : MemoOk K0 334 m61 := memo_ok k0_base S2_334_ok (N := 300) (by decide +kernel)
noncomputable def m64 : Memo := ⟨[(.agg [(vn .i64 1), (vn .i64 2), (.sl 2 0 2 none)])],
 [(2, (.cells (.n (some (vn .u8 1)) (lf (vn .u8 0)) (lf (vn .u8 3)) (lf (vn .u8 2)) .e) 4 5 1))], 3,
 (.tup [(vn .i64 1), (vn .i64 0)]), true, [], [], 68⟩
theorem m64_ok : MemoOk K0 221 m64 := memo_ok k0_base S2_221_ok (N := 300) (by decide +kernel)
noncomputable def m67 : Memo := ⟨[(.agg [(vn .i64 2), (vn .i64 3), (.sl 2 0 6 none)])],
 [(2, (.cells (.n (some (vn .u8 1)) (.n (some (vn .u8 3)) (lf (vn .u8 0)) .e .e .e) (lf (vn .u8 1)) (lf (vn .u8 0)) (lf (vn .u8 2))) 6 5 1))], 3,
 (.tup [(.agg [(vn .i64 2), (vn .i64 3), (.sl 2 0 6 none)]), (.sl 284 0 2 none)]), false, [(2, (.cells (.n (some (vn .u8 1)) (.n (some (vn .u8 0)) (lf (vn .u8 0)) .e .e .e) (lf (vn .u8 1)) (lf (vn .u8 0)) (lf (vn .u8 1))) 6 5 1)), (284, (.cells (.n (some (vn .i64 0)) (lf (vn .i64 1)) .e .e .e) 2 3 1))], [2], 285⟩
theorem m67_ok : MemoOk K0 334 m67 := memo_ok k0_base S2_334_ok (N := 300) (by decide +kernel)
noncomputable def m68 : Memo := ⟨[(.agg [(vn .i64 2), (vn .i64 3), (.sl 2 0 6 none)])],
 [(2, (.cells (.n (some (vn .u8 1)) (.n (some (vn .u8 3)) (lf (vn .u8 1)) .e .e .e) (lf (vn .u8 0)) (lf (vn .u8 0)) (lf (vn .u8 2))) 6 5 1))], 3,
 (.tup [(.agg [(vn .i64 2), (vn .i64 3), (.sl 2 0 6 none)]), (.sl 284 0 2 none)]), false, [(2, (.cells (.n (some (vn .u8 1)) (.n (some (vn .u8 0)) (lf (vn .u8 142)) .e .e .e) (lf (vn .u8 143)) (lf (vn .u8 0)) (lf (vn .u8 1))) 6 5 1)), (284, (.cells (.n (some (vn .i64 0)) (lf (vn .i64 1)) .e .e .e) 2 3 1))], [2], 285⟩
theorem m68_ok : MemoOk K0 334 m68 := memo_ok k0_base S2_334_ok (N := 300) (by decide +kernel)
noncomputable def m72 : Memo := ⟨[(.agg [(vn .i64 3), (vn .i64 2), (.sl 2 0 6 none)]), (vn .u64 0)],
 [(2, (.cells (.n (some (vn .u8 1)) (.n (some (vn .u8 0)) (lf (vn .u8 2)) .e .e .e) (lf (vn .u8 0)) (lf (vn .u8 1)) (lf (vn .u8 3))) 6 5 1))], 3,
 (.tup [(vn .i64 0), (vn .i64 0)]), true, [], [], 30⟩
theorem m72_ok : MemoOk K0 281 m72 := memo_ok k0_base S2_281_ok (N := 300) (by decide +kernel)
noncomputable def m76 : Memo := ⟨[(.agg [(vn .i64 1), (vn .i64 2), (.sl 2 0 2 none)])],
 [(2, (.cells (.n (some (vn .u8 3)) (lf (vn .u8 2)) .e .e .e) 2 5 1))], 3,
 (.tup [(vn .i64 1), (vn .i64 0)]), true, [], [], 68⟩
theorem m76_ok : MemoOk K0 221 m76 := memo_ok k0_base S2_221_ok (N := 300) (by decide +kernel)
noncomputable def m78 : Memo := ⟨[(.agg [(vn .i64 2), (vn .i64 3), (.sl 2 0 6 none)])],
 [(2, (.cells (.n (some (vn .u8 1)) (.n (some (vn .u8 0)) (lf (vn .u8 2)) .e .e .e) (lf (vn .u8 3)) (lf (vn .u8 0)) (lf (vn .u8 1))) 6 5 1))], 3,
 (.tup [(.agg [(vn .i64 2), (vn .i64 3), (.sl 2 0 6 none)]), (.sl 284 0 2 none)]), false, [(284, (.cells (.n (some (vn .i64 0)) (lf (vn .i64 1)) .e .e .e) 2 3 1))], [], 285⟩
theorem m78_ok : MemoOk K0 334 m78 := memo_ok k0_base S2_334_ok (N := 300) (by decide +kernel)
end Go.AE
