/-
  Texts merged for this claim by shake.py: what its proof needs.
-/
import Derived.Tactics
import Derived.Below
import Derived.Laws.AppendOwn
import Derived.Laws.OwnMore
import Derived.Laws.Slices
import Derived.Laws.Small
import Derived.Laws.Strings
import Derived.KernelRfl
import Derived.Laws.MakeOwn
import Derived.Laws.BytesString
import Derived.Laws.BytesArg
import Derived.Laws.Build
import Derived.Laws.Concat
import Derived.Laws.StructEq
import Derived.Lib.ConvBytes
import Derived.Orders
import Derived.WalkKit
import Derived.ProofKit
import Derived.ShutString
import Derived.OpenShut
import Derived.ChangeOld
import Derived.Carry
import Derived.Test.YtkkcfgfkabkjhaaGreatChecked
import Derived.Laws.BitsLemmas
import Derived.JoinedOf
import Derived.Test.YtkkcfgfkabkjhaaGreatRows
import Derived.Test.YtkkcfgfkabkjhaaGreatZFnExactLandsB
set_option maxHeartbeats 16000000
set_option maxRecDepth 100000
set_option linter.unusedVariables false
set_option linter.unusedSimpArgs false
namespace Go.Proofs.YtkkcfgfkabkjhaaGreat
section
theorem tl_2 : tload Tryz.prog 2 = some none := by kernel_rfl
theorem ts_2 : tst Tryz.prog 2 = some 1 := by kernel_rfl
theorem tz_2 : tz Tryz.prog 2 = some [.int .i64 0] := by kernel_rfl
theorem tl_3 : tload Tryz.prog 3 = some none := by kernel_rfl
theorem ts_3 : tst Tryz.prog 3 = some 1 := by kernel_rfl
theorem tz_3 : tz Tryz.prog 3 = some [.int .i64 0] := by kernel_rfl
theorem tl_4 : tload Tryz.prog 4 = some none := by kernel_rfl
theorem ts_4 : tst Tryz.prog 4 = some 1 := by kernel_rfl
theorem tz_4 : tz Tryz.prog 4 = some [.bo false] := by kernel_rfl
theorem tbo_4 : tbool Tryz.prog 4 = true := by kernel_rfl
theorem tl_5 : tload Tryz.prog 5 = some none := by kernel_rfl
theorem ts_5 : tst Tryz.prog 5 = some 1 := by kernel_rfl
theorem tz_5 : tz Tryz.prog 5 = some [.int .u8 0] := by kernel_rfl
theorem tl_9 : tload Tryz.prog 9 = some none := by kernel_rfl
theorem ts_9 : tst Tryz.prog 9 = some 1 := by kernel_rfl
theorem tz_9 : tz Tryz.prog 9 = some [.st []] := by kernel_rfl
theorem tstr_9 : tstr Tryz.prog 9 = true := by kernel_rfl
theorem tl_12 : tload Tryz.prog 12 = some none := by kernel_rfl
theorem ts_12 : tst Tryz.prog 12 = some 1 := by kernel_rfl
theorem tz_12 : tz Tryz.prog 12 = some [.int .u64 0] := by kernel_rfl
theorem tl_21 : tload Tryz.prog 21 = some none := by kernel_rfl
theorem ts_21 : tst Tryz.prog 21 = some 1 := by kernel_rfl
theorem tz_21 : tz Tryz.prog 21 = some [.int .i32 0] := by kernel_rfl
theorem tl_22 : tload Tryz.prog 22 = some (some 2) := by kernel_rfl
theorem ts_22 : tst Tryz.prog 22 = some 2 := by kernel_rfl
theorem tz_22 : tz Tryz.prog 22 = some [.int .i64 0, .int .i64 0] := by kernel_rfl
theorem tsz_22 : tsz Tryz.prog 22 = 2 := by kernel_rfl
theorem tag_22 : tagg Tryz.prog 22 = true := by kernel_rfl
theorem tb_22 : tbuild Tryz.prog 22 = some [.int .i64 0, .int .i64 0] := by kernel_rfl
theorem tf_22_0 : tfld Tryz.prog 22 0 = some (0, 1) := by kernel_rfl
theorem tf_22_1 : tfld Tryz.prog 22 1 = some (1, 1) := by kernel_rfl
theorem tl_23 : tload Tryz.prog 23 = some (some 2) := by kernel_rfl
theorem ts_23 : tst Tryz.prog 23 = some 2 := by kernel_rfl
theorem tz_23 : tz Tryz.prog 23 = some [.int .i64 0, .int .i64 0] := by kernel_rfl
theorem tsz_23 : tsz Tryz.prog 23 = 2 := by kernel_rfl
theorem tag_23 : tagg Tryz.prog 23 = true := by kernel_rfl
theorem tb_23 : tbuild Tryz.prog 23 = some [.int .i64 0, .int .i64 0] := by kernel_rfl
theorem tf_23_0 : tfld Tryz.prog 23 0 = some (0, 1) := by kernel_rfl
theorem tf_23_1 : tfld Tryz.prog 23 1 = some (1, 1) := by kernel_rfl
theorem tl_24 : tload Tryz.prog 24 = some none := by kernel_rfl
theorem ts_24 : tst Tryz.prog 24 = some 1 := by kernel_rfl
theorem tz_24 : tz Tryz.prog 24 = some [.nil] := by kernel_rfl
theorem tsl_24 : tsl Tryz.prog 24 = some (89, 4) := by kernel_rfl
theorem tl_25 : tload Tryz.prog 25 = some none := by kernel_rfl
theorem ts_25 : tst Tryz.prog 25 = some 1 := by kernel_rfl
theorem tz_25 : tz Tryz.prog 25 = some [.nil] := by kernel_rfl
theorem tsl_25 : tsl Tryz.prog 25 = some (233, 10) := by kernel_rfl
theorem tl_26 : tload Tryz.prog 26 = some none := by kernel_rfl
theorem ts_26 : tst Tryz.prog 26 = some 1 := by kernel_rfl
theorem tz_26 : tz Tryz.prog 26 = some [.nil] := by kernel_rfl
theorem tsl_26 : tsl Tryz.prog 26 = some (236, 8) := by kernel_rfl
theorem tl_27 : tload Tryz.prog 27 = some (some 3) := by kernel_rfl
theorem ts_27 : tst Tryz.prog 27 = some 3 := by kernel_rfl
theorem tz_27 : tz Tryz.prog 27 = some [.int .i64 0, .int .i64 0, .int .i64 0] := by kernel_rfl
theorem tsz_27 : tsz Tryz.prog 27 = 3 := by kernel_rfl
theorem tag_27 : tagg Tryz.prog 27 = true := by kernel_rfl
theorem tb_27 : tbuild Tryz.prog 27 = some [.int .i64 0, .int .i64 0, .int .i64 0] := by kernel_rfl
theorem tf_27_0 : tfld Tryz.prog 27 0 = some (0, 1) := by kernel_rfl
theorem tf_27_1 : tfld Tryz.prog 27 1 = some (1, 1) := by kernel_rfl
theorem tf_27_2 : tfld Tryz.prog 27 2 = some (2, 1) := by kernel_rfl
theorem tl_28 : tload Tryz.prog 28 = some (some 3) := by kernel_rfl
theorem ts_28 : tst Tryz.prog 28 = some 3 := by kernel_rfl
theorem tz_28 : tz Tryz.prog 28 = some [.int .i64 0, .int .i64 0, .int .i64 0] := by kernel_rfl
theorem tsz_28 : tsz Tryz.prog 28 = 3 := by kernel_rfl
theorem tag_28 : tagg Tryz.prog 28 = true := by kernel_rfl
theorem tb_28 : tbuild Tryz.prog 28 = some [.int .i64 0, .int .i64 0, .int .i64 0] := by kernel_rfl
theorem tf_28_0 : tfld Tryz.prog 28 0 = some (0, 1) := by kernel_rfl
theorem tf_28_1 : tfld Tryz.prog 28 1 = some (1, 1) := by kernel_rfl
theorem tf_28_2 : tfld Tryz.prog 28 2 = some (2, 1) := by kernel_rfl
theorem tl_29 : tload Tryz.prog 29 = some (some 4) := by kernel_rfl
theorem ts_29 : tst Tryz.prog 29 = some 4 := by kernel_rfl
theorem tz_29 : tz Tryz.prog 29 = some [.st [], .int .i64 0, .int .i64 0, .int .i64 0] := by kernel_rfl
theorem tsz_29 : tsz Tryz.prog 29 = 4 := by kernel_rfl
theorem tag_29 : tagg Tryz.prog 29 = true := by kernel_rfl
theorem tb_29 : tbuild Tryz.prog 29 = some [.st [], .int .i64 0, .int .i64 0, .int .i64 0] := by kernel_rfl
theorem tf_29_0 : tfld Tryz.prog 29 0 = some (0, 1) := by kernel_rfl
theorem tf_29_1 : tfld Tryz.prog 29 1 = some (1, 1) := by kernel_rfl
theorem tf_29_2 : tfld Tryz.prog 29 2 = some (2, 1) := by kernel_rfl
theorem tf_29_3 : tfld Tryz.prog 29 3 = some (3, 1) := by kernel_rfl
theorem tl_30 : tload Tryz.prog 30 = some (some 4) := by kernel_rfl
theorem ts_30 : tst Tryz.prog 30 = some 4 := by kernel_rfl
theorem tz_30 : tz Tryz.prog 30 = some [.st [], .int .i64 0, .int .i64 0, .int .i64 0] := by kernel_rfl
theorem tsz_30 : tsz Tryz.prog 30 = 4 := by kernel_rfl
theorem tag_30 : tagg Tryz.prog 30 = true := by kernel_rfl
theorem tb_30 : tbuild Tryz.prog 30 = some [.st [], .int .i64 0, .int .i64 0, .int .i64 0] := by kernel_rfl
theorem tf_30_0 : tfld Tryz.prog 30 0 = some (0, 1) := by kernel_rfl
theorem tf_30_1 : tfld Tryz.prog 30 1 = some (1, 1) := by kernel_rfl
theorem tf_30_2 : tfld Tryz.prog 30 2 = some (2, 1) := by kernel_rfl
theorem tf_30_3 : tfld Tryz.prog 30 3 = some (3, 1) := by kernel_rfl
theorem tl_31 : tload Tryz.prog 31 = some none := by kernel_rfl
theorem ts_31 : tst Tryz.prog 31 = some 1 := by kernel_rfl
theorem tz_31 : tz Tryz.prog 31 = some [.nil] := by kernel_rfl
theorem tsl_31 : tsl Tryz.prog 31 = some (271, 2) := by kernel_rfl
theorem tl_32 : tload Tryz.prog 32 = some (some 3) := by kernel_rfl
theorem ts_32 : tst Tryz.prog 32 = some 3 := by kernel_rfl
theorem tz_32 : tz Tryz.prog 32 = some [.int .i64 0, .st [], .nil] := by kernel_rfl
theorem tsz_32 : tsz Tryz.prog 32 = 3 := by kernel_rfl
theorem tag_32 : tagg Tryz.prog 32 = true := by kernel_rfl
theorem tb_32 : tbuild Tryz.prog 32 = some [.int .i64 0, .st [], .nil] := by kernel_rfl
theorem tf_32_0 : tfld Tryz.prog 32 0 = some (0, 1) := by kernel_rfl
theorem tf_32_1 : tfld Tryz.prog 32 1 = some (1, 1) := by kernel_rfl
theorem tf_32_2 : tfld Tryz.prog 32 2 = some (2, 1) := by kernel_rfl
theorem tl_33 : tload Tryz.prog 33 = some (some 3) := by kernel_rfl
theorem ts_33 : tst Tryz.prog 33 = some 3 := by kernel_rfl
theorem tz_33 : tz Tryz.prog 33 = some [.int .i64 0, .st [], .nil] := by kernel_rfl
theorem tsz_33 : tsz Tryz.prog 33 = 3 := by kernel_rfl
theorem tag_33 : tagg Tryz.prog 33 = true := by kernel_rfl
theorem tb_33 : tbuild Tryz.prog 33 = some [.int .i64 0, .st [], .nil] := by kernel_rfl
theorem tf_33_0 : tfld Tryz.prog 33 0 = some (0, 1) := by kernel_rfl
theorem tf_33_1 : tfld Tryz.prog 33 1 = some (1, 1) := by kernel_rfl
theorem tf_33_2 : tfld Tryz.prog 33 2 = some (2, 1) := by kernel_rfl
theorem tl_34 : tload Tryz.prog 34 = some none := by kernel_rfl
theorem ts_34 : tst Tryz.prog 34 = some 1 := by kernel_rfl
theorem tz_34 : tz Tryz.prog 34 = some [.nil] := by kernel_rfl
theorem tsl_34 : tsl Tryz.prog 34 = some (3, 1) := by kernel_rfl
theorem tl_35 : tload Tryz.prog 35 = some (some 25) := by kernel_rfl
theorem ts_35 : tst Tryz.prog 35 = some 25 := by kernel_rfl
theorem tz_35 : tz Tryz.prog 35 = some [.int .i64 0, .int .i64 0, .int .i64 0, .int .i64 0, .int .i64 0, .int .i64 0, .nil, .nil, .nil, .nil, .int .i64 0, .int .i64 0, .int .i64 0, .st [], .int .i64 0, .int .i64 0, .int .i64 0, .int .i64 0, .st [], .nil, .nil, .nil, .int .i64 0, .int .i64 0, .int .i64 0] := by kernel_rfl
theorem tsz_35 : tsz Tryz.prog 35 = 25 := by kernel_rfl
theorem tag_35 : tagg Tryz.prog 35 = true := by kernel_rfl
theorem tb_35 : tbuild Tryz.prog 35 = some [.int .i64 0, .int .i64 0, .int .i64 0, .int .i64 0, .int .i64 0, .int .i64 0, .nil, .nil, .nil, .nil, .int .i64 0, .int .i64 0, .int .i64 0, .st [], .int .i64 0, .int .i64 0, .int .i64 0, .int .i64 0, .st [], .nil, .nil, .nil, .int .i64 0, .int .i64 0, .int .i64 0] := by kernel_rfl
theorem tf_35_0 : tfld Tryz.prog 35 0 = some (0, 1) := by kernel_rfl
theorem tf_35_1 : tfld Tryz.prog 35 1 = some (1, 1) := by kernel_rfl
theorem tf_35_2 : tfld Tryz.prog 35 2 = some (2, 1) := by kernel_rfl
theorem tf_35_3 : tfld Tryz.prog 35 3 = some (3, 1) := by kernel_rfl
theorem tf_35_4 : tfld Tryz.prog 35 4 = some (4, 2) := by kernel_rfl
theorem tf_35_5 : tfld Tryz.prog 35 5 = some (6, 1) := by kernel_rfl
theorem tf_35_6 : tfld Tryz.prog 35 6 = some (7, 1) := by kernel_rfl
theorem tf_35_7 : tfld Tryz.prog 35 7 = some (8, 1) := by kernel_rfl
theorem tf_35_8 : tfld Tryz.prog 35 8 = some (9, 1) := by kernel_rfl
theorem tf_35_9 : tfld Tryz.prog 35 9 = some (10, 3) := by kernel_rfl
theorem tf_35_10 : tfld Tryz.prog 35 10 = some (13, 4) := by kernel_rfl
theorem tf_35_11 : tfld Tryz.prog 35 11 = some (17, 3) := by kernel_rfl
theorem tf_35_12 : tfld Tryz.prog 35 12 = some (20, 1) := by kernel_rfl
theorem tf_35_13 : tfld Tryz.prog 35 13 = some (21, 1) := by kernel_rfl
theorem tf_35_14 : tfld Tryz.prog 35 14 = some (22, 1) := by kernel_rfl
theorem tf_35_15 : tfld Tryz.prog 35 15 = some (23, 1) := by kernel_rfl
theorem tf_35_16 : tfld Tryz.prog 35 16 = some (24, 1) := by kernel_rfl
theorem tl_36 : tload Tryz.prog 36 = some (some 25) := by kernel_rfl
theorem ts_36 : tst Tryz.prog 36 = some 25 := by kernel_rfl
theorem tz_36 : tz Tryz.prog 36 = some [.int .i64 0, .int .i64 0, .int .i64 0, .int .i64 0, .int .i64 0, .int .i64 0, .nil, .nil, .nil, .nil, .int .i64 0, .int .i64 0, .int .i64 0, .st [], .int .i64 0, .int .i64 0, .int .i64 0, .int .i64 0, .st [], .nil, .nil, .nil, .int .i64 0, .int .i64 0, .int .i64 0] := by kernel_rfl
theorem tsz_36 : tsz Tryz.prog 36 = 25 := by kernel_rfl
theorem tag_36 : tagg Tryz.prog 36 = true := by kernel_rfl
theorem tb_36 : tbuild Tryz.prog 36 = some [.int .i64 0, .int .i64 0, .int .i64 0, .int .i64 0, .int .i64 0, .int .i64 0, .nil, .nil, .nil, .nil, .int .i64 0, .int .i64 0, .int .i64 0, .st [], .int .i64 0, .int .i64 0, .int .i64 0, .int .i64 0, .st [], .nil, .nil, .nil, .int .i64 0, .int .i64 0, .int .i64 0] := by kernel_rfl
theorem tf_36_0 : tfld Tryz.prog 36 0 = some (0, 1) := by kernel_rfl
theorem tf_36_1 : tfld Tryz.prog 36 1 = some (1, 1) := by kernel_rfl
theorem tf_36_2 : tfld Tryz.prog 36 2 = some (2, 1) := by kernel_rfl
theorem tf_36_3 : tfld Tryz.prog 36 3 = some (3, 1) := by kernel_rfl
theorem tf_36_4 : tfld Tryz.prog 36 4 = some (4, 2) := by kernel_rfl
theorem tf_36_5 : tfld Tryz.prog 36 5 = some (6, 1) := by kernel_rfl
theorem tf_36_6 : tfld Tryz.prog 36 6 = some (7, 1) := by kernel_rfl
theorem tf_36_7 : tfld Tryz.prog 36 7 = some (8, 1) := by kernel_rfl
theorem tf_36_8 : tfld Tryz.prog 36 8 = some (9, 1) := by kernel_rfl
theorem tf_36_9 : tfld Tryz.prog 36 9 = some (10, 3) := by kernel_rfl
theorem tf_36_10 : tfld Tryz.prog 36 10 = some (13, 4) := by kernel_rfl
theorem tf_36_11 : tfld Tryz.prog 36 11 = some (17, 3) := by kernel_rfl
theorem tf_36_12 : tfld Tryz.prog 36 12 = some (20, 1) := by kernel_rfl
theorem tf_36_13 : tfld Tryz.prog 36 13 = some (21, 1) := by kernel_rfl
theorem tf_36_14 : tfld Tryz.prog 36 14 = some (22, 1) := by kernel_rfl
theorem tf_36_15 : tfld Tryz.prog 36 15 = some (23, 1) := by kernel_rfl
theorem tf_36_16 : tfld Tryz.prog 36 16 = some (24, 1) := by kernel_rfl
theorem tl_37 : tload Tryz.prog 37 = some none := by kernel_rfl
theorem ts_37 : tst Tryz.prog 37 = some 1 := by kernel_rfl
theorem tz_37 : tz Tryz.prog 37 = some [.nil] := by kernel_rfl
theorem tsl_37 : tsl Tryz.prog 37 = some (46, 19) := by kernel_rfl
theorem tl_38 : tload Tryz.prog 38 = some none := by kernel_rfl
theorem ts_38 : tst Tryz.prog 38 = some 1 := by kernel_rfl
theorem tz_38 : tz Tryz.prog 38 = some [.nil] := by kernel_rfl
theorem tsl_38 : tsl Tryz.prog 38 = some (44, 5) := by kernel_rfl
theorem tl_39 : tload Tryz.prog 39 = some (some 2) := by kernel_rfl
theorem ts_39 : tst Tryz.prog 39 = some 2 := by kernel_rfl
theorem tz_39 : tz Tryz.prog 39 = some [.nil, .nil] := by kernel_rfl
theorem tsz_39 : tsz Tryz.prog 39 = 2 := by kernel_rfl
theorem tag_39 : tagg Tryz.prog 39 = true := by kernel_rfl
theorem tb_39 : tbuild Tryz.prog 39 = some [.nil, .nil] := by kernel_rfl
theorem tf_39_0 : tfld Tryz.prog 39 0 = some (0, 1) := by kernel_rfl
theorem tf_39_1 : tfld Tryz.prog 39 1 = some (1, 1) := by kernel_rfl
theorem tl_40 : tload Tryz.prog 40 = some (some 2) := by kernel_rfl
theorem ts_40 : tst Tryz.prog 40 = some 2 := by kernel_rfl
theorem tz_40 : tz Tryz.prog 40 = some [.nil, .nil] := by kernel_rfl
theorem tsz_40 : tsz Tryz.prog 40 = 2 := by kernel_rfl
theorem tag_40 : tagg Tryz.prog 40 = true := by kernel_rfl
theorem tb_40 : tbuild Tryz.prog 40 = some [.nil, .nil] := by kernel_rfl
theorem tf_40_0 : tfld Tryz.prog 40 0 = some (0, 1) := by kernel_rfl
theorem tf_40_1 : tfld Tryz.prog 40 1 = some (1, 1) := by kernel_rfl
theorem tl_41 : tload Tryz.prog 41 = some (some 61) := by kernel_rfl
theorem ts_41 : tst Tryz.prog 41 = some 61 := by kernel_rfl
theorem tz_41 : tz Tryz.prog 41 = some [.int .i64 0, .int .i64 0, .int .i64 0, .int .i64 0, .int .i64 0, .int .i64 0, .nil, .nil, .nil, .nil, .int .i64 0, .int .i64 0, .int .i64 0, .st [], .int .i64 0, .int .i64 0, .int .i64 0, .int .i64 0, .st [], .nil, .nil, .nil, .int .i64 0, .int .i64 0, .int .i64 0, .int .i64 0, .int .i64 0, .int .i64 0, .int .i64 0, .int .i64 0, .int .i64 0, .nil, .nil, .nil, .nil, .int .i64 0, .int .i64 0, .int .i64 0, .st [], .int .i64 0, .int .i64 0, .int .i64 0, .int .i64 0, .st [], .nil, .nil, .nil, .int .i64 0, .int .i64 0, .int .i64 0, .nil, .nil, .st [], .st [], .st [], .st [], .nil, .nil, .nil, .nil, .nil] := by kernel_rfl
theorem tsz_41 : tsz Tryz.prog 41 = 61 := by kernel_rfl
theorem tag_41 : tagg Tryz.prog 41 = true := by kernel_rfl
theorem tb_41 : tbuild Tryz.prog 41 = some [.int .i64 0, .int .i64 0, .int .i64 0, .int .i64 0, .int .i64 0, .int .i64 0, .nil, .nil, .nil, .nil, .int .i64 0, .int .i64 0, .int .i64 0, .st [], .int .i64 0, .int .i64 0, .int .i64 0, .int .i64 0, .st [], .nil, .nil, .nil, .int .i64 0, .int .i64 0, .int .i64 0, .int .i64 0, .int .i64 0, .int .i64 0, .int .i64 0, .int .i64 0, .int .i64 0, .nil, .nil, .nil, .nil, .int .i64 0, .int .i64 0, .int .i64 0, .st [], .int .i64 0, .int .i64 0, .int .i64 0, .int .i64 0, .st [], .nil, .nil, .nil, .int .i64 0, .int .i64 0, .int .i64 0, .nil, .nil, .st [], .st [], .st [], .st [], .nil, .nil, .nil, .nil, .nil] := by kernel_rfl
theorem tf_41_0 : tfld Tryz.prog 41 0 = some (0, 25) := by kernel_rfl
theorem tf_41_1 : tfld Tryz.prog 41 1 = some (25, 25) := by kernel_rfl
theorem tf_41_2 : tfld Tryz.prog 41 2 = some (50, 1) := by kernel_rfl
theorem tf_41_3 : tfld Tryz.prog 41 3 = some (51, 1) := by kernel_rfl
theorem tf_41_4 : tfld Tryz.prog 41 4 = some (52, 1) := by kernel_rfl
theorem tf_41_5 : tfld Tryz.prog 41 5 = some (53, 1) := by kernel_rfl
theorem tf_41_6 : tfld Tryz.prog 41 6 = some (54, 1) := by kernel_rfl
theorem tf_41_7 : tfld Tryz.prog 41 7 = some (55, 1) := by kernel_rfl
theorem tf_41_8 : tfld Tryz.prog 41 8 = some (56, 2) := by kernel_rfl
theorem tf_41_9 : tfld Tryz.prog 41 9 = some (58, 1) := by kernel_rfl
theorem tf_41_10 : tfld Tryz.prog 41 10 = some (59, 1) := by kernel_rfl
theorem tf_41_11 : tfld Tryz.prog 41 11 = some (60, 1) := by kernel_rfl
theorem tl_42 : tload Tryz.prog 42 = some (some 61) := by kernel_rfl
theorem ts_42 : tst Tryz.prog 42 = some 61 := by kernel_rfl
theorem tz_42 : tz Tryz.prog 42 = some [.int .i64 0, .int .i64 0, .int .i64 0, .int .i64 0, .int .i64 0, .int .i64 0, .nil, .nil, .nil, .nil, .int .i64 0, .int .i64 0, .int .i64 0, .st [], .int .i64 0, .int .i64 0, .int .i64 0, .int .i64 0, .st [], .nil, .nil, .nil, .int .i64 0, .int .i64 0, .int .i64 0, .int .i64 0, .int .i64 0, .int .i64 0, .int .i64 0, .int .i64 0, .int .i64 0, .nil, .nil, .nil, .nil, .int .i64 0, .int .i64 0, .int .i64 0, .st [], .int .i64 0, .int .i64 0, .int .i64 0, .int .i64 0, .st [], .nil, .nil, .nil, .int .i64 0, .int .i64 0, .int .i64 0, .nil, .nil, .st [], .st [], .st [], .st [], .nil, .nil, .nil, .nil, .nil] := by kernel_rfl
theorem tsz_42 : tsz Tryz.prog 42 = 61 := by kernel_rfl
theorem tag_42 : tagg Tryz.prog 42 = true := by kernel_rfl
theorem tb_42 : tbuild Tryz.prog 42 = some [.int .i64 0, .int .i64 0, .int .i64 0, .int .i64 0, .int .i64 0, .int .i64 0, .nil, .nil, .nil, .nil, .int .i64 0, .int .i64 0, .int .i64 0, .st [], .int .i64 0, .int .i64 0, .int .i64 0, .int .i64 0, .st [], .nil, .nil, .nil, .int .i64 0, .int .i64 0, .int .i64 0, .int .i64 0, .int .i64 0, .int .i64 0, .int .i64 0, .int .i64 0, .int .i64 0, .nil, .nil, .nil, .nil, .int .i64 0, .int .i64 0, .int .i64 0, .st [], .int .i64 0, .int .i64 0, .int .i64 0, .int .i64 0, .st [], .nil, .nil, .nil, .int .i64 0, .int .i64 0, .int .i64 0, .nil, .nil, .st [], .st [], .st [], .st [], .nil, .nil, .nil, .nil, .nil] := by kernel_rfl
theorem tf_42_0 : tfld Tryz.prog 42 0 = some (0, 25) := by kernel_rfl
theorem tf_42_1 : tfld Tryz.prog 42 1 = some (25, 25) := by kernel_rfl
theorem tf_42_2 : tfld Tryz.prog 42 2 = some (50, 1) := by kernel_rfl
theorem tf_42_3 : tfld Tryz.prog 42 3 = some (51, 1) := by kernel_rfl
theorem tf_42_4 : tfld Tryz.prog 42 4 = some (52, 1) := by kernel_rfl
theorem tf_42_5 : tfld Tryz.prog 42 5 = some (53, 1) := by kernel_rfl
theorem tf_42_6 : tfld Tryz.prog 42 6 = some (54, 1) := by kernel_rfl
theorem tf_42_7 : tfld Tryz.prog 42 7 = some (55, 1) := by kernel_rfl
theorem tf_42_8 : tfld Tryz.prog 42 8 = some (56, 2) := by kernel_rfl
theorem tf_42_9 : tfld Tryz.prog 42 9 = some (58, 1) := by kernel_rfl
theorem tf_42_10 : tfld Tryz.prog 42 10 = some (59, 1) := by kernel_rfl
theorem tf_42_11 : tfld Tryz.prog 42 11 = some (60, 1) := by kernel_rfl
theorem tl_43 : tload Tryz.prog 43 = some (some 5) := by kernel_rfl
theorem ts_43 : tst Tryz.prog 43 = some 5 := by kernel_rfl
theorem tz_43 : tz Tryz.prog 43 = some [.int .i64 0, .int .i64 0, .int .i64 0, .int .i64 0, .int .i64 0] := by kernel_rfl
theorem tsz_43 : tsz Tryz.prog 43 = 5 := by kernel_rfl
theorem tag_43 : tagg Tryz.prog 43 = true := by kernel_rfl
theorem tb_43 : tbuild Tryz.prog 43 = some [.int .i64 0, .int .i64 0, .int .i64 0, .int .i64 0, .int .i64 0] := by kernel_rfl
theorem tf_43_0 : tfld Tryz.prog 43 0 = some (0, 1) := by kernel_rfl
theorem tf_43_1 : tfld Tryz.prog 43 1 = some (1, 1) := by kernel_rfl
theorem tf_43_2 : tfld Tryz.prog 43 2 = some (2, 1) := by kernel_rfl
theorem tf_43_3 : tfld Tryz.prog 43 3 = some (3, 1) := by kernel_rfl
theorem tf_43_4 : tfld Tryz.prog 43 4 = some (4, 1) := by kernel_rfl
theorem tl_44 : tload Tryz.prog 44 = some (some 5) := by kernel_rfl
theorem ts_44 : tst Tryz.prog 44 = some 5 := by kernel_rfl
theorem tz_44 : tz Tryz.prog 44 = some [.int .i64 0, .int .i64 0, .int .i64 0, .int .i64 0, .int .i64 0] := by kernel_rfl
theorem tsz_44 : tsz Tryz.prog 44 = 5 := by kernel_rfl
theorem tag_44 : tagg Tryz.prog 44 = true := by kernel_rfl
theorem tb_44 : tbuild Tryz.prog 44 = some [.int .i64 0, .int .i64 0, .int .i64 0, .int .i64 0, .int .i64 0] := by kernel_rfl
theorem tf_44_0 : tfld Tryz.prog 44 0 = some (0, 1) := by kernel_rfl
theorem tf_44_1 : tfld Tryz.prog 44 1 = some (1, 1) := by kernel_rfl
theorem tf_44_2 : tfld Tryz.prog 44 2 = some (2, 1) := by kernel_rfl
theorem tf_44_3 : tfld Tryz.prog 44 3 = some (3, 1) := by kernel_rfl
theorem tf_44_4 : tfld Tryz.prog 44 4 = some (4, 1) := by kernel_rfl
theorem tl_45 : tload Tryz.prog 45 = some (some 19) := by kernel_rfl
theorem ts_45 : tst Tryz.prog 45 = some 19 := by kernel_rfl
theorem tz_45 : tz Tryz.prog 45 = some [.int .i64 0, .int .i64 0, .int .i64 0, .int .i64 0, .int .i64 0, .int .i64 0, .int .i64 0, .int .i64 0, .int .i64 0, .int .i64 0, .int .i64 0, .int .i64 0, .int .i64 0, .int .i64 0, .int .i64 0, .int .i64 0, .bo false, .int .i64 0, .st []] := by kernel_rfl
theorem tsz_45 : tsz Tryz.prog 45 = 19 := by kernel_rfl
theorem tag_45 : tagg Tryz.prog 45 = true := by kernel_rfl
theorem tb_45 : tbuild Tryz.prog 45 = some [.int .i64 0, .int .i64 0, .int .i64 0, .int .i64 0, .int .i64 0, .int .i64 0, .int .i64 0, .int .i64 0, .int .i64 0, .int .i64 0, .int .i64 0, .int .i64 0, .int .i64 0, .int .i64 0, .int .i64 0, .int .i64 0, .bo false, .int .i64 0, .st []] := by kernel_rfl
theorem tf_45_0 : tfld Tryz.prog 45 0 = some (0, 1) := by kernel_rfl
theorem tf_45_1 : tfld Tryz.prog 45 1 = some (1, 1) := by kernel_rfl
theorem tf_45_2 : tfld Tryz.prog 45 2 = some (2, 1) := by kernel_rfl
theorem tf_45_3 : tfld Tryz.prog 45 3 = some (3, 1) := by kernel_rfl
theorem tf_45_4 : tfld Tryz.prog 45 4 = some (4, 1) := by kernel_rfl
theorem tf_45_5 : tfld Tryz.prog 45 5 = some (5, 1) := by kernel_rfl
theorem tf_45_6 : tfld Tryz.prog 45 6 = some (6, 1) := by kernel_rfl
theorem tf_45_7 : tfld Tryz.prog 45 7 = some (7, 1) := by kernel_rfl
theorem tf_45_8 : tfld Tryz.prog 45 8 = some (8, 1) := by kernel_rfl
theorem tf_45_9 : tfld Tryz.prog 45 9 = some (9, 5) := by kernel_rfl
theorem tf_45_10 : tfld Tryz.prog 45 10 = some (14, 1) := by kernel_rfl
theorem tf_45_11 : tfld Tryz.prog 45 11 = some (15, 1) := by kernel_rfl
theorem tf_45_12 : tfld Tryz.prog 45 12 = some (16, 1) := by kernel_rfl
theorem tf_45_13 : tfld Tryz.prog 45 13 = some (17, 1) := by kernel_rfl
theorem tf_45_14 : tfld Tryz.prog 45 14 = some (18, 1) := by kernel_rfl
theorem tl_46 : tload Tryz.prog 46 = some (some 19) := by kernel_rfl
theorem ts_46 : tst Tryz.prog 46 = some 19 := by kernel_rfl
theorem tz_46 : tz Tryz.prog 46 = some [.int .i64 0, .int .i64 0, .int .i64 0, .int .i64 0, .int .i64 0, .int .i64 0, .int .i64 0, .int .i64 0, .int .i64 0, .int .i64 0, .int .i64 0, .int .i64 0, .int .i64 0, .int .i64 0, .int .i64 0, .int .i64 0, .bo false, .int .i64 0, .st []] := by kernel_rfl
theorem tsz_46 : tsz Tryz.prog 46 = 19 := by kernel_rfl
theorem tag_46 : tagg Tryz.prog 46 = true := by kernel_rfl
theorem tb_46 : tbuild Tryz.prog 46 = some [.int .i64 0, .int .i64 0, .int .i64 0, .int .i64 0, .int .i64 0, .int .i64 0, .int .i64 0, .int .i64 0, .int .i64 0, .int .i64 0, .int .i64 0, .int .i64 0, .int .i64 0, .int .i64 0, .int .i64 0, .int .i64 0, .bo false, .int .i64 0, .st []] := by kernel_rfl
theorem tf_46_0 : tfld Tryz.prog 46 0 = some (0, 1) := by kernel_rfl
theorem tf_46_1 : tfld Tryz.prog 46 1 = some (1, 1) := by kernel_rfl
theorem tf_46_2 : tfld Tryz.prog 46 2 = some (2, 1) := by kernel_rfl
theorem tf_46_3 : tfld Tryz.prog 46 3 = some (3, 1) := by kernel_rfl
theorem tf_46_4 : tfld Tryz.prog 46 4 = some (4, 1) := by kernel_rfl
theorem tf_46_5 : tfld Tryz.prog 46 5 = some (5, 1) := by kernel_rfl
theorem tf_46_6 : tfld Tryz.prog 46 6 = some (6, 1) := by kernel_rfl
theorem tf_46_7 : tfld Tryz.prog 46 7 = some (7, 1) := by kernel_rfl
theorem tf_46_8 : tfld Tryz.prog 46 8 = some (8, 1) := by kernel_rfl
theorem tf_46_9 : tfld Tryz.prog 46 9 = some (9, 5) := by kernel_rfl
theorem tf_46_10 : tfld Tryz.prog 46 10 = some (14, 1) := by kernel_rfl
theorem tf_46_11 : tfld Tryz.prog 46 11 = some (15, 1) := by kernel_rfl
theorem tf_46_12 : tfld Tryz.prog 46 12 = some (16, 1) := by kernel_rfl
theorem tf_46_13 : tfld Tryz.prog 46 13 = some (17, 1) := by kernel_rfl
theorem tf_46_14 : tfld Tryz.prog 46 14 = some (18, 1) := by kernel_rfl
theorem tl_49 : tload Tryz.prog 49 = some (some 2) := by kernel_rfl
theorem ts_49 : tst Tryz.prog 49 = some 2 := by kernel_rfl
theorem tz_49 : tz Tryz.prog 49 = some [.int .i64 0, .int .i64 0] := by kernel_rfl
theorem tsz_49 : tsz Tryz.prog 49 = 2 := by kernel_rfl
theorem tag_49 : tagg Tryz.prog 49 = true := by kernel_rfl
theorem tb_49 : tbuild Tryz.prog 49 = some [.int .i64 0, .int .i64 0] := by kernel_rfl
theorem tf_49_0 : tfld Tryz.prog 49 0 = some (0, 1) := by kernel_rfl
theorem tf_49_1 : tfld Tryz.prog 49 1 = some (1, 1) := by kernel_rfl
theorem tl_50 : tload Tryz.prog 50 = some none := by kernel_rfl
theorem ts_50 : tst Tryz.prog 50 = some 1 := by kernel_rfl
theorem tz_50 : tz Tryz.prog 50 = some [.nil] := by kernel_rfl
theorem tsl_50 : tsl Tryz.prog 50 = some (95, 4) := by kernel_rfl
theorem tl_51 : tload Tryz.prog 51 = some none := by kernel_rfl
theorem ts_51 : tst Tryz.prog 51 = some 1 := by kernel_rfl
theorem tz_51 : tz Tryz.prog 51 = some [.nil] := by kernel_rfl
theorem tsl_51 : tsl Tryz.prog 51 = some (202, 10) := by kernel_rfl
theorem tl_52 : tload Tryz.prog 52 = some none := by kernel_rfl
theorem ts_52 : tst Tryz.prog 52 = some 1 := by kernel_rfl
theorem tz_52 : tz Tryz.prog 52 = some [.nil] := by kernel_rfl
theorem tsl_52 : tsl Tryz.prog 52 = some (215, 8) := by kernel_rfl
theorem tl_53 : tload Tryz.prog 53 = some (some 3) := by kernel_rfl
theorem ts_53 : tst Tryz.prog 53 = some 3 := by kernel_rfl
theorem tz_53 : tz Tryz.prog 53 = some [.int .i64 0, .int .i64 0, .int .i64 0] := by kernel_rfl
theorem tsz_53 : tsz Tryz.prog 53 = 3 := by kernel_rfl
theorem tag_53 : tagg Tryz.prog 53 = true := by kernel_rfl
theorem tb_53 : tbuild Tryz.prog 53 = some [.int .i64 0, .int .i64 0, .int .i64 0] := by kernel_rfl
theorem tf_53_0 : tfld Tryz.prog 53 0 = some (0, 1) := by kernel_rfl
theorem tf_53_1 : tfld Tryz.prog 53 1 = some (1, 1) := by kernel_rfl
theorem tf_53_2 : tfld Tryz.prog 53 2 = some (2, 1) := by kernel_rfl
theorem tl_54 : tload Tryz.prog 54 = some (some 4) := by kernel_rfl
theorem ts_54 : tst Tryz.prog 54 = some 4 := by kernel_rfl
theorem tz_54 : tz Tryz.prog 54 = some [.st [], .int .i64 0, .int .i64 0, .int .i64 0] := by kernel_rfl
theorem tsz_54 : tsz Tryz.prog 54 = 4 := by kernel_rfl
theorem tag_54 : tagg Tryz.prog 54 = true := by kernel_rfl
theorem tb_54 : tbuild Tryz.prog 54 = some [.st [], .int .i64 0, .int .i64 0, .int .i64 0] := by kernel_rfl
theorem tf_54_0 : tfld Tryz.prog 54 0 = some (0, 1) := by kernel_rfl
theorem tf_54_1 : tfld Tryz.prog 54 1 = some (1, 1) := by kernel_rfl
theorem tf_54_2 : tfld Tryz.prog 54 2 = some (2, 1) := by kernel_rfl
theorem tf_54_3 : tfld Tryz.prog 54 3 = some (3, 1) := by kernel_rfl
theorem tl_55 : tload Tryz.prog 55 = some none := by kernel_rfl
theorem ts_55 : tst Tryz.prog 55 = some 1 := by kernel_rfl
theorem tz_55 : tz Tryz.prog 55 = some [.nil] := by kernel_rfl
theorem tsl_55 : tsl Tryz.prog 55 = some (272, 2) := by kernel_rfl
theorem tl_56 : tload Tryz.prog 56 = some (some 3) := by kernel_rfl
theorem ts_56 : tst Tryz.prog 56 = some 3 := by kernel_rfl
theorem tz_56 : tz Tryz.prog 56 = some [.int .i64 0, .st [], .nil] := by kernel_rfl
theorem tsz_56 : tsz Tryz.prog 56 = 3 := by kernel_rfl
theorem tag_56 : tagg Tryz.prog 56 = true := by kernel_rfl
theorem tb_56 : tbuild Tryz.prog 56 = some [.int .i64 0, .st [], .nil] := by kernel_rfl
theorem tf_56_0 : tfld Tryz.prog 56 0 = some (0, 1) := by kernel_rfl
theorem tf_56_1 : tfld Tryz.prog 56 1 = some (1, 1) := by kernel_rfl
theorem tf_56_2 : tfld Tryz.prog 56 2 = some (2, 1) := by kernel_rfl
theorem tl_57 : tload Tryz.prog 57 = some (some 3) := by kernel_rfl
theorem ts_57 : tst Tryz.prog 57 = some 3 := by kernel_rfl
theorem tz_57 : tz Tryz.prog 57 = some [.int .i64 0, .st [], .nil] := by kernel_rfl
theorem tsz_57 : tsz Tryz.prog 57 = 3 := by kernel_rfl
theorem tag_57 : tagg Tryz.prog 57 = true := by kernel_rfl
theorem tb_57 : tbuild Tryz.prog 57 = some [.int .i64 0, .st [], .nil] := by kernel_rfl
theorem tf_57_0 : tfld Tryz.prog 57 0 = some (0, 1) := by kernel_rfl
theorem tf_57_1 : tfld Tryz.prog 57 1 = some (1, 1) := by kernel_rfl
theorem tf_57_2 : tfld Tryz.prog 57 2 = some (2, 1) := by kernel_rfl
theorem tl_58 : tload Tryz.prog 58 = some (some 25) := by kernel_rfl
theorem ts_58 : tst Tryz.prog 58 = some 25 := by kernel_rfl
theorem tz_58 : tz Tryz.prog 58 = some [.int .i64 0, .int .i64 0, .int .i64 0, .int .i64 0, .int .i64 0, .int .i64 0, .nil, .nil, .nil, .nil, .int .i64 0, .int .i64 0, .int .i64 0, .st [], .int .i64 0, .int .i64 0, .int .i64 0, .int .i64 0, .st [], .nil, .nil, .nil, .int .i64 0, .int .i64 0, .int .i64 0] := by kernel_rfl
theorem tsz_58 : tsz Tryz.prog 58 = 25 := by kernel_rfl
theorem tag_58 : tagg Tryz.prog 58 = true := by kernel_rfl
theorem tb_58 : tbuild Tryz.prog 58 = some [.int .i64 0, .int .i64 0, .int .i64 0, .int .i64 0, .int .i64 0, .int .i64 0, .nil, .nil, .nil, .nil, .int .i64 0, .int .i64 0, .int .i64 0, .st [], .int .i64 0, .int .i64 0, .int .i64 0, .int .i64 0, .st [], .nil, .nil, .nil, .int .i64 0, .int .i64 0, .int .i64 0] := by kernel_rfl
theorem tf_58_0 : tfld Tryz.prog 58 0 = some (0, 1) := by kernel_rfl
theorem tf_58_1 : tfld Tryz.prog 58 1 = some (1, 1) := by kernel_rfl
theorem tf_58_2 : tfld Tryz.prog 58 2 = some (2, 1) := by kernel_rfl
theorem tf_58_3 : tfld Tryz.prog 58 3 = some (3, 1) := by kernel_rfl
theorem tf_58_4 : tfld Tryz.prog 58 4 = some (4, 2) := by kernel_rfl
theorem tf_58_5 : tfld Tryz.prog 58 5 = some (6, 1) := by kernel_rfl
theorem tf_58_6 : tfld Tryz.prog 58 6 = some (7, 1) := by kernel_rfl
theorem tf_58_7 : tfld Tryz.prog 58 7 = some (8, 1) := by kernel_rfl
theorem tf_58_8 : tfld Tryz.prog 58 8 = some (9, 1) := by kernel_rfl
theorem tf_58_9 : tfld Tryz.prog 58 9 = some (10, 3) := by kernel_rfl
theorem tf_58_10 : tfld Tryz.prog 58 10 = some (13, 4) := by kernel_rfl
theorem tf_58_11 : tfld Tryz.prog 58 11 = some (17, 3) := by kernel_rfl
theorem tf_58_12 : tfld Tryz.prog 58 12 = some (20, 1) := by kernel_rfl
theorem tf_58_13 : tfld Tryz.prog 58 13 = some (21, 1) := by kernel_rfl
theorem tf_58_14 : tfld Tryz.prog 58 14 = some (22, 1) := by kernel_rfl
theorem tf_58_15 : tfld Tryz.prog 58 15 = some (23, 1) := by kernel_rfl
theorem tf_58_16 : tfld Tryz.prog 58 16 = some (24, 1) := by kernel_rfl
theorem tl_59 : tload Tryz.prog 59 = some (some 25) := by kernel_rfl
theorem ts_59 : tst Tryz.prog 59 = some 25 := by kernel_rfl
theorem tz_59 : tz Tryz.prog 59 = some [.int .i64 0, .int .i64 0, .int .i64 0, .int .i64 0, .int .i64 0, .int .i64 0, .nil, .nil, .nil, .nil, .int .i64 0, .int .i64 0, .int .i64 0, .st [], .int .i64 0, .int .i64 0, .int .i64 0, .int .i64 0, .st [], .nil, .nil, .nil, .int .i64 0, .int .i64 0, .int .i64 0] := by kernel_rfl
theorem tsz_59 : tsz Tryz.prog 59 = 25 := by kernel_rfl
theorem tag_59 : tagg Tryz.prog 59 = true := by kernel_rfl
theorem tb_59 : tbuild Tryz.prog 59 = some [.int .i64 0, .int .i64 0, .int .i64 0, .int .i64 0, .int .i64 0, .int .i64 0, .nil, .nil, .nil, .nil, .int .i64 0, .int .i64 0, .int .i64 0, .st [], .int .i64 0, .int .i64 0, .int .i64 0, .int .i64 0, .st [], .nil, .nil, .nil, .int .i64 0, .int .i64 0, .int .i64 0] := by kernel_rfl
theorem tf_59_0 : tfld Tryz.prog 59 0 = some (0, 1) := by kernel_rfl
theorem tf_59_1 : tfld Tryz.prog 59 1 = some (1, 1) := by kernel_rfl
theorem tf_59_2 : tfld Tryz.prog 59 2 = some (2, 1) := by kernel_rfl
theorem tf_59_3 : tfld Tryz.prog 59 3 = some (3, 1) := by kernel_rfl
theorem tf_59_4 : tfld Tryz.prog 59 4 = some (4, 2) := by kernel_rfl
theorem tf_59_5 : tfld Tryz.prog 59 5 = some (6, 1) := by kernel_rfl
theorem tf_59_6 : tfld Tryz.prog 59 6 = some (7, 1) := by kernel_rfl
theorem tf_59_7 : tfld Tryz.prog 59 7 = some (8, 1) := by kernel_rfl
theorem tf_59_8 : tfld Tryz.prog 59 8 = some (9, 1) := by kernel_rfl
theorem tf_59_9 : tfld Tryz.prog 59 9 = some (10, 3) := by kernel_rfl
theorem tf_59_10 : tfld Tryz.prog 59 10 = some (13, 4) := by kernel_rfl
theorem tf_59_11 : tfld Tryz.prog 59 11 = some (17, 3) := by kernel_rfl
theorem tf_59_12 : tfld Tryz.prog 59 12 = some (20, 1) := by kernel_rfl
theorem tf_59_13 : tfld Tryz.prog 59 13 = some (21, 1) := by kernel_rfl
theorem tf_59_14 : tfld Tryz.prog 59 14 = some (22, 1) := by kernel_rfl
theorem tf_59_15 : tfld Tryz.prog 59 15 = some (23, 1) := by kernel_rfl
theorem tf_59_16 : tfld Tryz.prog 59 16 = some (24, 1) := by kernel_rfl
theorem tl_60 : tload Tryz.prog 60 = some none := by kernel_rfl
theorem ts_60 : tst Tryz.prog 60 = some 1 := by kernel_rfl
theorem tz_60 : tz Tryz.prog 60 = some [.nil] := by kernel_rfl
theorem tsl_60 : tsl Tryz.prog 60 = some (70, 19) := by kernel_rfl
theorem tl_61 : tload Tryz.prog 61 = some none := by kernel_rfl
theorem ts_61 : tst Tryz.prog 61 = some 1 := by kernel_rfl
theorem tz_61 : tz Tryz.prog 61 = some [.nil] := by kernel_rfl
theorem tsl_61 : tsl Tryz.prog 61 = some (68, 5) := by kernel_rfl
theorem tl_62 : tload Tryz.prog 62 = some (some 2) := by kernel_rfl
theorem ts_62 : tst Tryz.prog 62 = some 2 := by kernel_rfl
theorem tz_62 : tz Tryz.prog 62 = some [.nil, .nil] := by kernel_rfl
theorem tsz_62 : tsz Tryz.prog 62 = 2 := by kernel_rfl
theorem tag_62 : tagg Tryz.prog 62 = true := by kernel_rfl
theorem tb_62 : tbuild Tryz.prog 62 = some [.nil, .nil] := by kernel_rfl
theorem tf_62_0 : tfld Tryz.prog 62 0 = some (0, 1) := by kernel_rfl
theorem tf_62_1 : tfld Tryz.prog 62 1 = some (1, 1) := by kernel_rfl
theorem tl_63 : tload Tryz.prog 63 = some (some 2) := by kernel_rfl
theorem ts_63 : tst Tryz.prog 63 = some 2 := by kernel_rfl
theorem tz_63 : tz Tryz.prog 63 = some [.nil, .nil] := by kernel_rfl
theorem tsz_63 : tsz Tryz.prog 63 = 2 := by kernel_rfl
theorem tag_63 : tagg Tryz.prog 63 = true := by kernel_rfl
theorem tb_63 : tbuild Tryz.prog 63 = some [.nil, .nil] := by kernel_rfl
theorem tf_63_0 : tfld Tryz.prog 63 0 = some (0, 1) := by kernel_rfl
theorem tf_63_1 : tfld Tryz.prog 63 1 = some (1, 1) := by kernel_rfl
theorem tl_64 : tload Tryz.prog 64 = some (some 61) := by kernel_rfl
theorem ts_64 : tst Tryz.prog 64 = some 61 := by kernel_rfl
theorem tz_64 : tz Tryz.prog 64 = some [.int .i64 0, .int .i64 0, .int .i64 0, .int .i64 0, .int .i64 0, .int .i64 0, .nil, .nil, .nil, .nil, .int .i64 0, .int .i64 0, .int .i64 0, .st [], .int .i64 0, .int .i64 0, .int .i64 0, .int .i64 0, .st [], .nil, .nil, .nil, .int .i64 0, .int .i64 0, .int .i64 0, .int .i64 0, .int .i64 0, .int .i64 0, .int .i64 0, .int .i64 0, .int .i64 0, .nil, .nil, .nil, .nil, .int .i64 0, .int .i64 0, .int .i64 0, .st [], .int .i64 0, .int .i64 0, .int .i64 0, .int .i64 0, .st [], .nil, .nil, .nil, .int .i64 0, .int .i64 0, .int .i64 0, .nil, .nil, .st [], .st [], .st [], .st [], .nil, .nil, .nil, .nil, .nil] := by kernel_rfl
theorem tsz_64 : tsz Tryz.prog 64 = 61 := by kernel_rfl
theorem tag_64 : tagg Tryz.prog 64 = true := by kernel_rfl
theorem tb_64 : tbuild Tryz.prog 64 = some [.int .i64 0, .int .i64 0, .int .i64 0, .int .i64 0, .int .i64 0, .int .i64 0, .nil, .nil, .nil, .nil, .int .i64 0, .int .i64 0, .int .i64 0, .st [], .int .i64 0, .int .i64 0, .int .i64 0, .int .i64 0, .st [], .nil, .nil, .nil, .int .i64 0, .int .i64 0, .int .i64 0, .int .i64 0, .int .i64 0, .int .i64 0, .int .i64 0, .int .i64 0, .int .i64 0, .nil, .nil, .nil, .nil, .int .i64 0, .int .i64 0, .int .i64 0, .st [], .int .i64 0, .int .i64 0, .int .i64 0, .int .i64 0, .st [], .nil, .nil, .nil, .int .i64 0, .int .i64 0, .int .i64 0, .nil, .nil, .st [], .st [], .st [], .st [], .nil, .nil, .nil, .nil, .nil] := by kernel_rfl
theorem tf_64_0 : tfld Tryz.prog 64 0 = some (0, 25) := by kernel_rfl
theorem tf_64_1 : tfld Tryz.prog 64 1 = some (25, 25) := by kernel_rfl
theorem tf_64_2 : tfld Tryz.prog 64 2 = some (50, 1) := by kernel_rfl
theorem tf_64_3 : tfld Tryz.prog 64 3 = some (51, 1) := by kernel_rfl
theorem tf_64_4 : tfld Tryz.prog 64 4 = some (52, 1) := by kernel_rfl
theorem tf_64_5 : tfld Tryz.prog 64 5 = some (53, 1) := by kernel_rfl
theorem tf_64_6 : tfld Tryz.prog 64 6 = some (54, 1) := by kernel_rfl
theorem tf_64_7 : tfld Tryz.prog 64 7 = some (55, 1) := by kernel_rfl
theorem tf_64_8 : tfld Tryz.prog 64 8 = some (56, 2) := by kernel_rfl
theorem tf_64_9 : tfld Tryz.prog 64 9 = some (58, 1) := by kernel_rfl
theorem tf_64_10 : tfld Tryz.prog 64 10 = some (59, 1) := by kernel_rfl
theorem tf_64_11 : tfld Tryz.prog 64 11 = some (60, 1) := by kernel_rfl
theorem tl_65 : tload Tryz.prog 65 = some (some 61) := by kernel_rfl
theorem ts_65 : tst Tryz.prog 65 = some 61 := by kernel_rfl
theorem tz_65 : tz Tryz.prog 65 = some [.int .i64 0, .int .i64 0, .int .i64 0, .int .i64 0, .int .i64 0, .int .i64 0, .nil, .nil, .nil, .nil, .int .i64 0, .int .i64 0, .int .i64 0, .st [], .int .i64 0, .int .i64 0, .int .i64 0, .int .i64 0, .st [], .nil, .nil, .nil, .int .i64 0, .int .i64 0, .int .i64 0, .int .i64 0, .int .i64 0, .int .i64 0, .int .i64 0, .int .i64 0, .int .i64 0, .nil, .nil, .nil, .nil, .int .i64 0, .int .i64 0, .int .i64 0, .st [], .int .i64 0, .int .i64 0, .int .i64 0, .int .i64 0, .st [], .nil, .nil, .nil, .int .i64 0, .int .i64 0, .int .i64 0, .nil, .nil, .st [], .st [], .st [], .st [], .nil, .nil, .nil, .nil, .nil] := by kernel_rfl
theorem tsz_65 : tsz Tryz.prog 65 = 61 := by kernel_rfl
theorem tag_65 : tagg Tryz.prog 65 = true := by kernel_rfl
theorem tb_65 : tbuild Tryz.prog 65 = some [.int .i64 0, .int .i64 0, .int .i64 0, .int .i64 0, .int .i64 0, .int .i64 0, .nil, .nil, .nil, .nil, .int .i64 0, .int .i64 0, .int .i64 0, .st [], .int .i64 0, .int .i64 0, .int .i64 0, .int .i64 0, .st [], .nil, .nil, .nil, .int .i64 0, .int .i64 0, .int .i64 0, .int .i64 0, .int .i64 0, .int .i64 0, .int .i64 0, .int .i64 0, .int .i64 0, .nil, .nil, .nil, .nil, .int .i64 0, .int .i64 0, .int .i64 0, .st [], .int .i64 0, .int .i64 0, .int .i64 0, .int .i64 0, .st [], .nil, .nil, .nil, .int .i64 0, .int .i64 0, .int .i64 0, .nil, .nil, .st [], .st [], .st [], .st [], .nil, .nil, .nil, .nil, .nil] := by kernel_rfl
theorem tf_65_0 : tfld Tryz.prog 65 0 = some (0, 25) := by kernel_rfl
theorem tf_65_1 : tfld Tryz.prog 65 1 = some (25, 25) := by kernel_rfl
theorem tf_65_2 : tfld Tryz.prog 65 2 = some (50, 1) := by kernel_rfl
theorem tf_65_3 : tfld Tryz.prog 65 3 = some (51, 1) := by kernel_rfl
theorem tf_65_4 : tfld Tryz.prog 65 4 = some (52, 1) := by kernel_rfl
theorem tf_65_5 : tfld Tryz.prog 65 5 = some (53, 1) := by kernel_rfl
theorem tf_65_6 : tfld Tryz.prog 65 6 = some (54, 1) := by kernel_rfl
theorem tf_65_7 : tfld Tryz.prog 65 7 = some (55, 1) := by kernel_rfl
theorem tf_65_8 : tfld Tryz.prog 65 8 = some (56, 2) := by kernel_rfl
theorem tf_65_9 : tfld Tryz.prog 65 9 = some (58, 1) := by kernel_rfl
theorem tf_65_10 : tfld Tryz.prog 65 10 = some (59, 1) := by kernel_rfl
theorem tf_65_11 : tfld Tryz.prog 65 11 = some (60, 1) := by kernel_rfl
theorem tl_68 : tload Tryz.prog 68 = some (some 5) := by kernel_rfl
theorem ts_68 : tst Tryz.prog 68 = some 5 := by kernel_rfl
theorem tz_68 : tz Tryz.prog 68 = some [.int .i64 0, .int .i64 0, .int .i64 0, .int .i64 0, .int .i64 0] := by kernel_rfl
theorem tsz_68 : tsz Tryz.prog 68 = 5 := by kernel_rfl
theorem tag_68 : tagg Tryz.prog 68 = true := by kernel_rfl
theorem tb_68 : tbuild Tryz.prog 68 = some [.int .i64 0, .int .i64 0, .int .i64 0, .int .i64 0, .int .i64 0] := by kernel_rfl
theorem tf_68_0 : tfld Tryz.prog 68 0 = some (0, 1) := by kernel_rfl
theorem tf_68_1 : tfld Tryz.prog 68 1 = some (1, 1) := by kernel_rfl
theorem tf_68_2 : tfld Tryz.prog 68 2 = some (2, 1) := by kernel_rfl
theorem tf_68_3 : tfld Tryz.prog 68 3 = some (3, 1) := by kernel_rfl
theorem tf_68_4 : tfld Tryz.prog 68 4 = some (4, 1) := by kernel_rfl
theorem tl_69 : tload Tryz.prog 69 = some (some 19) := by kernel_rfl
theorem ts_69 : tst Tryz.prog 69 = some 19 := by kernel_rfl
theorem tz_69 : tz Tryz.prog 69 = some [.int .i64 0, .int .i64 0, .int .i64 0, .int .i64 0, .int .i64 0, .int .i64 0, .int .i64 0, .int .i64 0, .int .i64 0, .int .i64 0, .int .i64 0, .int .i64 0, .int .i64 0, .int .i64 0, .int .i64 0, .int .i64 0, .bo false, .int .i64 0, .st []] := by kernel_rfl
theorem tsz_69 : tsz Tryz.prog 69 = 19 := by kernel_rfl
theorem tag_69 : tagg Tryz.prog 69 = true := by kernel_rfl
theorem tb_69 : tbuild Tryz.prog 69 = some [.int .i64 0, .int .i64 0, .int .i64 0, .int .i64 0, .int .i64 0, .int .i64 0, .int .i64 0, .int .i64 0, .int .i64 0, .int .i64 0, .int .i64 0, .int .i64 0, .int .i64 0, .int .i64 0, .int .i64 0, .int .i64 0, .bo false, .int .i64 0, .st []] := by kernel_rfl
theorem tf_69_0 : tfld Tryz.prog 69 0 = some (0, 1) := by kernel_rfl
theorem tf_69_1 : tfld Tryz.prog 69 1 = some (1, 1) := by kernel_rfl
theorem tf_69_2 : tfld Tryz.prog 69 2 = some (2, 1) := by kernel_rfl
theorem tf_69_3 : tfld Tryz.prog 69 3 = some (3, 1) := by kernel_rfl
theorem tf_69_4 : tfld Tryz.prog 69 4 = some (4, 1) := by kernel_rfl
theorem tf_69_5 : tfld Tryz.prog 69 5 = some (5, 1) := by kernel_rfl
theorem tf_69_6 : tfld Tryz.prog 69 6 = some (6, 1) := by kernel_rfl
theorem tf_69_7 : tfld Tryz.prog 69 7 = some (7, 1) := by kernel_rfl
theorem tf_69_8 : tfld Tryz.prog 69 8 = some (8, 1) := by kernel_rfl
theorem tf_69_9 : tfld Tryz.prog 69 9 = some (9, 5) := by kernel_rfl
theorem tf_69_10 : tfld Tryz.prog 69 10 = some (14, 1) := by kernel_rfl
theorem tf_69_11 : tfld Tryz.prog 69 11 = some (15, 1) := by kernel_rfl
theorem tf_69_12 : tfld Tryz.prog 69 12 = some (16, 1) := by kernel_rfl
theorem tf_69_13 : tfld Tryz.prog 69 13 = some (17, 1) := by kernel_rfl
theorem tf_69_14 : tfld Tryz.prog 69 14 = some (18, 1) := by kernel_rfl
theorem tl_70 : tload Tryz.prog 70 = some (some 19) := by kernel_rfl
theorem ts_70 : tst Tryz.prog 70 = some 19 := by kernel_rfl
theorem tz_70 : tz Tryz.prog 70 = some [.int .i64 0, .int .i64 0, .int .i64 0, .int .i64 0, .int .i64 0, .int .i64 0, .int .i64 0, .int .i64 0, .int .i64 0, .int .i64 0, .int .i64 0, .int .i64 0, .int .i64 0, .int .i64 0, .int .i64 0, .int .i64 0, .bo false, .int .i64 0, .st []] := by kernel_rfl
theorem tsz_70 : tsz Tryz.prog 70 = 19 := by kernel_rfl
theorem tag_70 : tagg Tryz.prog 70 = true := by kernel_rfl
theorem tb_70 : tbuild Tryz.prog 70 = some [.int .i64 0, .int .i64 0, .int .i64 0, .int .i64 0, .int .i64 0, .int .i64 0, .int .i64 0, .int .i64 0, .int .i64 0, .int .i64 0, .int .i64 0, .int .i64 0, .int .i64 0, .int .i64 0, .int .i64 0, .int .i64 0, .bo false, .int .i64 0, .st []] := by kernel_rfl
theorem tf_70_0 : tfld Tryz.prog 70 0 = some (0, 1) := by kernel_rfl
theorem tf_70_1 : tfld Tryz.prog 70 1 = some (1, 1) := by kernel_rfl
theorem tf_70_2 : tfld Tryz.prog 70 2 = some (2, 1) := by kernel_rfl
theorem tf_70_3 : tfld Tryz.prog 70 3 = some (3, 1) := by kernel_rfl
theorem tf_70_4 : tfld Tryz.prog 70 4 = some (4, 1) := by kernel_rfl
theorem tf_70_5 : tfld Tryz.prog 70 5 = some (5, 1) := by kernel_rfl
theorem tf_70_6 : tfld Tryz.prog 70 6 = some (6, 1) := by kernel_rfl
theorem tf_70_7 : tfld Tryz.prog 70 7 = some (7, 1) := by kernel_rfl
theorem tf_70_8 : tfld Tryz.prog 70 8 = some (8, 1) := by kernel_rfl
theorem tf_70_9 : tfld Tryz.prog 70 9 = some (9, 5) := by kernel_rfl
theorem tf_70_10 : tfld Tryz.prog 70 10 = some (14, 1) := by kernel_rfl
theorem tf_70_11 : tfld Tryz.prog 70 11 = some (15, 1) := by kernel_rfl
theorem tf_70_12 : tfld Tryz.prog 70 12 = some (16, 1) := by kernel_rfl
theorem tf_70_13 : tfld Tryz.prog 70 13 = some (17, 1) := by kernel_rfl
theorem tf_70_14 : tfld Tryz.prog 70 14 = some (18, 1) := by kernel_rfl
theorem tl_75 : tload Tryz.prog 75 = some none := by kernel_rfl
theorem ts_75 : tst Tryz.prog 75 = some 1 := by kernel_rfl
theorem tz_75 : tz Tryz.prog 75 = some [.nil] := by kernel_rfl
theorem tsl_75 : tsl Tryz.prog 75 = some (91, 28) := by kernel_rfl
theorem tl_79 : tload Tryz.prog 79 = some none := by kernel_rfl
theorem ts_79 : tst Tryz.prog 79 = some 1 := by kernel_rfl
theorem tz_79 : tz Tryz.prog 79 = some [.nil] := by kernel_rfl
theorem tsl_79 : tsl Tryz.prog 79 = some (97, 28) := by kernel_rfl
theorem tl_88 : tload Tryz.prog 88 = some (some 4) := by kernel_rfl
theorem ts_88 : tst Tryz.prog 88 = some 4 := by kernel_rfl
theorem tz_88 : tz Tryz.prog 88 = some [.int .i64 0, .int .i64 0, .bo false, .bo false] := by kernel_rfl
theorem tsz_88 : tsz Tryz.prog 88 = 4 := by kernel_rfl
theorem tag_88 : tagg Tryz.prog 88 = true := by kernel_rfl
theorem tb_88 : tbuild Tryz.prog 88 = some [.int .i64 0, .int .i64 0, .bo false, .bo false] := by kernel_rfl
theorem tf_88_0 : tfld Tryz.prog 88 0 = some (0, 1) := by kernel_rfl
theorem tf_88_1 : tfld Tryz.prog 88 1 = some (1, 1) := by kernel_rfl
theorem tf_88_2 : tfld Tryz.prog 88 2 = some (2, 1) := by kernel_rfl
theorem tf_88_3 : tfld Tryz.prog 88 3 = some (3, 1) := by kernel_rfl
theorem tl_89 : tload Tryz.prog 89 = some (some 4) := by kernel_rfl
theorem ts_89 : tst Tryz.prog 89 = some 4 := by kernel_rfl
theorem tz_89 : tz Tryz.prog 89 = some [.int .i64 0, .int .i64 0, .bo false, .bo false] := by kernel_rfl
theorem tsz_89 : tsz Tryz.prog 89 = 4 := by kernel_rfl
theorem tag_89 : tagg Tryz.prog 89 = true := by kernel_rfl
theorem tb_89 : tbuild Tryz.prog 89 = some [.int .i64 0, .int .i64 0, .bo false, .bo false] := by kernel_rfl
theorem tf_89_0 : tfld Tryz.prog 89 0 = some (0, 1) := by kernel_rfl
theorem tf_89_1 : tfld Tryz.prog 89 1 = some (1, 1) := by kernel_rfl
theorem tf_89_2 : tfld Tryz.prog 89 2 = some (2, 1) := by kernel_rfl
theorem tf_89_3 : tfld Tryz.prog 89 3 = some (3, 1) := by kernel_rfl
theorem tl_90 : tload Tryz.prog 90 = some (some 28) := by kernel_rfl
theorem ts_90 : tst Tryz.prog 90 = some 28 := by kernel_rfl
theorem tz_90 : tz Tryz.prog 90 = some [.int .i64 0, .int .i64 0, .int .i64 0, .int .i64 0, .st [], .int .i64 0, .int .i64 0, .bo false, .bo false, .int .i64 0, .int .i64 0, .int .i64 0, .int .i64 0, .int .i64 0, .int .i64 0, .int .i64 0, .int .i64 0, .int .i64 0, .int .i64 0, .int .i64 0, .int .i64 0, .int .i64 0, .int .i64 0, .int .i64 0, .int .i64 0, .bo false, .int .i64 0, .st []] := by kernel_rfl
theorem tsz_90 : tsz Tryz.prog 90 = 28 := by kernel_rfl
theorem tag_90 : tagg Tryz.prog 90 = true := by kernel_rfl
theorem tb_90 : tbuild Tryz.prog 90 = some [.int .i64 0, .int .i64 0, .int .i64 0, .int .i64 0, .st [], .int .i64 0, .int .i64 0, .bo false, .bo false, .int .i64 0, .int .i64 0, .int .i64 0, .int .i64 0, .int .i64 0, .int .i64 0, .int .i64 0, .int .i64 0, .int .i64 0, .int .i64 0, .int .i64 0, .int .i64 0, .int .i64 0, .int .i64 0, .int .i64 0, .int .i64 0, .bo false, .int .i64 0, .st []] := by kernel_rfl
theorem tf_90_0 : tfld Tryz.prog 90 0 = some (0, 1) := by kernel_rfl
theorem tf_90_1 : tfld Tryz.prog 90 1 = some (1, 1) := by kernel_rfl
theorem tf_90_2 : tfld Tryz.prog 90 2 = some (2, 1) := by kernel_rfl
theorem tf_90_3 : tfld Tryz.prog 90 3 = some (3, 1) := by kernel_rfl
theorem tf_90_4 : tfld Tryz.prog 90 4 = some (4, 1) := by kernel_rfl
theorem tf_90_5 : tfld Tryz.prog 90 5 = some (5, 4) := by kernel_rfl
theorem tf_90_6 : tfld Tryz.prog 90 6 = some (9, 19) := by kernel_rfl
theorem tl_91 : tload Tryz.prog 91 = some (some 28) := by kernel_rfl
theorem ts_91 : tst Tryz.prog 91 = some 28 := by kernel_rfl
theorem tz_91 : tz Tryz.prog 91 = some [.int .i64 0, .int .i64 0, .int .i64 0, .int .i64 0, .st [], .int .i64 0, .int .i64 0, .bo false, .bo false, .int .i64 0, .int .i64 0, .int .i64 0, .int .i64 0, .int .i64 0, .int .i64 0, .int .i64 0, .int .i64 0, .int .i64 0, .int .i64 0, .int .i64 0, .int .i64 0, .int .i64 0, .int .i64 0, .int .i64 0, .int .i64 0, .bo false, .int .i64 0, .st []] := by kernel_rfl
theorem tsz_91 : tsz Tryz.prog 91 = 28 := by kernel_rfl
theorem tag_91 : tagg Tryz.prog 91 = true := by kernel_rfl
theorem tb_91 : tbuild Tryz.prog 91 = some [.int .i64 0, .int .i64 0, .int .i64 0, .int .i64 0, .st [], .int .i64 0, .int .i64 0, .bo false, .bo false, .int .i64 0, .int .i64 0, .int .i64 0, .int .i64 0, .int .i64 0, .int .i64 0, .int .i64 0, .int .i64 0, .int .i64 0, .int .i64 0, .int .i64 0, .int .i64 0, .int .i64 0, .int .i64 0, .int .i64 0, .int .i64 0, .bo false, .int .i64 0, .st []] := by kernel_rfl
theorem tf_91_0 : tfld Tryz.prog 91 0 = some (0, 1) := by kernel_rfl
theorem tf_91_1 : tfld Tryz.prog 91 1 = some (1, 1) := by kernel_rfl
theorem tf_91_2 : tfld Tryz.prog 91 2 = some (2, 1) := by kernel_rfl
theorem tf_91_3 : tfld Tryz.prog 91 3 = some (3, 1) := by kernel_rfl
theorem tf_91_4 : tfld Tryz.prog 91 4 = some (4, 1) := by kernel_rfl
theorem tf_91_5 : tfld Tryz.prog 91 5 = some (5, 4) := by kernel_rfl
theorem tf_91_6 : tfld Tryz.prog 91 6 = some (9, 19) := by kernel_rfl
theorem tl_95 : tload Tryz.prog 95 = some (some 4) := by kernel_rfl
theorem ts_95 : tst Tryz.prog 95 = some 4 := by kernel_rfl
theorem tz_95 : tz Tryz.prog 95 = some [.int .i64 0, .int .i64 0, .bo false, .bo false] := by kernel_rfl
theorem tsz_95 : tsz Tryz.prog 95 = 4 := by kernel_rfl
theorem tag_95 : tagg Tryz.prog 95 = true := by kernel_rfl
theorem tb_95 : tbuild Tryz.prog 95 = some [.int .i64 0, .int .i64 0, .bo false, .bo false] := by kernel_rfl
theorem tf_95_0 : tfld Tryz.prog 95 0 = some (0, 1) := by kernel_rfl
theorem tf_95_1 : tfld Tryz.prog 95 1 = some (1, 1) := by kernel_rfl
theorem tf_95_2 : tfld Tryz.prog 95 2 = some (2, 1) := by kernel_rfl
theorem tf_95_3 : tfld Tryz.prog 95 3 = some (3, 1) := by kernel_rfl
theorem tl_96 : tload Tryz.prog 96 = some (some 28) := by kernel_rfl
theorem ts_96 : tst Tryz.prog 96 = some 28 := by kernel_rfl
theorem tz_96 : tz Tryz.prog 96 = some [.int .i64 0, .int .i64 0, .int .i64 0, .int .i64 0, .st [], .int .i64 0, .int .i64 0, .bo false, .bo false, .int .i64 0, .int .i64 0, .int .i64 0, .int .i64 0, .int .i64 0, .int .i64 0, .int .i64 0, .int .i64 0, .int .i64 0, .int .i64 0, .int .i64 0, .int .i64 0, .int .i64 0, .int .i64 0, .int .i64 0, .int .i64 0, .bo false, .int .i64 0, .st []] := by kernel_rfl
theorem tsz_96 : tsz Tryz.prog 96 = 28 := by kernel_rfl
theorem tag_96 : tagg Tryz.prog 96 = true := by kernel_rfl
theorem tb_96 : tbuild Tryz.prog 96 = some [.int .i64 0, .int .i64 0, .int .i64 0, .int .i64 0, .st [], .int .i64 0, .int .i64 0, .bo false, .bo false, .int .i64 0, .int .i64 0, .int .i64 0, .int .i64 0, .int .i64 0, .int .i64 0, .int .i64 0, .int .i64 0, .int .i64 0, .int .i64 0, .int .i64 0, .int .i64 0, .int .i64 0, .int .i64 0, .int .i64 0, .int .i64 0, .bo false, .int .i64 0, .st []] := by kernel_rfl
theorem tf_96_0 : tfld Tryz.prog 96 0 = some (0, 1) := by kernel_rfl
theorem tf_96_1 : tfld Tryz.prog 96 1 = some (1, 1) := by kernel_rfl
theorem tf_96_2 : tfld Tryz.prog 96 2 = some (2, 1) := by kernel_rfl
theorem tf_96_3 : tfld Tryz.prog 96 3 = some (3, 1) := by kernel_rfl
theorem tf_96_4 : tfld Tryz.prog 96 4 = some (4, 1) := by kernel_rfl
theorem tf_96_5 : tfld Tryz.prog 96 5 = some (5, 4) := by kernel_rfl
theorem tf_96_6 : tfld Tryz.prog 96 6 = some (9, 19) := by kernel_rfl
theorem tl_97 : tload Tryz.prog 97 = some (some 28) := by kernel_rfl
theorem ts_97 : tst Tryz.prog 97 = some 28 := by kernel_rfl
theorem tz_97 : tz Tryz.prog 97 = some [.int .i64 0, .int .i64 0, .int .i64 0, .int .i64 0, .st [], .int .i64 0, .int .i64 0, .bo false, .bo false, .int .i64 0, .int .i64 0, .int .i64 0, .int .i64 0, .int .i64 0, .int .i64 0, .int .i64 0, .int .i64 0, .int .i64 0, .int .i64 0, .int .i64 0, .int .i64 0, .int .i64 0, .int .i64 0, .int .i64 0, .int .i64 0, .bo false, .int .i64 0, .st []] := by kernel_rfl
theorem tsz_97 : tsz Tryz.prog 97 = 28 := by kernel_rfl
theorem tag_97 : tagg Tryz.prog 97 = true := by kernel_rfl
theorem tb_97 : tbuild Tryz.prog 97 = some [.int .i64 0, .int .i64 0, .int .i64 0, .int .i64 0, .st [], .int .i64 0, .int .i64 0, .bo false, .bo false, .int .i64 0, .int .i64 0, .int .i64 0, .int .i64 0, .int .i64 0, .int .i64 0, .int .i64 0, .int .i64 0, .int .i64 0, .int .i64 0, .int .i64 0, .int .i64 0, .int .i64 0, .int .i64 0, .int .i64 0, .int .i64 0, .bo false, .int .i64 0, .st []] := by kernel_rfl
theorem tf_97_0 : tfld Tryz.prog 97 0 = some (0, 1) := by kernel_rfl
theorem tf_97_1 : tfld Tryz.prog 97 1 = some (1, 1) := by kernel_rfl
theorem tf_97_2 : tfld Tryz.prog 97 2 = some (2, 1) := by kernel_rfl
theorem tf_97_3 : tfld Tryz.prog 97 3 = some (3, 1) := by kernel_rfl
theorem tf_97_4 : tfld Tryz.prog 97 4 = some (4, 1) := by kernel_rfl
theorem tf_97_5 : tfld Tryz.prog 97 5 = some (5, 4) := by kernel_rfl
theorem tf_97_6 : tfld Tryz.prog 97 6 = some (9, 19) := by kernel_rfl
theorem tl_156 : tload Tryz.prog 156 = some none := by kernel_rfl
theorem ts_156 : tst Tryz.prog 156 = some 1 := by kernel_rfl
theorem tz_156 : tz Tryz.prog 156 = some [.un] := by kernel_rfl
theorem tl_177 : tload Tryz.prog 177 = some none := by kernel_rfl
theorem ts_177 : tst Tryz.prog 177 = some 1 := by kernel_rfl
theorem tz_177 : tz Tryz.prog 177 = some [.nil] := by kernel_rfl
theorem tsl_177 : tsl Tryz.prog 177 = some (5, 1) := by kernel_rfl
theorem tl_199 : tload Tryz.prog 199 = some (some 3) := by kernel_rfl
theorem ts_199 : tst Tryz.prog 199 = some 3 := by kernel_rfl
theorem tz_199 : tz Tryz.prog 199 = some [.int .i64 0, .int .i64 0, .int .i64 0] := by kernel_rfl
theorem tsz_199 : tsz Tryz.prog 199 = 3 := by kernel_rfl
theorem tag_199 : tagg Tryz.prog 199 = true := by kernel_rfl
theorem tb_199 : tbuild Tryz.prog 199 = some [.int .i64 0, .int .i64 0, .int .i64 0] := by kernel_rfl
theorem tf_199_0 : tfld Tryz.prog 199 0 = some (0, 1) := by kernel_rfl
theorem tf_199_1 : tfld Tryz.prog 199 1 = some (1, 1) := by kernel_rfl
theorem tf_199_2 : tfld Tryz.prog 199 2 = some (2, 1) := by kernel_rfl
theorem tl_200 : tload Tryz.prog 200 = some (some 3) := by kernel_rfl
theorem ts_200 : tst Tryz.prog 200 = some 3 := by kernel_rfl
theorem tz_200 : tz Tryz.prog 200 = some [.int .i64 0, .int .i64 0, .int .i64 0] := by kernel_rfl
theorem tsz_200 : tsz Tryz.prog 200 = 3 := by kernel_rfl
theorem tag_200 : tagg Tryz.prog 200 = true := by kernel_rfl
theorem tb_200 : tbuild Tryz.prog 200 = some [.int .i64 0, .int .i64 0, .int .i64 0] := by kernel_rfl
theorem tf_200_0 : tfld Tryz.prog 200 0 = some (0, 1) := by kernel_rfl
theorem tf_200_1 : tfld Tryz.prog 200 1 = some (1, 1) := by kernel_rfl
theorem tf_200_2 : tfld Tryz.prog 200 2 = some (2, 1) := by kernel_rfl
theorem tl_201 : tload Tryz.prog 201 = some (some 10) := by kernel_rfl
theorem ts_201 : tst Tryz.prog 201 = some 10 := by kernel_rfl
theorem tz_201 : tz Tryz.prog 201 = some [.int .i64 0, .int .i64 0, .int .i64 0, .int .i64 0, .bo false, .int .i64 0, .int .i64 0, .int .i64 0, .int .i64 0, .int .i64 0] := by kernel_rfl
theorem tsz_201 : tsz Tryz.prog 201 = 10 := by kernel_rfl
theorem tag_201 : tagg Tryz.prog 201 = true := by kernel_rfl
theorem tb_201 : tbuild Tryz.prog 201 = some [.int .i64 0, .int .i64 0, .int .i64 0, .int .i64 0, .bo false, .int .i64 0, .int .i64 0, .int .i64 0, .int .i64 0, .int .i64 0] := by kernel_rfl
theorem tf_201_0 : tfld Tryz.prog 201 0 = some (0, 3) := by kernel_rfl
theorem tf_201_1 : tfld Tryz.prog 201 1 = some (3, 1) := by kernel_rfl
theorem tf_201_2 : tfld Tryz.prog 201 2 = some (4, 1) := by kernel_rfl
theorem tf_201_3 : tfld Tryz.prog 201 3 = some (5, 1) := by kernel_rfl
theorem tf_201_4 : tfld Tryz.prog 201 4 = some (6, 1) := by kernel_rfl
theorem tf_201_5 : tfld Tryz.prog 201 5 = some (7, 1) := by kernel_rfl
theorem tf_201_6 : tfld Tryz.prog 201 6 = some (8, 1) := by kernel_rfl
theorem tf_201_7 : tfld Tryz.prog 201 7 = some (9, 1) := by kernel_rfl
theorem tl_202 : tload Tryz.prog 202 = some (some 10) := by kernel_rfl
theorem ts_202 : tst Tryz.prog 202 = some 10 := by kernel_rfl
theorem tz_202 : tz Tryz.prog 202 = some [.int .i64 0, .int .i64 0, .int .i64 0, .int .i64 0, .bo false, .int .i64 0, .int .i64 0, .int .i64 0, .int .i64 0, .int .i64 0] := by kernel_rfl
theorem tsz_202 : tsz Tryz.prog 202 = 10 := by kernel_rfl
theorem tag_202 : tagg Tryz.prog 202 = true := by kernel_rfl
theorem tb_202 : tbuild Tryz.prog 202 = some [.int .i64 0, .int .i64 0, .int .i64 0, .int .i64 0, .bo false, .int .i64 0, .int .i64 0, .int .i64 0, .int .i64 0, .int .i64 0] := by kernel_rfl
theorem tf_202_0 : tfld Tryz.prog 202 0 = some (0, 3) := by kernel_rfl
theorem tf_202_1 : tfld Tryz.prog 202 1 = some (3, 1) := by kernel_rfl
theorem tf_202_2 : tfld Tryz.prog 202 2 = some (4, 1) := by kernel_rfl
theorem tf_202_3 : tfld Tryz.prog 202 3 = some (5, 1) := by kernel_rfl
theorem tf_202_4 : tfld Tryz.prog 202 4 = some (6, 1) := by kernel_rfl
theorem tf_202_5 : tfld Tryz.prog 202 5 = some (7, 1) := by kernel_rfl
theorem tf_202_6 : tfld Tryz.prog 202 6 = some (8, 1) := by kernel_rfl
theorem tf_202_7 : tfld Tryz.prog 202 7 = some (9, 1) := by kernel_rfl
theorem tl_214 : tload Tryz.prog 214 = some (some 8) := by kernel_rfl
theorem ts_214 : tst Tryz.prog 214 = some 8 := by kernel_rfl
theorem tz_214 : tz Tryz.prog 214 = some [.int .i64 0, .int .i64 0, .int .i64 0, .int .i64 0, .int .i64 0, .int .i64 0, .int .i64 0, .int .i64 0] := by kernel_rfl
theorem tsz_214 : tsz Tryz.prog 214 = 8 := by kernel_rfl
theorem tag_214 : tagg Tryz.prog 214 = true := by kernel_rfl
theorem tb_214 : tbuild Tryz.prog 214 = some [.int .i64 0, .int .i64 0, .int .i64 0, .int .i64 0, .int .i64 0, .int .i64 0, .int .i64 0, .int .i64 0] := by kernel_rfl
theorem tf_214_0 : tfld Tryz.prog 214 0 = some (0, 3) := by kernel_rfl
theorem tf_214_1 : tfld Tryz.prog 214 1 = some (3, 1) := by kernel_rfl
theorem tf_214_2 : tfld Tryz.prog 214 2 = some (4, 1) := by kernel_rfl
theorem tf_214_3 : tfld Tryz.prog 214 3 = some (5, 1) := by kernel_rfl
theorem tf_214_4 : tfld Tryz.prog 214 4 = some (6, 1) := by kernel_rfl
theorem tf_214_5 : tfld Tryz.prog 214 5 = some (7, 1) := by kernel_rfl
theorem tl_215 : tload Tryz.prog 215 = some (some 8) := by kernel_rfl
theorem ts_215 : tst Tryz.prog 215 = some 8 := by kernel_rfl
theorem tz_215 : tz Tryz.prog 215 = some [.int .i64 0, .int .i64 0, .int .i64 0, .int .i64 0, .int .i64 0, .int .i64 0, .int .i64 0, .int .i64 0] := by kernel_rfl
theorem tsz_215 : tsz Tryz.prog 215 = 8 := by kernel_rfl
theorem tag_215 : tagg Tryz.prog 215 = true := by kernel_rfl
theorem tb_215 : tbuild Tryz.prog 215 = some [.int .i64 0, .int .i64 0, .int .i64 0, .int .i64 0, .int .i64 0, .int .i64 0, .int .i64 0, .int .i64 0] := by kernel_rfl
theorem tf_215_0 : tfld Tryz.prog 215 0 = some (0, 3) := by kernel_rfl
theorem tf_215_1 : tfld Tryz.prog 215 1 = some (3, 1) := by kernel_rfl
theorem tf_215_2 : tfld Tryz.prog 215 2 = some (4, 1) := by kernel_rfl
theorem tf_215_3 : tfld Tryz.prog 215 3 = some (5, 1) := by kernel_rfl
theorem tf_215_4 : tfld Tryz.prog 215 4 = some (6, 1) := by kernel_rfl
theorem tf_215_5 : tfld Tryz.prog 215 5 = some (7, 1) := by kernel_rfl
theorem tl_231 : tload Tryz.prog 231 = some (some 3) := by kernel_rfl
theorem ts_231 : tst Tryz.prog 231 = some 3 := by kernel_rfl
theorem tz_231 : tz Tryz.prog 231 = some [.int .i64 0, .int .i64 0, .int .i64 0] := by kernel_rfl
theorem tsz_231 : tsz Tryz.prog 231 = 3 := by kernel_rfl
theorem tag_231 : tagg Tryz.prog 231 = true := by kernel_rfl
theorem tb_231 : tbuild Tryz.prog 231 = some [.int .i64 0, .int .i64 0, .int .i64 0] := by kernel_rfl
theorem tf_231_0 : tfld Tryz.prog 231 0 = some (0, 1) := by kernel_rfl
theorem tf_231_1 : tfld Tryz.prog 231 1 = some (1, 1) := by kernel_rfl
theorem tf_231_2 : tfld Tryz.prog 231 2 = some (2, 1) := by kernel_rfl
theorem tl_232 : tload Tryz.prog 232 = some (some 10) := by kernel_rfl
theorem ts_232 : tst Tryz.prog 232 = some 10 := by kernel_rfl
theorem tz_232 : tz Tryz.prog 232 = some [.int .i64 0, .int .i64 0, .int .i64 0, .int .i64 0, .bo false, .int .i64 0, .int .i64 0, .int .i64 0, .int .i64 0, .int .i64 0] := by kernel_rfl
theorem tsz_232 : tsz Tryz.prog 232 = 10 := by kernel_rfl
theorem tag_232 : tagg Tryz.prog 232 = true := by kernel_rfl
theorem tb_232 : tbuild Tryz.prog 232 = some [.int .i64 0, .int .i64 0, .int .i64 0, .int .i64 0, .bo false, .int .i64 0, .int .i64 0, .int .i64 0, .int .i64 0, .int .i64 0] := by kernel_rfl
theorem tf_232_0 : tfld Tryz.prog 232 0 = some (0, 3) := by kernel_rfl
theorem tf_232_1 : tfld Tryz.prog 232 1 = some (3, 1) := by kernel_rfl
theorem tf_232_2 : tfld Tryz.prog 232 2 = some (4, 1) := by kernel_rfl
theorem tf_232_3 : tfld Tryz.prog 232 3 = some (5, 1) := by kernel_rfl
theorem tf_232_4 : tfld Tryz.prog 232 4 = some (6, 1) := by kernel_rfl
theorem tf_232_5 : tfld Tryz.prog 232 5 = some (7, 1) := by kernel_rfl
theorem tf_232_6 : tfld Tryz.prog 232 6 = some (8, 1) := by kernel_rfl
theorem tf_232_7 : tfld Tryz.prog 232 7 = some (9, 1) := by kernel_rfl
theorem tl_233 : tload Tryz.prog 233 = some (some 10) := by kernel_rfl
theorem ts_233 : tst Tryz.prog 233 = some 10 := by kernel_rfl
theorem tz_233 : tz Tryz.prog 233 = some [.int .i64 0, .int .i64 0, .int .i64 0, .int .i64 0, .bo false, .int .i64 0, .int .i64 0, .int .i64 0, .int .i64 0, .int .i64 0] := by kernel_rfl
theorem tsz_233 : tsz Tryz.prog 233 = 10 := by kernel_rfl
theorem tag_233 : tagg Tryz.prog 233 = true := by kernel_rfl
theorem tb_233 : tbuild Tryz.prog 233 = some [.int .i64 0, .int .i64 0, .int .i64 0, .int .i64 0, .bo false, .int .i64 0, .int .i64 0, .int .i64 0, .int .i64 0, .int .i64 0] := by kernel_rfl
theorem tf_233_0 : tfld Tryz.prog 233 0 = some (0, 3) := by kernel_rfl
theorem tf_233_1 : tfld Tryz.prog 233 1 = some (3, 1) := by kernel_rfl
theorem tf_233_2 : tfld Tryz.prog 233 2 = some (4, 1) := by kernel_rfl
theorem tf_233_3 : tfld Tryz.prog 233 3 = some (5, 1) := by kernel_rfl
theorem tf_233_4 : tfld Tryz.prog 233 4 = some (6, 1) := by kernel_rfl
theorem tf_233_5 : tfld Tryz.prog 233 5 = some (7, 1) := by kernel_rfl
theorem tf_233_6 : tfld Tryz.prog 233 6 = some (8, 1) := by kernel_rfl
theorem tf_233_7 : tfld Tryz.prog 233 7 = some (9, 1) := by kernel_rfl
theorem tl_235 : tload Tryz.prog 235 = some (some 8) := by kernel_rfl
theorem ts_235 : tst Tryz.prog 235 = some 8 := by kernel_rfl
theorem tz_235 : tz Tryz.prog 235 = some [.int .i64 0, .int .i64 0, .int .i64 0, .int .i64 0, .int .i64 0, .int .i64 0, .int .i64 0, .int .i64 0] := by kernel_rfl
theorem tsz_235 : tsz Tryz.prog 235 = 8 := by kernel_rfl
theorem tag_235 : tagg Tryz.prog 235 = true := by kernel_rfl
theorem tb_235 : tbuild Tryz.prog 235 = some [.int .i64 0, .int .i64 0, .int .i64 0, .int .i64 0, .int .i64 0, .int .i64 0, .int .i64 0, .int .i64 0] := by kernel_rfl
theorem tf_235_0 : tfld Tryz.prog 235 0 = some (0, 3) := by kernel_rfl
theorem tf_235_1 : tfld Tryz.prog 235 1 = some (3, 1) := by kernel_rfl
theorem tf_235_2 : tfld Tryz.prog 235 2 = some (4, 1) := by kernel_rfl
theorem tf_235_3 : tfld Tryz.prog 235 3 = some (5, 1) := by kernel_rfl
theorem tf_235_4 : tfld Tryz.prog 235 4 = some (6, 1) := by kernel_rfl
theorem tf_235_5 : tfld Tryz.prog 235 5 = some (7, 1) := by kernel_rfl
theorem tl_236 : tload Tryz.prog 236 = some (some 8) := by kernel_rfl
theorem ts_236 : tst Tryz.prog 236 = some 8 := by kernel_rfl
theorem tz_236 : tz Tryz.prog 236 = some [.int .i64 0, .int .i64 0, .int .i64 0, .int .i64 0, .int .i64 0, .int .i64 0, .int .i64 0, .int .i64 0] := by kernel_rfl
theorem tsz_236 : tsz Tryz.prog 236 = 8 := by kernel_rfl
theorem tag_236 : tagg Tryz.prog 236 = true := by kernel_rfl
theorem tb_236 : tbuild Tryz.prog 236 = some [.int .i64 0, .int .i64 0, .int .i64 0, .int .i64 0, .int .i64 0, .int .i64 0, .int .i64 0, .int .i64 0] := by kernel_rfl
theorem tf_236_0 : tfld Tryz.prog 236 0 = some (0, 3) := by kernel_rfl
theorem tf_236_1 : tfld Tryz.prog 236 1 = some (3, 1) := by kernel_rfl
theorem tf_236_2 : tfld Tryz.prog 236 2 = some (4, 1) := by kernel_rfl
theorem tf_236_3 : tfld Tryz.prog 236 3 = some (5, 1) := by kernel_rfl
theorem tf_236_4 : tfld Tryz.prog 236 4 = some (6, 1) := by kernel_rfl
theorem tf_236_5 : tfld Tryz.prog 236 5 = some (7, 1) := by kernel_rfl
theorem tl_242 : tload Tryz.prog 242 = some none := by kernel_rfl
theorem ts_242 : tst Tryz.prog 242 = some 1 := by kernel_rfl
theorem tz_242 : tz Tryz.prog 242 = some [.un] := by kernel_rfl
theorem tl_243 : tload Tryz.prog 243 = some none := by kernel_rfl
theorem ts_243 : tst Tryz.prog 243 = some 1 := by kernel_rfl
theorem tz_243 : tz Tryz.prog 243 = some [.un] := by kernel_rfl
theorem tl_263 : tload Tryz.prog 263 = some none := by kernel_rfl
theorem ts_263 : tst Tryz.prog 263 = some 1 := by kernel_rfl
theorem tz_263 : tz Tryz.prog 263 = some [.nil] := by kernel_rfl
theorem tsl_263 : tsl Tryz.prog 263 = some (200, 3) := by kernel_rfl
theorem tl_270 : tload Tryz.prog 270 = some (some 2) := by kernel_rfl
theorem ts_270 : tst Tryz.prog 270 = some 2 := by kernel_rfl
theorem tz_270 : tz Tryz.prog 270 = some [.int .i64 0, .st []] := by kernel_rfl
theorem tsz_270 : tsz Tryz.prog 270 = 2 := by kernel_rfl
theorem tag_270 : tagg Tryz.prog 270 = true := by kernel_rfl
theorem tb_270 : tbuild Tryz.prog 270 = some [.int .i64 0, .st []] := by kernel_rfl
theorem tf_270_0 : tfld Tryz.prog 270 0 = some (0, 1) := by kernel_rfl
theorem tf_270_1 : tfld Tryz.prog 270 1 = some (1, 1) := by kernel_rfl
theorem tl_271 : tload Tryz.prog 271 = some (some 2) := by kernel_rfl
theorem ts_271 : tst Tryz.prog 271 = some 2 := by kernel_rfl
theorem tz_271 : tz Tryz.prog 271 = some [.int .i64 0, .st []] := by kernel_rfl
theorem tsz_271 : tsz Tryz.prog 271 = 2 := by kernel_rfl
theorem tag_271 : tagg Tryz.prog 271 = true := by kernel_rfl
theorem tb_271 : tbuild Tryz.prog 271 = some [.int .i64 0, .st []] := by kernel_rfl
theorem tf_271_0 : tfld Tryz.prog 271 0 = some (0, 1) := by kernel_rfl
theorem tf_271_1 : tfld Tryz.prog 271 1 = some (1, 1) := by kernel_rfl
theorem tl_272 : tload Tryz.prog 272 = some (some 2) := by kernel_rfl
theorem ts_272 : tst Tryz.prog 272 = some 2 := by kernel_rfl
theorem tz_272 : tz Tryz.prog 272 = some [.int .i64 0, .st []] := by kernel_rfl
theorem tsz_272 : tsz Tryz.prog 272 = 2 := by kernel_rfl
theorem tag_272 : tagg Tryz.prog 272 = true := by kernel_rfl
theorem tb_272 : tbuild Tryz.prog 272 = some [.int .i64 0, .st []] := by kernel_rfl
theorem tf_272_0 : tfld Tryz.prog 272 0 = some (0, 1) := by kernel_rfl
theorem tf_272_1 : tfld Tryz.prog 272 1 = some (1, 1) := by kernel_rfl
theorem tl_286 : tload Tryz.prog 286 = some (some 4) := by kernel_rfl
theorem ts_286 : tst Tryz.prog 286 = some 4 := by kernel_rfl
theorem tz_286 : tz Tryz.prog 286 = some [.un, .un, .un, .st []] := by kernel_rfl
theorem tsz_286 : tsz Tryz.prog 286 = 4 := by kernel_rfl
theorem tag_286 : tagg Tryz.prog 286 = true := by kernel_rfl
theorem tb_286 : tbuild Tryz.prog 286 = some [.un, .un, .un, .st []] := by kernel_rfl
theorem tf_286_0 : tfld Tryz.prog 286 0 = some (0, 1) := by kernel_rfl
theorem tf_286_1 : tfld Tryz.prog 286 1 = some (1, 1) := by kernel_rfl
theorem tf_286_2 : tfld Tryz.prog 286 2 = some (2, 1) := by kernel_rfl
theorem tf_286_3 : tfld Tryz.prog 286 3 = some (3, 1) := by kernel_rfl
theorem tl_288 : tload Tryz.prog 288 = some (some 0) := by kernel_rfl
theorem ts_288 : tst Tryz.prog 288 = some 0 := by kernel_rfl
theorem tl_289 : tload Tryz.prog 289 = some (some 0) := by kernel_rfl
theorem ts_289 : tst Tryz.prog 289 = some 0 := by kernel_rfl
theorem tsz_289 : tsz Tryz.prog 289 = 0 := by kernel_rfl
theorem tag_289 : tagg Tryz.prog 289 = true := by kernel_rfl
theorem tl_292 : tload Tryz.prog 292 = some none := by kernel_rfl
theorem ts_292 : tst Tryz.prog 292 = some 1 := by kernel_rfl
theorem tz_292 : tz Tryz.prog 292 = some [.int .u32 0] := by kernel_rfl
theorem tl_296 : tload Tryz.prog 296 = some none := by kernel_rfl
theorem ts_296 : tst Tryz.prog 296 = some 1 := by kernel_rfl
theorem tz_296 : tz Tryz.prog 296 = some [.un] := by kernel_rfl
theorem tl_299 : tload Tryz.prog 299 = some (some 11) := by kernel_rfl
theorem ts_299 : tst Tryz.prog 299 = some 11 := by kernel_rfl
theorem tsz_299 : tsz Tryz.prog 299 = 11 := by kernel_rfl
theorem tag_299 : tagg Tryz.prog 299 = true := by kernel_rfl
theorem tf_299_0 : tfld Tryz.prog 299 0 = some (0, 1) := by kernel_rfl
theorem tf_299_1 : tfld Tryz.prog 299 1 = some (1, 1) := by kernel_rfl
theorem tf_299_2 : tfld Tryz.prog 299 2 = some (2, 1) := by kernel_rfl
theorem tf_299_3 : tfld Tryz.prog 299 3 = some (3, 1) := by kernel_rfl
theorem tf_299_4 : tfld Tryz.prog 299 4 = some (4, 1) := by kernel_rfl
theorem tf_299_5 : tfld Tryz.prog 299 5 = some (5, 1) := by kernel_rfl
theorem tf_299_6 : tfld Tryz.prog 299 6 = some (6, 1) := by kernel_rfl
theorem tf_299_8 : tfld Tryz.prog 299 8 = some (8, 1) := by kernel_rfl
theorem tf_299_9 : tfld Tryz.prog 299 9 = some (9, 1) := by kernel_rfl
theorem tf_299_10 : tfld Tryz.prog 299 10 = some (10, 1) := by kernel_rfl
theorem tcv_3_5 : tcv Tryz.prog 3 5 = some (.int .u8) := by kernel_rfl
theorem tcv_177_9 : tcv Tryz.prog 177 9 = some .b2s := by kernel_rfl
attribute [go_sem] tl_2 ts_2 tz_2 tl_3 ts_3 tz_3 tl_4 ts_4 tz_4 tbo_4 tl_5 ts_5 tz_5 tl_9 ts_9 tz_9 tstr_9 tl_12 ts_12 tz_12 tl_21 ts_21 tz_21 tl_22 ts_22 tz_22 tsz_22 tag_22 tb_22 tf_22_0 tf_22_1 tl_23 ts_23 tz_23 tsz_23 tag_23 tb_23 tf_23_0 tf_23_1 tl_24
attribute [go_sem] ts_24 tz_24 tsl_24 tl_25 ts_25 tz_25 tsl_25 tl_26 ts_26 tz_26 tsl_26 tl_27 ts_27 tz_27 tsz_27 tag_27 tb_27 tf_27_0 tf_27_1 tf_27_2 tl_28 ts_28 tz_28 tsz_28 tag_28 tb_28 tf_28_0 tf_28_1 tf_28_2 tl_29 ts_29 tz_29 tsz_29 tag_29 tb_29 tf_29_0 tf_29_1 tf_29_2 tf_29_3 tl_30
attribute [go_sem] ts_30 tz_30 tsz_30 tag_30 tb_30 tf_30_0 tf_30_1 tf_30_2 tf_30_3 tl_31 ts_31 tz_31 tsl_31 tl_32 ts_32 tz_32 tsz_32 tag_32 tb_32 tf_32_0 tf_32_1 tf_32_2 tl_33 ts_33 tz_33 tsz_33 tag_33 tb_33 tf_33_0 tf_33_1 tf_33_2 tl_34 ts_34 tz_34 tsl_34 tl_35 ts_35 tz_35 tsz_35 tag_35
attribute [go_sem] tb_35 tf_35_0 tf_35_1 tf_35_2 tf_35_3 tf_35_4 tf_35_5 tf_35_6 tf_35_7 tf_35_8 tf_35_9 tf_35_10 tf_35_11 tf_35_12 tf_35_13 tf_35_14 tf_35_15 tf_35_16 tl_36 ts_36 tz_36 tsz_36 tag_36 tb_36 tf_36_0 tf_36_1 tf_36_2 tf_36_3 tf_36_4 tf_36_5 tf_36_6 tf_36_7 tf_36_8 tf_36_9 tf_36_10 tf_36_11 tf_36_12 tf_36_13 tf_36_14 tf_36_15
attribute [go_sem] tf_36_16 tl_37 ts_37 tz_37 tsl_37 tl_38 ts_38 tz_38 tsl_38 tl_39 ts_39 tz_39 tsz_39 tag_39 tb_39 tf_39_0 tf_39_1 tl_40 ts_40 tz_40 tsz_40 tag_40 tb_40 tf_40_0 tf_40_1 tl_41 ts_41 tz_41 tsz_41 tag_41 tb_41 tf_41_0 tf_41_1 tf_41_2 tf_41_3 tf_41_4 tf_41_5 tf_41_6 tf_41_7 tf_41_8
attribute [go_sem] tf_41_9 tf_41_10 tf_41_11 tl_42 ts_42 tz_42 tsz_42 tag_42 tb_42 tf_42_0 tf_42_1 tf_42_2 tf_42_3 tf_42_4 tf_42_5 tf_42_6 tf_42_7 tf_42_8 tf_42_9 tf_42_10 tf_42_11 tl_43 ts_43 tz_43 tsz_43 tag_43 tb_43 tf_43_0 tf_43_1 tf_43_2 tf_43_3 tf_43_4 tl_44 ts_44 tz_44 tsz_44 tag_44 tb_44 tf_44_0 tf_44_1
attribute [go_sem] tf_44_2 tf_44_3 tf_44_4 tl_45 ts_45 tz_45 tsz_45 tag_45 tb_45 tf_45_0 tf_45_1 tf_45_2 tf_45_3 tf_45_4 tf_45_5 tf_45_6 tf_45_7 tf_45_8 tf_45_9 tf_45_10 tf_45_11 tf_45_12 tf_45_13 tf_45_14 tl_46 ts_46 tz_46 tsz_46 tag_46 tb_46 tf_46_0 tf_46_1 tf_46_2 tf_46_3 tf_46_4 tf_46_5 tf_46_6 tf_46_7 tf_46_8 tf_46_9
attribute [go_sem] tf_46_10 tf_46_11 tf_46_12 tf_46_13 tf_46_14 tl_49 ts_49 tz_49 tsz_49 tag_49 tb_49 tf_49_0 tf_49_1 tl_50 ts_50 tz_50 tsl_50 tl_51 ts_51 tz_51 tsl_51 tl_52 ts_52 tz_52 tsl_52 tl_53 ts_53 tz_53 tsz_53 tag_53 tb_53 tf_53_0 tf_53_1 tf_53_2 tl_54 ts_54 tz_54 tsz_54 tag_54 tb_54
attribute [go_sem] tf_54_0 tf_54_1 tf_54_2 tf_54_3 tl_55 ts_55 tz_55 tsl_55 tl_56 ts_56 tz_56 tsz_56 tag_56 tb_56 tf_56_0 tf_56_1 tf_56_2 tl_57 ts_57 tz_57 tsz_57 tag_57 tb_57 tf_57_0 tf_57_1 tf_57_2 tl_58 ts_58 tz_58 tsz_58 tag_58 tb_58 tf_58_0 tf_58_1 tf_58_2 tf_58_3 tf_58_4 tf_58_5 tf_58_6 tf_58_7
attribute [go_sem] tf_58_8 tf_58_9 tf_58_10 tf_58_11 tf_58_12 tf_58_13 tf_58_14 tf_58_15 tf_58_16 tl_59 ts_59 tz_59 tsz_59 tag_59 tb_59 tf_59_0 tf_59_1 tf_59_2 tf_59_3 tf_59_4 tf_59_5 tf_59_6 tf_59_7 tf_59_8 tf_59_9 tf_59_10 tf_59_11 tf_59_12 tf_59_13 tf_59_14 tf_59_15 tf_59_16 tl_60 ts_60 tz_60 tsl_60 tl_61 ts_61 tz_61 tsl_61
attribute [go_sem] tl_62 ts_62 tz_62 tsz_62 tag_62 tb_62 tf_62_0 tf_62_1 tl_63 ts_63 tz_63 tsz_63 tag_63 tb_63 tf_63_0 tf_63_1 tl_64 ts_64 tz_64 tsz_64 tag_64 tb_64 tf_64_0 tf_64_1 tf_64_2 tf_64_3 tf_64_4 tf_64_5 tf_64_6 tf_64_7 tf_64_8 tf_64_9 tf_64_10 tf_64_11 tl_65 ts_65 tz_65 tsz_65 tag_65 tb_65
attribute [go_sem] tf_65_0 tf_65_1 tf_65_2 tf_65_3 tf_65_4 tf_65_5 tf_65_6 tf_65_7 tf_65_8 tf_65_9 tf_65_10 tf_65_11 tl_68 ts_68 tz_68 tsz_68 tag_68 tb_68 tf_68_0 tf_68_1 tf_68_2 tf_68_3 tf_68_4 tl_69 ts_69 tz_69 tsz_69 tag_69 tb_69 tf_69_0 tf_69_1 tf_69_2 tf_69_3 tf_69_4 tf_69_5 tf_69_6 tf_69_7 tf_69_8 tf_69_9 tf_69_10
attribute [go_sem] tf_69_11 tf_69_12 tf_69_13 tf_69_14 tl_70 ts_70 tz_70 tsz_70 tag_70 tb_70 tf_70_0 tf_70_1 tf_70_2 tf_70_3 tf_70_4 tf_70_5 tf_70_6 tf_70_7 tf_70_8 tf_70_9 tf_70_10 tf_70_11 tf_70_12 tf_70_13 tf_70_14 tl_75 ts_75 tz_75 tsl_75 tl_79 ts_79 tz_79 tsl_79 tl_88 ts_88 tz_88 tsz_88 tag_88 tb_88 tf_88_0
attribute [go_sem] tf_88_1 tf_88_2 tf_88_3 tl_89 ts_89 tz_89 tsz_89 tag_89 tb_89 tf_89_0 tf_89_1 tf_89_2 tf_89_3 tl_90 ts_90 tz_90 tsz_90 tag_90 tb_90 tf_90_0 tf_90_1 tf_90_2 tf_90_3 tf_90_4 tf_90_5 tf_90_6 tl_91 ts_91 tz_91 tsz_91 tag_91 tb_91 tf_91_0 tf_91_1 tf_91_2 tf_91_3 tf_91_4 tf_91_5 tf_91_6 tl_95
attribute [go_sem] ts_95 tz_95 tsz_95 tag_95 tb_95 tf_95_0 tf_95_1 tf_95_2 tf_95_3 tl_96 ts_96 tz_96 tsz_96 tag_96 tb_96 tf_96_0 tf_96_1 tf_96_2 tf_96_3 tf_96_4 tf_96_5 tf_96_6 tl_97 ts_97 tz_97 tsz_97 tag_97 tb_97 tf_97_0 tf_97_1 tf_97_2 tf_97_3 tf_97_4 tf_97_5 tf_97_6 tl_156 ts_156 tz_156 tl_177 ts_177
attribute [go_sem] tz_177 tsl_177 tl_199 ts_199 tz_199 tsz_199 tag_199 tb_199 tf_199_0 tf_199_1 tf_199_2 tl_200 ts_200 tz_200 tsz_200 tag_200 tb_200 tf_200_0 tf_200_1 tf_200_2 tl_201 ts_201 tz_201 tsz_201 tag_201 tb_201 tf_201_0 tf_201_1 tf_201_2 tf_201_3 tf_201_4 tf_201_5 tf_201_6 tf_201_7 tl_202 ts_202 tz_202 tsz_202 tag_202 tb_202
attribute [go_sem] tf_202_0 tf_202_1 tf_202_2 tf_202_3 tf_202_4 tf_202_5 tf_202_6 tf_202_7 tl_214 ts_214 tz_214 tsz_214 tag_214 tb_214 tf_214_0 tf_214_1 tf_214_2 tf_214_3 tf_214_4 tf_214_5 tl_215 ts_215 tz_215 tsz_215 tag_215 tb_215 tf_215_0 tf_215_1 tf_215_2 tf_215_3 tf_215_4 tf_215_5 tl_231 ts_231 tz_231 tsz_231 tag_231 tb_231 tf_231_0 tf_231_1
attribute [go_sem] tf_231_2 tl_232 ts_232 tz_232 tsz_232 tag_232 tb_232 tf_232_0 tf_232_1 tf_232_2 tf_232_3 tf_232_4 tf_232_5 tf_232_6 tf_232_7 tl_233 ts_233 tz_233 tsz_233 tag_233 tb_233 tf_233_0 tf_233_1 tf_233_2 tf_233_3 tf_233_4 tf_233_5 tf_233_6 tf_233_7 tl_235 ts_235 tz_235 tsz_235 tag_235 tb_235 tf_235_0 tf_235_1 tf_235_2 tf_235_3 tf_235_4
attribute [go_sem] tf_235_5 tl_236 ts_236 tz_236 tsz_236 tag_236 tb_236 tf_236_0 tf_236_1 tf_236_2 tf_236_3 tf_236_4 tf_236_5 tl_242 ts_242 tz_242 tl_243 ts_243 tz_243 tl_263 ts_263 tz_263 tsl_263 tl_270 ts_270 tz_270 tsz_270 tag_270 tb_270 tf_270_0 tf_270_1 tl_271 ts_271 tz_271 tsz_271 tag_271 tb_271 tf_271_0 tf_271_1 tl_272
attribute [go_sem] ts_272 tz_272 tsz_272 tag_272 tb_272 tf_272_0 tf_272_1 tl_286 ts_286 tz_286 tsz_286 tag_286 tb_286 tf_286_0 tf_286_1 tf_286_2 tf_286_3 tl_288 ts_288 tl_289 ts_289 tsz_289 tag_289 tl_292 ts_292 tz_292 tl_296 ts_296 tz_296 tl_299 ts_299 tsz_299 tag_299 tf_299_0 tf_299_1 tf_299_2 tf_299_3 tf_299_4 tf_299_5 tf_299_6
attribute [go_sem] tf_299_8 tf_299_9 tf_299_10 tcv_3_5 tcv_177_9
end
section
open Go.RowKit

theorem w64 {n : Int} (h : -9223372036854775808 ≤ n ∧ n ≤ 9223372036854775807) : IntKind.i64.wrap n = n := by
 rw [IntKind.wrap_i64]; omega
theorem w8 {n : Int} (h : 0 ≤ n ∧ n ≤ 255) : IntKind.u8.wrap n = n := by
 rw [IntKind.wrap_u8]; omega
theorem ints_get {l : List Int} {k : Nat} (h : k < l.length) : (l.map intC)[k]? = some [.int .i64 l[k]] := by simp [intC, h]
theorem cast_add (a b : Nat) : ((a + b : Nat) : Int) = (a : Int) + (b : Int) := Int.natCast_add a b
theorem cast_num (n : Nat) : ((OfNat.ofNat n : Nat) : Int) = OfNat.ofNat n := rfl
theorem cast_one : ((1 : Nat) : Int) = 1 := rfl
theorem cast_zero : ((0 : Nat) : Int) = 0 := rfl
theorem take_len_map {α β : Type} (f : α → β) (l : List α) : List.take l.length (List.map f l) = List.map f l := by
 rw [List.take_of_length_le (by simp)]
theorem ez_1 : ((1 : Nat) = 0) = False := eq_false (by decide)
theorem ez_2 : ((2 : Nat) = 0) = False := eq_false (by decide)
theorem ez_3 : ((3 : Nat) = 0) = False := eq_false (by decide)
theorem ez_4 : ((4 : Nat) = 0) = False := eq_false (by decide)
theorem ez_5 : ((5 : Nat) = 0) = False := eq_false (by decide)
theorem ez_6 : ((6 : Nat) = 0) = False := eq_false (by decide)
theorem ez_7 : ((7 : Nat) = 0) = False := eq_false (by decide)
theorem ez_8 : ((8 : Nat) = 0) = False := eq_false (by decide)
theorem ez_9 : ((9 : Nat) = 0) = False := eq_false (by decide)
theorem ez_10 : ((10 : Nat) = 0) = False := eq_false (by decide)
theorem ez_11 : ((11 : Nat) = 0) = False := eq_false (by decide)
theorem ez_12 : ((12 : Nat) = 0) = False := eq_false (by decide)
theorem ez_13 : ((13 : Nat) = 0) = False := eq_false (by decide)
theorem ez_14 : ((14 : Nat) = 0) = False := eq_false (by decide)
theorem ez_15 : ((15 : Nat) = 0) = False := eq_false (by decide)
theorem ez_16 : ((16 : Nat) = 0) = False := eq_false (by decide)
theorem ez_17 : ((17 : Nat) = 0) = False := eq_false (by decide)
theorem ez_18 : ((18 : Nat) = 0) = False := eq_false (by decide)
theorem ez_19 : ((19 : Nat) = 0) = False := eq_false (by decide)
theorem ez_20 : ((20 : Nat) = 0) = False := eq_false (by decide)
theorem ez_21 : ((21 : Nat) = 0) = False := eq_false (by decide)
theorem ez_22 : ((22 : Nat) = 0) = False := eq_false (by decide)
theorem ez_23 : ((23 : Nat) = 0) = False := eq_false (by decide)
theorem ez_24 : ((24 : Nat) = 0) = False := eq_false (by decide)
theorem ez_25 : ((25 : Nat) = 0) = False := eq_false (by decide)
theorem ez_26 : ((26 : Nat) = 0) = False := eq_false (by decide)
theorem ez_27 : ((27 : Nat) = 0) = False := eq_false (by decide)
theorem ez_28 : ((28 : Nat) = 0) = False := eq_false (by decide)
theorem ez_29 : ((29 : Nat) = 0) = False := eq_false (by decide)
theorem ez_30 : ((30 : Nat) = 0) = False := eq_false (by decide)
theorem ez_31 : ((31 : Nat) = 0) = False := eq_false (by decide)
theorem ez_32 : ((32 : Nat) = 0) = False := eq_false (by decide)
theorem ez_33 : ((33 : Nat) = 0) = False := eq_false (by decide)
theorem ez_34 : ((34 : Nat) = 0) = False := eq_false (by decide)
theorem ez_35 : ((35 : Nat) = 0) = False := eq_false (by decide)
theorem ez_36 : ((36 : Nat) = 0) = False := eq_false (by decide)
theorem ez_37 : ((37 : Nat) = 0) = False := eq_false (by decide)
theorem ez_38 : ((38 : Nat) = 0) = False := eq_false (by decide)
theorem ez_39 : ((39 : Nat) = 0) = False := eq_false (by decide)
attribute [go_sem] ez_1 ez_2 ez_3 ez_4 ez_5 ez_6 ez_7 ez_8 ez_9 ez_10 ez_11 ez_12 ez_13 ez_14 ez_15 ez_16 ez_17 ez_18 ez_19 ez_20 ez_21 ez_22 ez_23 ez_24 ez_25 ez_26 ez_27 ez_28 ez_29 ez_30 ez_31 ez_32 ez_33 ez_34 ez_35 ez_36 ez_37 ez_38 ez_39 if_true if_false
attribute [go_sem] ne_eq not_false_eq_true Nat.le_refl take_len_map cast_add cast_num cast_one cast_zero
attribute [go_sem] Bool.false_eq_true false_implies imp_self and_true true_and Bool.false_and Bool.true_and Bool.and_true Bool.and_false
theorem byteSc_byteC (b : UInt8) : byteSc (byteC b) = b := by simp [byteC, byteSc]
theorem map_byteSc (l : List UInt8) : List.map byteSc (List.map byteC l) = l := by
 rw [List.map_map]
 have : byteSc ∘ byteC = id := funext fun b => byteSc_byteC b
 rw [this, List.map_id]
theorem take_1add {α : Type} (n : Nat) (a : α) (l : List α) : List.take (1 + n) (a :: l) = a :: List.take n l := by
 rw [Nat.add_comm]; rfl
theorem drop_1add {α : Type} (n : Nat) (a : α) (l : List α) : List.drop (1 + n) (a :: l) = List.drop n l := by
 rw [Nat.add_comm]; rfl
attribute [go_sem] byteSc_byteC map_byteSc take_1add drop_1add
theorem isByte_byteC (b : UInt8) : isByte (byteC b) = true := by
 rfl
theorem all_byteC (l : List UInt8) : (∀ c, c ∈ List.map byteC l → isByte c = true) = True := by
 refine eq_true fun c hc => ?_
 obtain ⟨b, _, rfl⟩ := List.mem_map.1 hc
 exact isByte_byteC b
theorem getD_at' {α : Type} {l : List α} {k : Nat} (d : α) (h : k < l.length) : l.getD k d = l[k] := by
 rw [List.getD_eq_getElem?_getD, List.getElem?_eq_getElem h]; rfl
theorem ntmod_2 (n : Nat) : (n : Int).tmod 2 = ((n % 2 : Nat) : Int) := by
 rw [Int.tmod_eq_emod_of_nonneg (by omega)]; omega
theorem ntdiv_2 (n : Nat) : (n : Int).tdiv 2 = ((n / 2 : Nat) : Int) := by
 rw [Int.tdiv_eq_ediv_of_nonneg (by omega)]; omega
attribute [go_sem] ntmod_2 ntdiv_2
theorem ntmod_3 (n : Nat) : (n : Int).tmod 3 = ((n % 3 : Nat) : Int) := by
 rw [Int.tmod_eq_emod_of_nonneg (by omega)]; omega
theorem ntdiv_3 (n : Nat) : (n : Int).tdiv 3 = ((n / 3 : Nat) : Int) := by
 rw [Int.tdiv_eq_ediv_of_nonneg (by omega)]; omega
attribute [go_sem] ntmod_3 ntdiv_3
theorem ntmod_4 (n : Nat) : (n : Int).tmod 4 = ((n % 4 : Nat) : Int) := by
 rw [Int.tmod_eq_emod_of_nonneg (by omega)]; omega
theorem ntdiv_4 (n : Nat) : (n : Int).tdiv 4 = ((n / 4 : Nat) : Int) := by
 rw [Int.tdiv_eq_ediv_of_nonneg (by omega)]; omega
attribute [go_sem] ntmod_4 ntdiv_4
theorem ntmod_5 (n : Nat) : (n : Int).tmod 5 = ((n % 5 : Nat) : Int) := by
 rw [Int.tmod_eq_emod_of_nonneg (by omega)]; omega
theorem ntdiv_5 (n : Nat) : (n : Int).tdiv 5 = ((n / 5 : Nat) : Int) := by
 rw [Int.tdiv_eq_ediv_of_nonneg (by omega)]; omega
attribute [go_sem] ntmod_5 ntdiv_5
theorem ntmod_6 (n : Nat) : (n : Int).tmod 6 = ((n % 6 : Nat) : Int) := by
 rw [Int.tmod_eq_emod_of_nonneg (by omega)]; omega
theorem ntdiv_6 (n : Nat) : (n : Int).tdiv 6 = ((n / 6 : Nat) : Int) := by
 rw [Int.tdiv_eq_ediv_of_nonneg (by omega)]; omega
attribute [go_sem] ntmod_6 ntdiv_6
theorem ntmod_8 (n : Nat) : (n : Int).tmod 8 = ((n % 8 : Nat) : Int) := by
 rw [Int.tmod_eq_emod_of_nonneg (by omega)]; omega
theorem ntdiv_8 (n : Nat) : (n : Int).tdiv 8 = ((n / 8 : Nat) : Int) := by
 rw [Int.tdiv_eq_ediv_of_nonneg (by omega)]; omega
attribute [go_sem] ntmod_8 ntdiv_8
theorem ntmod_10 (n : Nat) : (n : Int).tmod 10 = ((n % 10 : Nat) : Int) := by
 rw [Int.tmod_eq_emod_of_nonneg (by omega)]; omega
theorem ntdiv_10 (n : Nat) : (n : Int).tdiv 10 = ((n / 10 : Nat) : Int) := by
 rw [Int.tdiv_eq_ediv_of_nonneg (by omega)]; omega
attribute [go_sem] ntmod_10 ntdiv_10
theorem ntmod_16 (n : Nat) : (n : Int).tmod 16 = ((n % 16 : Nat) : Int) := by
 rw [Int.tmod_eq_emod_of_nonneg (by omega)]; omega
theorem ntdiv_16 (n : Nat) : (n : Int).tdiv 16 = ((n / 16 : Nat) : Int) := by
 rw [Int.tdiv_eq_ediv_of_nonneg (by omega)]; omega
attribute [go_sem] ntmod_16 ntdiv_16
theorem ntmod_32 (n : Nat) : (n : Int).tmod 32 = ((n % 32 : Nat) : Int) := by
 rw [Int.tmod_eq_emod_of_nonneg (by omega)]; omega
theorem ntdiv_32 (n : Nat) : (n : Int).tdiv 32 = ((n / 32 : Nat) : Int) := by
 rw [Int.tdiv_eq_ediv_of_nonneg (by omega)]; omega
attribute [go_sem] ntmod_32 ntdiv_32
theorem toNat_addz {k : Nat} {z : Int} (h : 0 ≤ z) : ((k : Int) + z).toNat = k + z.toNat := by omega
def strC (s : List UInt8) : List Sc := [.st s]
theorem strs_get {l : List (List UInt8)} {k : Nat} (h : k < l.length) : (l.map strC)[k]? = some [.st l[k]] := by simp [strC, h]
theorem getD_u8 {l : List UInt8} {k : Nat} (h : k < l.length) : l.getD k 0 = l[k] := getD_at' 0 h
attribute [go_sem] strC intC
theorem dec_t {a b : Int} (h : a < b) : decide (a < b) = true := decide_eq_true h
theorem dec_f {a b : Int} (h : ¬ a < b) : decide (a < b) = false := decide_eq_false h
theorem dle_t {a b : Int} (h : a ≤ b) : decide (a ≤ b) = true := decide_eq_true h
theorem dle_f {a b : Int} (h : ¬ a ≤ b) : decide (a ≤ b) = false := decide_eq_false h
theorem ieq_t {a b : Int} (h : a = b) : (a == b) = true := beq_iff_eq.2 h
theorem ieq_f {a b : Int} (h : ¬ a = b) : (a == b) = false := beq_eq_false_iff_ne.2 h
theorem ine_t {a b : Int} (h : ¬ a = b) : (a != b) = true := bne_iff_ne.2 h
theorem ine_f {a b : Int} (h : a = b) : (a != b) = false := bne_eq_false_iff_eq.2 h
attribute [go_sem] w64 w8 toNat_addz getD_u8 map_get dec_t dec_f dle_t dle_f ieq_t ieq_f ine_t ine_f List.not_mem_nil implies_true or_imp forall_and forall_eq isByte_byteC all_byteC List.length_append
end
section
def decGo (n : Nat) (acc : List UInt8) : List UInt8 :=
 if h : n < 10 then UInt8.ofNat (48 + n) :: acc else decGo (n / 10) (UInt8.ofNat (48 + n % 10) :: acc)
termination_by n
decreasing_by omega
theorem decGo_lt (n : Nat) (acc : List UInt8) : acc.length < (decGo n acc).length := by
 induction n using Nat.strongRecOn generalizing acc with
 | _ n ih =>
  rw [decGo]
  split
  ·simp
  ·have := ih (n / 10) (by omega) (UInt8.ofNat (48 + n % 10) :: acc)
   simp only [List.length_cons] at this
   omega
theorem decGo_le (k : Nat) : ∀ (n : Nat) (acc : List UInt8), n < 10 ^ (k + 1) → (decGo n acc).length ≤ acc.length + (k + 1) := by
 induction k with
 | zero =>
  intro n acc h
  rw [decGo, dif_pos (by omega)]
  simp
 | succ k ih =>
  intro n acc h
  rw [decGo]
  split
  ·simp
  ·have := ih (n / 10) (UInt8.ofNat (48 + n % 10) :: acc) (by rw [Nat.pow_succ] at h; omega)
   simp only [List.length_cons] at this
   omega
theorem decGo_20 {n : Int} (h : I64 n) : (decGo n.natAbs []).length ≤ 20 := by
 have h' : -9223372036854775808 ≤ n ∧ n ≤ 9223372036854775807 := h
 have := decGo_le 19 n.natAbs [] (by omega)
 simpa using this
def isN (n : Int) : Bool := decide (0 ≤ n) && decide (n ≤ 1000000000)
def inR (n a b : Int) : Bool := decide (a ≤ n) && decide (n ≤ b)
def letNums (x : LetterD) : List Int := [x.frm, x.to, x.port, x.key, x.token, x.nonce, x.give, x.sgn, x.id, x.addr, x.pos, x.tag.kind, x.tag.one, x.tag.two, x.tag.a, x.tag.b]
def letOk (x : LetterD) : Bool := inR x.kind 1 13 && (letNums x).all isN && decide (x.text.length ≤ 20)
def polOk (p : PolicyD) : Bool := if p.kind = 2 then inR p.many 1 8 else (p.kind == 1 || p.kind == 3) && p.many == 0
end
section
open Go.ChangeShapes Go.WideShapes Go.ChangeAt Go.RowKit

structure PiecesD where
 read : Int
 ready : List UInt8
 list : List PieceD
deriving DecidableEq, Inhabited
def PiecesD.cs (x : PiecesD) (o : Nat) : List Sc := [.int .i64 x.read, .st x.ready, .sl (o + 0) 0 x.list.length]
def PiecesD.hp (x : PiecesD) (own : Bool) : Hp := [some ⟨x.list.map PieceD.cs, 2, 272, own, true⟩]
def PiecesD.hpL (x : PiecesD) : Hp := [some ⟨x.list.map PieceD.cs, 2, 271, false, true⟩]
def PiecesD.wf (x : PiecesD) : Prop := I64 x.read ∧ x.ready.length ≤ maxLen ∧ (∀ y ∈ x.list, PieceD.wf y) ∧ x.list.length ≤ maxLen
def PiecesD.ls : List L1 := [.one .int, .one .str, .sl [.int, .str]]
theorem PiecesD.conv {w : World} {cs : List Value} (h : See1s w PiecesD.ls cs) : ∃ (x : PiecesD) (β : Be), β.length = 1 ∧ x.wf ∧ (∀ β1 β2 : Be, L2 (ScR (β1 ++ (β ++ β2))) (x.cs β1.length) cs) ∧ (∀ β0 : Be, RoL β0 w β x.hpL) := by
 obtain ⟨_, _, e, ⟨v0, rfl, wv0⟩, h⟩ := h; subst e
 obtain ⟨_, _, e, ⟨v1, rfl, wv1⟩, h⟩ := h; subst e
 obtain ⟨_, _, e, s2h, h⟩ := h; subst e
 obtain rfl := h
 obtain ⟨s2, ps2, s2i, s2l, s2w⟩ := see_slx PieceD.cs [.int, .str] PieceD.wf PieceD.flat (fun _ h => PieceD.conv h) s2h
 refine ⟨⟨v0, v1.data.toList, s2⟩, [ps2], rfl, ⟨wv0, wv1, s2w, s2l⟩, fun β1 β2 => ?_, fun β0 => ?_⟩
 ·exact ⟨rfl, ⟨rfl, ⟨s2i.val _ _ (by simp), trivial⟩⟩⟩
 ·exact ⟨⟨rfl, s2i.ob _ _, flatL_map PieceD.flat _⟩, trivial⟩

structure KnownD where
 keys : List Int
 tags : List TagD
deriving DecidableEq, Inhabited
def KnownD.cs (x : KnownD) (o : Nat) : List Sc := [.sl (o + 0) 0 x.keys.length, .sl (o + 1) 0 x.tags.length]
def KnownD.hp (x : KnownD) (own : Bool) : Hp := [some ⟨x.keys.map intC, 1, 3, own, true⟩, some ⟨x.tags.map TagD.cs, 5, 68, own, true⟩]
def KnownD.hpL (x : KnownD) : Hp := [some ⟨x.keys.map intC, 1, 3, false, true⟩, some ⟨x.tags.map TagD.cs, 5, 44, false, true⟩]
def KnownD.wf (x : KnownD) : Prop := (∀ y ∈ x.keys, I64 y) ∧ (∀ y ∈ x.tags, TagD.wf y) ∧ x.keys.length ≤ maxLen ∧ x.tags.length ≤ maxLen
def KnownD.ls : List L1 := [.sl [.int], .sl [.int, .int, .int, .int, .int]]
theorem KnownD.conv {w : World} {cs : List Value} (h : See1s w KnownD.ls cs) : ∃ (x : KnownD) (β : Be), β.length = 2 ∧ x.wf ∧ (∀ β1 β2 : Be, L2 (ScR (β1 ++ (β ++ β2))) (x.cs β1.length) cs) ∧ (∀ β0 : Be, RoL β0 w β x.hpL) := by
 obtain ⟨_, _, e, s0h, h⟩ := h; subst e
 obtain ⟨_, _, e, s1h, h⟩ := h; subst e
 obtain rfl := h
 obtain ⟨s0, ps0, s0i, s0l, s0w⟩ := see_slx intC [.int] I64 (fun _ => rfl) (fun _ h => intC_conv h) s0h
 obtain ⟨s1, ps1, s1i, s1l, s1w⟩ := see_slx TagD.cs [.int, .int, .int, .int, .int] TagD.wf TagD.flat (fun _ h => TagD.conv h) s1h
 refine ⟨⟨s0, s1⟩, [ps0, ps1], rfl, ⟨s0w, s1w, s0l, s1l⟩, fun β1 β2 => ?_, fun β0 => ?_⟩
 ·exact ⟨s0i.val _ _ (by simp), ⟨s1i.val _ _ (by simp), trivial⟩⟩
 ·exact ⟨⟨rfl, s0i.ob _ _, flatL_map (fun _ => rfl) _⟩, ⟨⟨rfl, s1i.ob _ _, flatL_map TagD.flat _⟩, trivial⟩⟩

structure EndD where
 side : Int
 state : Int
 key : Int
 peer : Int
 policy : PolicyD
 own : List AddrD
 far : List AddrD
 subs : List SubD
 halfs : List HalfD
 bucket : BucketD
 out : OutD
 inp : PiecesD
 done : List Int
 over : List Int
 draw : Int
 now : Int
 pick : Int
deriving DecidableEq, Inhabited
def EndD.cs (x : EndD) (o : Nat) : List Sc := [.int .i64 x.side, .int .i64 x.state, .int .i64 x.key, .int .i64 x.peer, .int .i64 x.policy.kind, .int .i64 x.policy.many, .sl (o + 0) 0 x.own.length, .sl (o + 1) 0 x.far.length, .sl (o + 2) 0 x.subs.length, .sl (o + 3) 0 x.halfs.length, .int .i64 x.bucket.rate, .int .i64 x.bucket.burst, .int .i64 x.bucket.cur, .st x.out.text, .int .i64 x.out.base, .int .i64 x.out.sent, .int .i64 x.out.room, .int .i64 x.inp.read, .st x.inp.ready, .sl (o + 4) 0 x.inp.list.length, .sl (o + 5) 0 x.done.length, .sl (o + 6) 0 x.over.length, .int .i64 x.draw, .int .i64 x.now, .int .i64 x.pick]
def EndD.hp (x : EndD) (own : Bool) : Hp := [some ⟨x.own.map AddrD.cs, 4, 95, own, true⟩, some ⟨x.far.map AddrD.cs, 4, 95, own, true⟩, some ⟨x.subs.map SubD.cs, 10, 202, own, true⟩, some ⟨x.halfs.map HalfD.cs, 8, 215, own, true⟩, some ⟨x.inp.list.map PieceD.cs, 2, 272, own, true⟩, some ⟨x.done.map intC, 1, 3, own, true⟩, some ⟨x.over.map intC, 1, 3, own, true⟩]
def EndD.hpL (x : EndD) : Hp := [some ⟨x.own.map AddrD.cs, 4, 89, false, true⟩, some ⟨x.far.map AddrD.cs, 4, 89, false, true⟩, some ⟨x.subs.map SubD.cs, 10, 233, false, true⟩, some ⟨x.halfs.map HalfD.cs, 8, 236, false, true⟩, some ⟨x.inp.list.map PieceD.cs, 2, 271, false, true⟩, some ⟨x.done.map intC, 1, 3, false, true⟩, some ⟨x.over.map intC, 1, 3, false, true⟩]
def EndD.wf (x : EndD) : Prop := I64 x.side ∧ I64 x.state ∧ I64 x.key ∧ I64 x.peer ∧ I64 x.policy.kind ∧ I64 x.policy.many ∧ I64 x.bucket.rate ∧ I64 x.bucket.burst ∧ I64 x.bucket.cur ∧ x.out.text.length ≤ maxLen ∧ I64 x.out.base ∧ I64 x.out.sent ∧ I64 x.out.room ∧ I64 x.inp.read ∧ x.inp.ready.length ≤ maxLen ∧ I64 x.draw ∧ I64 x.now ∧ I64 x.pick ∧ (∀ y ∈ x.own, AddrD.wf y) ∧ (∀ y ∈ x.far, AddrD.wf y) ∧ (∀ y ∈ x.subs, SubD.wf y) ∧ (∀ y ∈ x.halfs, HalfD.wf y) ∧ (∀ y ∈ x.inp.list, PieceD.wf y) ∧ (∀ y ∈ x.done, I64 y) ∧ (∀ y ∈ x.over, I64 y) ∧ x.own.length ≤ maxLen ∧ x.far.length ≤ maxLen ∧ x.subs.length ≤ maxLen ∧ x.halfs.length ≤ maxLen ∧ x.inp.list.length ≤ maxLen ∧ x.done.length ≤ maxLen ∧ x.over.length ≤ maxLen
theorem EndD.wf_inp {x : EndD} (h : x.wf) : x.inp.wf := by
 obtain ⟨_, _, _, _, _, _, _, _, _, _, _, _, _, h13, h14, _, _, _, _, _, _, _, h22, _, _, _, _, _, _, h29, _, _⟩ := h
 exact ⟨h13, h14, h22, h29⟩
def EndD.ls : List L1 := [.one .int, .one .int, .one .int, .one .int, .one .int, .one .int, .sl [.int, .int, .bool, .bool], .sl [.int, .int, .bool, .bool], .sl [.int, .int, .int, .int, .bool, .int, .int, .int, .int, .int], .sl [.int, .int, .int, .int, .int, .int, .int, .int], .one .int, .one .int, .one .int, .one .str, .one .int, .one .int, .one .int, .one .int, .one .str, .sl [.int, .str], .sl [.int], .sl [.int], .one .int, .one .int, .one .int]
theorem EndD.conv {w : World} {cs : List Value} (h : See1s w EndD.ls cs) : ∃ (x : EndD) (β : Be), β.length = 7 ∧ x.wf ∧ (∀ β1 β2 : Be, L2 (ScR (β1 ++ (β ++ β2))) (x.cs β1.length) cs) ∧ (∀ β0 : Be, RoL β0 w β x.hpL) := by
 obtain ⟨_, _, e, ⟨v0, rfl, wv0⟩, h⟩ := h; subst e
 obtain ⟨_, _, e, ⟨v1, rfl, wv1⟩, h⟩ := h; subst e
 obtain ⟨_, _, e, ⟨v2, rfl, wv2⟩, h⟩ := h; subst e
 obtain ⟨_, _, e, ⟨v3, rfl, wv3⟩, h⟩ := h; subst e
 obtain ⟨_, _, e, ⟨v4, rfl, wv4⟩, h⟩ := h; subst e
 obtain ⟨_, _, e, ⟨v5, rfl, wv5⟩, h⟩ := h; subst e
 obtain ⟨_, _, e, s6h, h⟩ := h; subst e
 obtain ⟨_, _, e, s7h, h⟩ := h; subst e
 obtain ⟨_, _, e, s8h, h⟩ := h; subst e
 obtain ⟨_, _, e, s9h, h⟩ := h; subst e
 obtain ⟨_, _, e, ⟨v10, rfl, wv10⟩, h⟩ := h; subst e
 obtain ⟨_, _, e, ⟨v11, rfl, wv11⟩, h⟩ := h; subst e
 obtain ⟨_, _, e, ⟨v12, rfl, wv12⟩, h⟩ := h; subst e
 obtain ⟨_, _, e, ⟨v13, rfl, wv13⟩, h⟩ := h; subst e
 obtain ⟨_, _, e, ⟨v14, rfl, wv14⟩, h⟩ := h; subst e
 obtain ⟨_, _, e, ⟨v15, rfl, wv15⟩, h⟩ := h; subst e
 obtain ⟨_, _, e, ⟨v16, rfl, wv16⟩, h⟩ := h; subst e
 obtain ⟨_, _, e, ⟨v17, rfl, wv17⟩, h⟩ := h; subst e
 obtain ⟨_, _, e, ⟨v18, rfl, wv18⟩, h⟩ := h; subst e
 obtain ⟨_, _, e, s19h, h⟩ := h; subst e
 obtain ⟨_, _, e, s20h, h⟩ := h; subst e
 obtain ⟨_, _, e, s21h, h⟩ := h; subst e
 obtain ⟨_, _, e, ⟨v22, rfl, wv22⟩, h⟩ := h; subst e
 obtain ⟨_, _, e, ⟨v23, rfl, wv23⟩, h⟩ := h; subst e
 obtain ⟨_, _, e, ⟨v24, rfl, wv24⟩, h⟩ := h; subst e
 obtain rfl := h
 obtain ⟨s6, ps6, s6i, s6l, s6w⟩ := see_slx AddrD.cs [.int, .int, .bool, .bool] AddrD.wf AddrD.flat (fun _ h => AddrD.conv h) s6h
 obtain ⟨s7, ps7, s7i, s7l, s7w⟩ := see_slx AddrD.cs [.int, .int, .bool, .bool] AddrD.wf AddrD.flat (fun _ h => AddrD.conv h) s7h
 obtain ⟨s8, ps8, s8i, s8l, s8w⟩ := see_slx SubD.cs [.int, .int, .int, .int, .bool, .int, .int, .int, .int, .int] SubD.wf SubD.flat (fun _ h => SubD.conv h) s8h
 obtain ⟨s9, ps9, s9i, s9l, s9w⟩ := see_slx HalfD.cs [.int, .int, .int, .int, .int, .int, .int, .int] HalfD.wf HalfD.flat (fun _ h => HalfD.conv h) s9h
 obtain ⟨s19, ps19, s19i, s19l, s19w⟩ := see_slx PieceD.cs [.int, .str] PieceD.wf PieceD.flat (fun _ h => PieceD.conv h) s19h
 obtain ⟨s20, ps20, s20i, s20l, s20w⟩ := see_slx intC [.int] I64 (fun _ => rfl) (fun _ h => intC_conv h) s20h
 obtain ⟨s21, ps21, s21i, s21l, s21w⟩ := see_slx intC [.int] I64 (fun _ => rfl) (fun _ h => intC_conv h) s21h
 refine ⟨⟨v0, v1, v2, v3, ⟨v4, v5⟩, s6, s7, s8, s9, ⟨v10, v11, v12⟩, ⟨v13.data.toList, v14, v15, v16⟩, ⟨v17, v18.data.toList, s19⟩, s20, s21, v22, v23, v24⟩, [ps6, ps7, ps8, ps9, ps19, ps20, ps21], rfl, ⟨wv0, wv1, wv2, wv3, wv4, wv5, wv10, wv11, wv12, wv13, wv14, wv15, wv16, wv17, wv18, wv22, wv23, wv24, s6w, s7w, s8w, s9w, s19w, s20w, s21w, s6l, s7l, s8l, s9l, s19l, s20l, s21l⟩, fun β1 β2 => ?_, fun β0 => ?_⟩
 ·exact ⟨rfl, ⟨rfl, ⟨rfl, ⟨rfl, ⟨rfl, ⟨rfl, ⟨s6i.val _ _ (by simp), ⟨s7i.val _ _ (by simp), ⟨s8i.val _ _ (by simp), ⟨s9i.val _ _ (by simp), ⟨rfl, ⟨rfl, ⟨rfl, ⟨rfl, ⟨rfl, ⟨rfl, ⟨rfl, ⟨rfl, ⟨rfl, ⟨s19i.val _ _ (by simp), ⟨s20i.val _ _ (by simp), ⟨s21i.val _ _ (by simp), ⟨rfl, ⟨rfl, ⟨rfl, trivial⟩⟩⟩⟩⟩⟩⟩⟩⟩⟩⟩⟩⟩⟩⟩⟩⟩⟩⟩⟩⟩⟩⟩⟩⟩
 ·exact ⟨⟨rfl, s6i.ob _ _, flatL_map AddrD.flat _⟩, ⟨⟨rfl, s7i.ob _ _, flatL_map AddrD.flat _⟩, ⟨⟨rfl, s8i.ob _ _, flatL_map SubD.flat _⟩, ⟨⟨rfl, s9i.ob _ _, flatL_map HalfD.flat _⟩, ⟨⟨rfl, s19i.ob _ _, flatL_map PieceD.flat _⟩, ⟨⟨rfl, s20i.ob _ _, flatL_map (fun _ => rfl) _⟩, ⟨⟨rfl, s21i.ob _ _, flatL_map (fun _ => rfl) _⟩, trivial⟩⟩⟩⟩⟩⟩⟩

attribute [go_sem] PiecesD.cs PiecesD.hp PiecesD.hpL KnownD.cs KnownD.hp KnownD.hpL EndD.cs EndD.hp EndD.hpL
end
section
open Go.ChangeShapes Go.WideShapes Go.ChangeAt Go.RowKit

structure WorldD where
 a : EndD
 b : EndD
 bag : List LetterD
 past : List LetterD
 wroteA : List UInt8
 wroteB : List UInt8
 readA : List UInt8
 readB : List UInt8
 known : KnownD
 nums : List Int
 answersA : List Int
 answersB : List Int
deriving DecidableEq, Inhabited
def WorldD.cs (x : WorldD) (o : Nat) : List Sc := [.int .i64 x.a.side, .int .i64 x.a.state, .int .i64 x.a.key, .int .i64 x.a.peer, .int .i64 x.a.policy.kind, .int .i64 x.a.policy.many, .sl (o + 0) 0 x.a.own.length, .sl (o + 1) 0 x.a.far.length, .sl (o + 2) 0 x.a.subs.length, .sl (o + 3) 0 x.a.halfs.length, .int .i64 x.a.bucket.rate, .int .i64 x.a.bucket.burst, .int .i64 x.a.bucket.cur, .st x.a.out.text, .int .i64 x.a.out.base, .int .i64 x.a.out.sent, .int .i64 x.a.out.room, .int .i64 x.a.inp.read, .st x.a.inp.ready, .sl (o + 4) 0 x.a.inp.list.length, .sl (o + 5) 0 x.a.done.length, .sl (o + 6) 0 x.a.over.length, .int .i64 x.a.draw, .int .i64 x.a.now, .int .i64 x.a.pick, .int .i64 x.b.side, .int .i64 x.b.state, .int .i64 x.b.key, .int .i64 x.b.peer, .int .i64 x.b.policy.kind, .int .i64 x.b.policy.many, .sl (o + 7) 0 x.b.own.length, .sl (o + 8) 0 x.b.far.length, .sl (o + 9) 0 x.b.subs.length, .sl (o + 10) 0 x.b.halfs.length, .int .i64 x.b.bucket.rate, .int .i64 x.b.bucket.burst, .int .i64 x.b.bucket.cur, .st x.b.out.text, .int .i64 x.b.out.base, .int .i64 x.b.out.sent, .int .i64 x.b.out.room, .int .i64 x.b.inp.read, .st x.b.inp.ready, .sl (o + 11) 0 x.b.inp.list.length, .sl (o + 12) 0 x.b.done.length, .sl (o + 13) 0 x.b.over.length, .int .i64 x.b.draw, .int .i64 x.b.now, .int .i64 x.b.pick, .sl (o + 14) 0 x.bag.length, .sl (o + 15) 0 x.past.length, .st x.wroteA, .st x.wroteB, .st x.readA, .st x.readB, .sl (o + 16) 0 x.known.keys.length, .sl (o + 17) 0 x.known.tags.length, .sl (o + 18) 0 x.nums.length, .sl (o + 19) 0 x.answersA.length, .sl (o + 20) 0 x.answersB.length]
def WorldD.hp (x : WorldD) (own : Bool) : Hp := [some ⟨x.a.own.map AddrD.cs, 4, 95, own, true⟩, some ⟨x.a.far.map AddrD.cs, 4, 95, own, true⟩, some ⟨x.a.subs.map SubD.cs, 10, 202, own, true⟩, some ⟨x.a.halfs.map HalfD.cs, 8, 215, own, true⟩, some ⟨x.a.inp.list.map PieceD.cs, 2, 272, own, true⟩, some ⟨x.a.done.map intC, 1, 3, own, true⟩, some ⟨x.a.over.map intC, 1, 3, own, true⟩, some ⟨x.b.own.map AddrD.cs, 4, 95, own, true⟩, some ⟨x.b.far.map AddrD.cs, 4, 95, own, true⟩, some ⟨x.b.subs.map SubD.cs, 10, 202, own, true⟩, some ⟨x.b.halfs.map HalfD.cs, 8, 215, own, true⟩, some ⟨x.b.inp.list.map PieceD.cs, 2, 272, own, true⟩, some ⟨x.b.done.map intC, 1, 3, own, true⟩, some ⟨x.b.over.map intC, 1, 3, own, true⟩, some ⟨x.bag.map LetterD.cs, 19, 70, own, true⟩, some ⟨x.past.map LetterD.cs, 19, 70, own, true⟩, some ⟨x.known.keys.map intC, 1, 3, own, true⟩, some ⟨x.known.tags.map TagD.cs, 5, 68, own, true⟩, some ⟨x.nums.map intC, 1, 3, own, true⟩, some ⟨x.answersA.map intC, 1, 3, own, true⟩, some ⟨x.answersB.map intC, 1, 3, own, true⟩]
def WorldD.hpL (x : WorldD) : Hp := [some ⟨x.a.own.map AddrD.cs, 4, 89, false, true⟩, some ⟨x.a.far.map AddrD.cs, 4, 89, false, true⟩, some ⟨x.a.subs.map SubD.cs, 10, 233, false, true⟩, some ⟨x.a.halfs.map HalfD.cs, 8, 236, false, true⟩, some ⟨x.a.inp.list.map PieceD.cs, 2, 271, false, true⟩, some ⟨x.a.done.map intC, 1, 3, false, true⟩, some ⟨x.a.over.map intC, 1, 3, false, true⟩, some ⟨x.b.own.map AddrD.cs, 4, 89, false, true⟩, some ⟨x.b.far.map AddrD.cs, 4, 89, false, true⟩, some ⟨x.b.subs.map SubD.cs, 10, 233, false, true⟩, some ⟨x.b.halfs.map HalfD.cs, 8, 236, false, true⟩, some ⟨x.b.inp.list.map PieceD.cs, 2, 271, false, true⟩, some ⟨x.b.done.map intC, 1, 3, false, true⟩, some ⟨x.b.over.map intC, 1, 3, false, true⟩, some ⟨x.bag.map LetterD.cs, 19, 46, false, true⟩, some ⟨x.past.map LetterD.cs, 19, 46, false, true⟩, some ⟨x.known.keys.map intC, 1, 3, false, true⟩, some ⟨x.known.tags.map TagD.cs, 5, 44, false, true⟩, some ⟨x.nums.map intC, 1, 3, false, true⟩, some ⟨x.answersA.map intC, 1, 3, false, true⟩, some ⟨x.answersB.map intC, 1, 3, false, true⟩]
def WorldD.wf (x : WorldD) : Prop := I64 x.a.side ∧ I64 x.a.state ∧ I64 x.a.key ∧ I64 x.a.peer ∧ I64 x.a.policy.kind ∧ I64 x.a.policy.many ∧ I64 x.a.bucket.rate ∧ I64 x.a.bucket.burst ∧ I64 x.a.bucket.cur ∧ x.a.out.text.length ≤ maxLen ∧ I64 x.a.out.base ∧ I64 x.a.out.sent ∧ I64 x.a.out.room ∧ I64 x.a.inp.read ∧ x.a.inp.ready.length ≤ maxLen ∧ I64 x.a.draw ∧ I64 x.a.now ∧ I64 x.a.pick ∧ I64 x.b.side ∧ I64 x.b.state ∧ I64 x.b.key ∧ I64 x.b.peer ∧ I64 x.b.policy.kind ∧ I64 x.b.policy.many ∧ I64 x.b.bucket.rate ∧ I64 x.b.bucket.burst ∧ I64 x.b.bucket.cur ∧ x.b.out.text.length ≤ maxLen ∧ I64 x.b.out.base ∧ I64 x.b.out.sent ∧ I64 x.b.out.room ∧ I64 x.b.inp.read ∧ x.b.inp.ready.length ≤ maxLen ∧ I64 x.b.draw ∧ I64 x.b.now ∧ I64 x.b.pick ∧ x.wroteA.length ≤ maxLen ∧ x.wroteB.length ≤ maxLen ∧ x.readA.length ≤ maxLen ∧ x.readB.length ≤ maxLen ∧ (∀ y ∈ x.a.own, AddrD.wf y) ∧ (∀ y ∈ x.a.far, AddrD.wf y) ∧ (∀ y ∈ x.a.subs, SubD.wf y) ∧ (∀ y ∈ x.a.halfs, HalfD.wf y) ∧ (∀ y ∈ x.a.inp.list, PieceD.wf y) ∧ (∀ y ∈ x.a.done, I64 y) ∧ (∀ y ∈ x.a.over, I64 y) ∧ (∀ y ∈ x.b.own, AddrD.wf y) ∧ (∀ y ∈ x.b.far, AddrD.wf y) ∧ (∀ y ∈ x.b.subs, SubD.wf y) ∧ (∀ y ∈ x.b.halfs, HalfD.wf y) ∧ (∀ y ∈ x.b.inp.list, PieceD.wf y) ∧ (∀ y ∈ x.b.done, I64 y) ∧ (∀ y ∈ x.b.over, I64 y) ∧ (∀ y ∈ x.bag, LetterD.wf y) ∧ (∀ y ∈ x.past, LetterD.wf y) ∧ (∀ y ∈ x.known.keys, I64 y) ∧ (∀ y ∈ x.known.tags, TagD.wf y) ∧ (∀ y ∈ x.nums, I64 y) ∧ (∀ y ∈ x.answersA, I64 y) ∧ (∀ y ∈ x.answersB, I64 y) ∧ x.a.own.length ≤ maxLen ∧ x.a.far.length ≤ maxLen ∧ x.a.subs.length ≤ maxLen ∧ x.a.halfs.length ≤ maxLen ∧ x.a.inp.list.length ≤ maxLen ∧ x.a.done.length ≤ maxLen ∧ x.a.over.length ≤ maxLen ∧ x.b.own.length ≤ maxLen ∧ x.b.far.length ≤ maxLen ∧ x.b.subs.length ≤ maxLen ∧ x.b.halfs.length ≤ maxLen ∧ x.b.inp.list.length ≤ maxLen ∧ x.b.done.length ≤ maxLen ∧ x.b.over.length ≤ maxLen ∧ x.bag.length ≤ maxLen ∧ x.past.length ≤ maxLen ∧ x.known.keys.length ≤ maxLen ∧ x.known.tags.length ≤ maxLen ∧ x.nums.length ≤ maxLen ∧ x.answersA.length ≤ maxLen ∧ x.answersB.length ≤ maxLen
theorem WorldD.wf_a {x : WorldD} (h : x.wf) : x.a.wf := by
 obtain ⟨h0, h1, h2, h3, h4, h5, h6, h7, h8, h9, h10, h11, h12, h13, h14, h15, h16, h17, _, _, _, _, _, _, _, _, _, _, _, _, _, _, _, _, _, _, _, _, _, _, h40, h41, h42, h43, h44, h45, h46, _, _, _, _, _, _, _, _, _, _, _, _, _, _, h61, h62, h63, h64, h65, h66, h67, _, _, _, _, _, _, _, _, _, _, _, _, _, _⟩ := h
 exact ⟨h0, h1, h2, h3, h4, h5, h6, h7, h8, h9, h10, h11, h12, h13, h14, h15, h16, h17, h40, h41, h42, h43, h44, h45, h46, h61, h62, h63, h64, h65, h66, h67⟩
theorem WorldD.wf_b {x : WorldD} (h : x.wf) : x.b.wf := by
 obtain ⟨_, _, _, _, _, _, _, _, _, _, _, _, _, _, _, _, _, _, h18, h19, h20, h21, h22, h23, h24, h25, h26, h27, h28, h29, h30, h31, h32, h33, h34, h35, _, _, _, _, _, _, _, _, _, _, _, h47, h48, h49, h50, h51, h52, h53, _, _, _, _, _, _, _, _, _, _, _, _, _, _, h68, h69, h70, h71, h72, h73, h74, _, _, _, _, _, _, _⟩ := h
 exact ⟨h18, h19, h20, h21, h22, h23, h24, h25, h26, h27, h28, h29, h30, h31, h32, h33, h34, h35, h47, h48, h49, h50, h51, h52, h53, h68, h69, h70, h71, h72, h73, h74⟩
theorem WorldD.wf_known {x : WorldD} (h : x.wf) : x.known.wf := by
 obtain ⟨_, _, _, _, _, _, _, _, _, _, _, _, _, _, _, _, _, _, _, _, _, _, _, _, _, _, _, _, _, _, _, _, _, _, _, _, _, _, _, _, _, _, _, _, _, _, _, _, _, _, _, _, _, _, _, _, h56, h57, _, _, _, _, _, _, _, _, _, _, _, _, _, _, _, _, _, _, _, h77, h78, _, _, _⟩ := h
 exact ⟨h56, h57, h77, h78⟩
def WorldD.ls : List L1 := [.one .int, .one .int, .one .int, .one .int, .one .int, .one .int, .sl [.int, .int, .bool, .bool], .sl [.int, .int, .bool, .bool], .sl [.int, .int, .int, .int, .bool, .int, .int, .int, .int, .int], .sl [.int, .int, .int, .int, .int, .int, .int, .int], .one .int, .one .int, .one .int, .one .str, .one .int, .one .int, .one .int, .one .int, .one .str, .sl [.int, .str], .sl [.int], .sl [.int], .one .int, .one .int, .one .int, .one .int, .one .int, .one .int, .one .int, .one .int, .one .int, .sl [.int, .int, .bool, .bool], .sl [.int, .int, .bool, .bool], .sl [.int, .int, .int, .int, .bool, .int, .int, .int, .int, .int], .sl [.int, .int, .int, .int, .int, .int, .int, .int], .one .int, .one .int, .one .int, .one .str, .one .int, .one .int, .one .int, .one .int, .one .str, .sl [.int, .str], .sl [.int], .sl [.int], .one .int, .one .int, .one .int, .sl [.int, .int, .int, .int, .int, .int, .int, .int, .int, .int, .int, .int, .int, .int, .int, .int, .bool, .int, .str], .sl [.int, .int, .int, .int, .int, .int, .int, .int, .int, .int, .int, .int, .int, .int, .int, .int, .bool, .int, .str], .one .str, .one .str, .one .str, .one .str, .sl [.int], .sl [.int, .int, .int, .int, .int], .sl [.int], .sl [.int], .sl [.int]]
theorem WorldD.conv {w : World} {cs : List Value} (h : See1s w WorldD.ls cs) : ∃ (x : WorldD) (β : Be), β.length = 21 ∧ x.wf ∧ (∀ β1 β2 : Be, L2 (ScR (β1 ++ (β ++ β2))) (x.cs β1.length) cs) ∧ (∀ β0 : Be, RoL β0 w β x.hpL) := by
 obtain ⟨_, _, e, ⟨v0, rfl, wv0⟩, h⟩ := h; subst e
 obtain ⟨_, _, e, ⟨v1, rfl, wv1⟩, h⟩ := h; subst e
 obtain ⟨_, _, e, ⟨v2, rfl, wv2⟩, h⟩ := h; subst e
 obtain ⟨_, _, e, ⟨v3, rfl, wv3⟩, h⟩ := h; subst e
 obtain ⟨_, _, e, ⟨v4, rfl, wv4⟩, h⟩ := h; subst e
 obtain ⟨_, _, e, ⟨v5, rfl, wv5⟩, h⟩ := h; subst e
 obtain ⟨_, _, e, s6h, h⟩ := h; subst e
 obtain ⟨_, _, e, s7h, h⟩ := h; subst e
 obtain ⟨_, _, e, s8h, h⟩ := h; subst e
 obtain ⟨_, _, e, s9h, h⟩ := h; subst e
 obtain ⟨_, _, e, ⟨v10, rfl, wv10⟩, h⟩ := h; subst e
 obtain ⟨_, _, e, ⟨v11, rfl, wv11⟩, h⟩ := h; subst e
 obtain ⟨_, _, e, ⟨v12, rfl, wv12⟩, h⟩ := h; subst e
 obtain ⟨_, _, e, ⟨v13, rfl, wv13⟩, h⟩ := h; subst e
 obtain ⟨_, _, e, ⟨v14, rfl, wv14⟩, h⟩ := h; subst e
 obtain ⟨_, _, e, ⟨v15, rfl, wv15⟩, h⟩ := h; subst e
 obtain ⟨_, _, e, ⟨v16, rfl, wv16⟩, h⟩ := h; subst e
 obtain ⟨_, _, e, ⟨v17, rfl, wv17⟩, h⟩ := h; subst e
 obtain ⟨_, _, e, ⟨v18, rfl, wv18⟩, h⟩ := h; subst e
 obtain ⟨_, _, e, s19h, h⟩ := h; subst e
 obtain ⟨_, _, e, s20h, h⟩ := h; subst e
 obtain ⟨_, _, e, s21h, h⟩ := h; subst e
 obtain ⟨_, _, e, ⟨v22, rfl, wv22⟩, h⟩ := h; subst e
 obtain ⟨_, _, e, ⟨v23, rfl, wv23⟩, h⟩ := h; subst e
 obtain ⟨_, _, e, ⟨v24, rfl, wv24⟩, h⟩ := h; subst e
 obtain ⟨_, _, e, ⟨v25, rfl, wv25⟩, h⟩ := h; subst e
 obtain ⟨_, _, e, ⟨v26, rfl, wv26⟩, h⟩ := h; subst e
 obtain ⟨_, _, e, ⟨v27, rfl, wv27⟩, h⟩ := h; subst e
 obtain ⟨_, _, e, ⟨v28, rfl, wv28⟩, h⟩ := h; subst e
 obtain ⟨_, _, e, ⟨v29, rfl, wv29⟩, h⟩ := h; subst e
 obtain ⟨_, _, e, ⟨v30, rfl, wv30⟩, h⟩ := h; subst e
 obtain ⟨_, _, e, s31h, h⟩ := h; subst e
 obtain ⟨_, _, e, s32h, h⟩ := h; subst e
 obtain ⟨_, _, e, s33h, h⟩ := h; subst e
 obtain ⟨_, _, e, s34h, h⟩ := h; subst e
 obtain ⟨_, _, e, ⟨v35, rfl, wv35⟩, h⟩ := h; subst e
 obtain ⟨_, _, e, ⟨v36, rfl, wv36⟩, h⟩ := h; subst e
 obtain ⟨_, _, e, ⟨v37, rfl, wv37⟩, h⟩ := h; subst e
 obtain ⟨_, _, e, ⟨v38, rfl, wv38⟩, h⟩ := h; subst e
 obtain ⟨_, _, e, ⟨v39, rfl, wv39⟩, h⟩ := h; subst e
 obtain ⟨_, _, e, ⟨v40, rfl, wv40⟩, h⟩ := h; subst e
 obtain ⟨_, _, e, ⟨v41, rfl, wv41⟩, h⟩ := h; subst e
 obtain ⟨_, _, e, ⟨v42, rfl, wv42⟩, h⟩ := h; subst e
 obtain ⟨_, _, e, ⟨v43, rfl, wv43⟩, h⟩ := h; subst e
 obtain ⟨_, _, e, s44h, h⟩ := h; subst e
 obtain ⟨_, _, e, s45h, h⟩ := h; subst e
 obtain ⟨_, _, e, s46h, h⟩ := h; subst e
 obtain ⟨_, _, e, ⟨v47, rfl, wv47⟩, h⟩ := h; subst e
 obtain ⟨_, _, e, ⟨v48, rfl, wv48⟩, h⟩ := h; subst e
 obtain ⟨_, _, e, ⟨v49, rfl, wv49⟩, h⟩ := h; subst e
 obtain ⟨_, _, e, s50h, h⟩ := h; subst e
 obtain ⟨_, _, e, s51h, h⟩ := h; subst e
 obtain ⟨_, _, e, ⟨v52, rfl, wv52⟩, h⟩ := h; subst e
 obtain ⟨_, _, e, ⟨v53, rfl, wv53⟩, h⟩ := h; subst e
 obtain ⟨_, _, e, ⟨v54, rfl, wv54⟩, h⟩ := h; subst e
 obtain ⟨_, _, e, ⟨v55, rfl, wv55⟩, h⟩ := h; subst e
 obtain ⟨_, _, e, s56h, h⟩ := h; subst e
 obtain ⟨_, _, e, s57h, h⟩ := h; subst e
 obtain ⟨_, _, e, s58h, h⟩ := h; subst e
 obtain ⟨_, _, e, s59h, h⟩ := h; subst e
 obtain ⟨_, _, e, s60h, h⟩ := h; subst e
 obtain rfl := h
 obtain ⟨s6, ps6, s6i, s6l, s6w⟩ := see_slx AddrD.cs [.int, .int, .bool, .bool] AddrD.wf AddrD.flat (fun _ h => AddrD.conv h) s6h
 obtain ⟨s7, ps7, s7i, s7l, s7w⟩ := see_slx AddrD.cs [.int, .int, .bool, .bool] AddrD.wf AddrD.flat (fun _ h => AddrD.conv h) s7h
 obtain ⟨s8, ps8, s8i, s8l, s8w⟩ := see_slx SubD.cs [.int, .int, .int, .int, .bool, .int, .int, .int, .int, .int] SubD.wf SubD.flat (fun _ h => SubD.conv h) s8h
 obtain ⟨s9, ps9, s9i, s9l, s9w⟩ := see_slx HalfD.cs [.int, .int, .int, .int, .int, .int, .int, .int] HalfD.wf HalfD.flat (fun _ h => HalfD.conv h) s9h
 obtain ⟨s19, ps19, s19i, s19l, s19w⟩ := see_slx PieceD.cs [.int, .str] PieceD.wf PieceD.flat (fun _ h => PieceD.conv h) s19h
 obtain ⟨s20, ps20, s20i, s20l, s20w⟩ := see_slx intC [.int] I64 (fun _ => rfl) (fun _ h => intC_conv h) s20h
 obtain ⟨s21, ps21, s21i, s21l, s21w⟩ := see_slx intC [.int] I64 (fun _ => rfl) (fun _ h => intC_conv h) s21h
 obtain ⟨s31, ps31, s31i, s31l, s31w⟩ := see_slx AddrD.cs [.int, .int, .bool, .bool] AddrD.wf AddrD.flat (fun _ h => AddrD.conv h) s31h
 obtain ⟨s32, ps32, s32i, s32l, s32w⟩ := see_slx AddrD.cs [.int, .int, .bool, .bool] AddrD.wf AddrD.flat (fun _ h => AddrD.conv h) s32h
 obtain ⟨s33, ps33, s33i, s33l, s33w⟩ := see_slx SubD.cs [.int, .int, .int, .int, .bool, .int, .int, .int, .int, .int] SubD.wf SubD.flat (fun _ h => SubD.conv h) s33h
 obtain ⟨s34, ps34, s34i, s34l, s34w⟩ := see_slx HalfD.cs [.int, .int, .int, .int, .int, .int, .int, .int] HalfD.wf HalfD.flat (fun _ h => HalfD.conv h) s34h
 obtain ⟨s44, ps44, s44i, s44l, s44w⟩ := see_slx PieceD.cs [.int, .str] PieceD.wf PieceD.flat (fun _ h => PieceD.conv h) s44h
 obtain ⟨s45, ps45, s45i, s45l, s45w⟩ := see_slx intC [.int] I64 (fun _ => rfl) (fun _ h => intC_conv h) s45h
 obtain ⟨s46, ps46, s46i, s46l, s46w⟩ := see_slx intC [.int] I64 (fun _ => rfl) (fun _ h => intC_conv h) s46h
 obtain ⟨s50, ps50, s50i, s50l, s50w⟩ := see_slx LetterD.cs [.int, .int, .int, .int, .int, .int, .int, .int, .int, .int, .int, .int, .int, .int, .int, .int, .bool, .int, .str] LetterD.wf LetterD.flat (fun _ h => LetterD.conv h) s50h
 obtain ⟨s51, ps51, s51i, s51l, s51w⟩ := see_slx LetterD.cs [.int, .int, .int, .int, .int, .int, .int, .int, .int, .int, .int, .int, .int, .int, .int, .int, .bool, .int, .str] LetterD.wf LetterD.flat (fun _ h => LetterD.conv h) s51h
 obtain ⟨s56, ps56, s56i, s56l, s56w⟩ := see_slx intC [.int] I64 (fun _ => rfl) (fun _ h => intC_conv h) s56h
 obtain ⟨s57, ps57, s57i, s57l, s57w⟩ := see_slx TagD.cs [.int, .int, .int, .int, .int] TagD.wf TagD.flat (fun _ h => TagD.conv h) s57h
 obtain ⟨s58, ps58, s58i, s58l, s58w⟩ := see_slx intC [.int] I64 (fun _ => rfl) (fun _ h => intC_conv h) s58h
 obtain ⟨s59, ps59, s59i, s59l, s59w⟩ := see_slx intC [.int] I64 (fun _ => rfl) (fun _ h => intC_conv h) s59h
 obtain ⟨s60, ps60, s60i, s60l, s60w⟩ := see_slx intC [.int] I64 (fun _ => rfl) (fun _ h => intC_conv h) s60h
 refine ⟨⟨⟨v0, v1, v2, v3, ⟨v4, v5⟩, s6, s7, s8, s9, ⟨v10, v11, v12⟩, ⟨v13.data.toList, v14, v15, v16⟩, ⟨v17, v18.data.toList, s19⟩, s20, s21, v22, v23, v24⟩, ⟨v25, v26, v27, v28, ⟨v29, v30⟩, s31, s32, s33, s34, ⟨v35, v36, v37⟩, ⟨v38.data.toList, v39, v40, v41⟩, ⟨v42, v43.data.toList, s44⟩, s45, s46, v47, v48, v49⟩, s50, s51, v52.data.toList, v53.data.toList, v54.data.toList, v55.data.toList, ⟨s56, s57⟩, s58, s59, s60⟩, [ps6, ps7, ps8, ps9, ps19, ps20, ps21, ps31, ps32, ps33, ps34, ps44, ps45, ps46, ps50, ps51, ps56, ps57, ps58, ps59, ps60], rfl, ⟨wv0, wv1, wv2, wv3, wv4, wv5, wv10, wv11, wv12, wv13, wv14, wv15, wv16, wv17, wv18, wv22, wv23, wv24, wv25, wv26, wv27, wv28, wv29, wv30, wv35, wv36, wv37, wv38, wv39, wv40, wv41, wv42, wv43, wv47, wv48, wv49, wv52, wv53, wv54, wv55, s6w, s7w, s8w, s9w, s19w, s20w, s21w, s31w, s32w, s33w, s34w, s44w, s45w, s46w, s50w, s51w, s56w, s57w, s58w, s59w, s60w, s6l, s7l, s8l, s9l, s19l, s20l, s21l, s31l, s32l, s33l, s34l, s44l, s45l, s46l, s50l, s51l, s56l, s57l, s58l, s59l, s60l⟩, fun β1 β2 => ?_, fun β0 => ?_⟩
 ·exact ⟨rfl, ⟨rfl, ⟨rfl, ⟨rfl, ⟨rfl, ⟨rfl, ⟨s6i.val _ _ (by simp), ⟨s7i.val _ _ (by simp), ⟨s8i.val _ _ (by simp), ⟨s9i.val _ _ (by simp), ⟨rfl, ⟨rfl, ⟨rfl, ⟨rfl, ⟨rfl, ⟨rfl, ⟨rfl, ⟨rfl, ⟨rfl, ⟨s19i.val _ _ (by simp), ⟨s20i.val _ _ (by simp), ⟨s21i.val _ _ (by simp), ⟨rfl, ⟨rfl, ⟨rfl, ⟨rfl, ⟨rfl, ⟨rfl, ⟨rfl, ⟨rfl, ⟨rfl, ⟨s31i.val _ _ (by simp), ⟨s32i.val _ _ (by simp), ⟨s33i.val _ _ (by simp), ⟨s34i.val _ _ (by simp), ⟨rfl, ⟨rfl, ⟨rfl, ⟨rfl, ⟨rfl, ⟨rfl, ⟨rfl, ⟨rfl, ⟨rfl, ⟨s44i.val _ _ (by simp), ⟨s45i.val _ _ (by simp), ⟨s46i.val _ _ (by simp), ⟨rfl, ⟨rfl, ⟨rfl, ⟨s50i.val _ _ (by simp), ⟨s51i.val _ _ (by simp), ⟨rfl, ⟨rfl, ⟨rfl, ⟨rfl, ⟨s56i.val _ _ (by simp), ⟨s57i.val _ _ (by simp), ⟨s58i.val _ _ (by simp), ⟨s59i.val _ _ (by simp), ⟨s60i.val _ _ (by simp), trivial⟩⟩⟩⟩⟩⟩⟩⟩⟩⟩⟩⟩⟩⟩⟩⟩⟩⟩⟩⟩⟩⟩⟩⟩⟩⟩⟩⟩⟩⟩⟩⟩⟩⟩⟩⟩⟩⟩⟩⟩⟩⟩⟩⟩⟩⟩⟩⟩⟩⟩⟩⟩⟩⟩⟩⟩⟩⟩⟩⟩⟩
 ·exact ⟨⟨rfl, s6i.ob _ _, flatL_map AddrD.flat _⟩, ⟨⟨rfl, s7i.ob _ _, flatL_map AddrD.flat _⟩, ⟨⟨rfl, s8i.ob _ _, flatL_map SubD.flat _⟩, ⟨⟨rfl, s9i.ob _ _, flatL_map HalfD.flat _⟩, ⟨⟨rfl, s19i.ob _ _, flatL_map PieceD.flat _⟩, ⟨⟨rfl, s20i.ob _ _, flatL_map (fun _ => rfl) _⟩, ⟨⟨rfl, s21i.ob _ _, flatL_map (fun _ => rfl) _⟩, ⟨⟨rfl, s31i.ob _ _, flatL_map AddrD.flat _⟩, ⟨⟨rfl, s32i.ob _ _, flatL_map AddrD.flat _⟩, ⟨⟨rfl, s33i.ob _ _, flatL_map SubD.flat _⟩, ⟨⟨rfl, s34i.ob _ _, flatL_map HalfD.flat _⟩, ⟨⟨rfl, s44i.ob _ _, flatL_map PieceD.flat _⟩, ⟨⟨rfl, s45i.ob _ _, flatL_map (fun _ => rfl) _⟩, ⟨⟨rfl, s46i.ob _ _, flatL_map (fun _ => rfl) _⟩, ⟨⟨rfl, s50i.ob _ _, flatL_map LetterD.flat _⟩, ⟨⟨rfl, s51i.ob _ _, flatL_map LetterD.flat _⟩, ⟨⟨rfl, s56i.ob _ _, flatL_map (fun _ => rfl) _⟩, ⟨⟨rfl, s57i.ob _ _, flatL_map TagD.flat _⟩, ⟨⟨rfl, s58i.ob _ _, flatL_map (fun _ => rfl) _⟩, ⟨⟨rfl, s59i.ob _ _, flatL_map (fun _ => rfl) _⟩, ⟨⟨rfl, s60i.ob _ _, flatL_map (fun _ => rfl) _⟩, trivial⟩⟩⟩⟩⟩⟩⟩⟩⟩⟩⟩⟩⟩⟩⟩⟩⟩⟩⟩⟩⟩

attribute [go_sem] WorldD.cs WorldD.hp WorldD.hpL
end
section
def natC (n : Nat) : List Sc := [.int .i64 (n : Int)]
attribute [go_sem] natC
theorem all_step {α : Type} {p : α → Bool} {l : List α} {k : Nat} (h : k < l.length) : (l.drop k).all p = (p l[k] && (l.drop (k + 1)).all p) := by
 rw [List.drop_eq_getElem_cons h, List.all_cons]
theorem any_step {α : Type} {p : α → Bool} {l : List α} {k : Nat} (h : k < l.length) : (l.drop k).any p = (p l[k] || (l.drop (k + 1)).any p) := by
 rw [List.drop_eq_getElem_cons h, List.any_cons]
theorem any_end {α : Type} {p : α → Bool} {l : List α} {k : Nat} (h : l.length ≤ k) : (l.drop k).any p = false := by
 rw [List.drop_eq_nil_of_le h, List.any_nil]
def lateP (now : Int) (h : HalfD) : Bool := decide (h.till ≤ now) || decide (6 < IntKind.u64.wrap (IntKind.u64.wrap h.till - IntKind.u64.wrap now))
def fresh (e : EndD) : Bool := e.halfs.all fun h => !lateP e.now h
def sideAt (n : Int) : Int := if inR n 10 19 then 1 else if inR n 20 29 then 2 else 0
def ownsAddr (own : List AddrD) (n : Int) : Bool := own.any fun a => a.addr == n
def hasI (l : List Int) (n : Int) : Bool := l.any fun a => a == n
def subAtN (l : List SubD) (n : Nat) : SubD := l.getD n default
theorem subAtN_eq {l : List SubD} {n : Nat} (h : n < l.length) : subAtN l n = l[n] := by
 rw [subAtN, List.getD_eq_getElem?_getD, List.getElem?_eq_getElem h]; rfl
def begins (t h : List UInt8) : Bool := decide (h.length ≤ t.length) && t.take h.length == h
def bucketOk (b : BucketD) : Bool := inR b.rate 0 100 && inR b.burst 1 100 && inR b.cur 0 b.burst
def wantGo (far : List AddrD) (acc : List RoadD) : List AddrD → List RoadD
 | [] => acc
 | a :: r => wantGo far ((acc ++ far.map fun b => (⟨a.addr, b.addr, 0⟩ : RoadD)).take 8) r
def manyL (o f : Int) (n : Nat) : List RoadD := (List.range n).map fun (k : Nat) => (⟨o, f, (k : Int)⟩ : RoadD)
def addr0 (l : List AddrD) : Int := match l with
 | [] => 0
 | a :: _ => a.addr
def wanted (p : PolicyD) (own far : List AddrD) : List RoadD :=
 if polOk p = true ∧ inR own.length 1 6 = true ∧ inR far.length 1 6 = true then
  (if p.kind = 1 then wantGo far [] own else manyL (addr0 own) (addr0 far) (if p.kind = 2 then p.many.toNat else 1))
 else []
def roadEq (a b : RoadD) : Bool := a.own == b.own && (a.far == b.far && a.port == b.port)
end
section

end
section
def nextOf (p : PiecesD) : Int := IntKind.i64.wrap (p.read + (p.ready.length : Int))
end
section
def idxGo {α : Type} (p : α → Bool) (k : Nat) : List α → Int
 | [] => -1
 | x :: r => if p x then (k : Int) else idxGo p (k + 1) r
def idxOf {α : Type} (p : α → Bool) (l : List α) : Int := idxGo p 0 l
theorem idxGo_step {α : Type} {p : α → Bool} {l : List α} {k : Nat} (h : k < l.length) : idxGo p k (l.drop k) = if p l[k] then (k : Int) else idxGo p (k + 1) (l.drop (k + 1)) := by
 rw [List.drop_eq_getElem_cons h, idxGo]
theorem idxGo_end {α : Type} {p : α → Bool} {l : List α} {k : Nat} (h : l.length ≤ k) : idxGo p k (l.drop k) = -1 := by
 rw [List.drop_eq_nil_of_le h, idxGo]
def halfAt (l : List HalfD) (r : RoadD) : Int := idxOf (fun h => roadEq h.road r) l
def addrAt (l : List AddrD) (n : Int) : Int := idxOf (fun a => a.id == n) l
def subAt (l : List SubD) (r : RoadD) : Int := idxOf (fun s => s.state != 4 && roadEq s.road r) l
def roadN (r : RoadD) : Bool := isN r.own && isN r.far && isN r.port
def outOk (o : OutD) : Bool := isN o.base && inR o.room 1 200 && decide ((o.text.length : Int) ≤ o.room) && inR o.sent o.base (IntKind.i64.wrap (o.base + (o.text.length : Int)))
def heldGo (n : Int) : List PieceD → Int
 | [] => n
 | x :: r => heldGo (IntKind.i64.wrap (n + (x.text.length : Int))) r
def heldOf (p : PiecesD) : Int := heldGo (p.ready.length : Int) p.list
theorem heldGo_step {l : List PieceD} {n : Int} {k : Nat} (h : k < l.length) : heldGo n (l.drop k) = heldGo (IntKind.i64.wrap (n + (l[k].text.length : Int))) (l.drop (k + 1)) := by
 rw [List.drop_eq_getElem_cons h, heldGo]
def pcGo (en : Int) : List PieceD → Bool
 | [] => true
 | x :: r => !(x.text == []) && decide (x.pos ≤ 2000000000) && decide (en < x.pos) && pcGo (IntKind.i64.wrap (x.pos + (x.text.length : Int))) r
theorem pcGo_step {l : List PieceD} {n : Int} {k : Nat} (h : k < l.length) : pcGo n (l.drop k) = (!(l[k].text == []) && decide (l[k].pos ≤ 2000000000) && decide (n < l[k].pos) && pcGo (IntKind.i64.wrap (l[k].pos + (l[k].text.length : Int))) (l.drop (k + 1))) := by
 rw [List.drop_eq_getElem_cons h, pcGo]
def piecesOk (p : PiecesD) : Bool := isN p.read && decide ((p.list.length : Int) ≤ 20) && decide (heldOf p ≤ 200) && pcGo (nextOf p) p.list
def upto (p : Nat → Bool) (n : Nat) : Bool := (List.range n).all p
theorem upto_true {p : Nat → Bool} {n : Nat} (h : ∀ j, j < n → p j = true) : upto p n = true := by
 simp only [upto, List.all_eq_true, List.mem_range]
 exact h
theorem upto_false {p : Nat → Bool} {n j : Nat} (hj : j < n) (h : p j = false) : upto p n = false := by
 cases hu : upto p n with
 | false => rfl
 | true =>
  simp only [upto, List.all_eq_true, List.mem_range] at hu
  rw [hu j hj] at h
  cases h
theorem upto_and {p q : Nat → Bool} {n : Nat} : upto (fun j => p j && q j) n = (upto p n && upto q n) := by
 cases h : upto p n with
 | false =>
  simp only [upto, List.all_eq_false, List.mem_range] at h
  obtain ⟨j, hj, h⟩ := h
  rw [Bool.false_and]
  exact upto_false hj (by simp at h; simp [h])
 | true =>
  rw [Bool.true_and]
  cases hq : upto q n with
  | false =>
   simp only [upto, List.all_eq_false, List.mem_range] at hq
   obtain ⟨j, hj, hq⟩ := hq
   exact upto_false hj (by simp at hq; simp [hq])
  | true =>
   simp only [upto, List.all_eq_true, List.mem_range] at h hq
   exact upto_true fun j hj => by rw [h j hj, hq j hj]; rfl
def adA (l : List AddrD) (j : Nat) : AddrD := l.getD j default
theorem adA_eq {l : List AddrD} {n : Nat} (h : n < l.length) : adA l n = l[n] := by
 rw [adA, List.getD_eq_getElem?_getD, List.getElem?_eq_getElem h]; rfl
def adOk (l : List AddrD) (j : Nat) : Bool := inR (adA l j).id 0 255 && inR (adA l j).addr 1 65535 && (j == 0 || decide ((adA l (j - 1)).id < (adA l j).id)) && (l.take j).all fun b => !((adA l j).addr == b.addr)
def addrsOk (l : List AddrD) : Bool := decide ((l.length : Int) ≤ 6) && upto (adOk l) l.length
def haA (l : List HalfD) (j : Nat) : HalfD := l.getD j default
theorem haA_eq {l : List HalfD} {n : Nat} (h : n < l.length) : haA l n = l[n] := by
 rw [haA, List.getD_eq_getElem?_getD, List.getElem?_eq_getElem h]; rfl
def haOk (l : List HalfD) (j : Nat) : Bool := roadN (haA l j).road && [(haA l j).theirs, (haA l j).mine, (haA l j).give, (haA l j).take, (haA l j).till].all isN && halfAt l (haA l j).road == (j : Int)
def halfsOk (l : List HalfD) : Bool := decide ((l.length : Int) ≤ 4) && upto (haOk l) l.length
def riseAt (l : List Int) (j : Nat) : Bool := j == 0 || decide (l.getD (j - 1) 0 < l.getD j 0)
def idAt (l : List Int) (there : List AddrD) (j : Nat) : Bool := inR (l.getD j 0) 0 255 && decide (addrAt there (l.getD j 0) < 0)
def idsOk (l : List Int) (there : List AddrD) : Bool := upto (riseAt l) l.length && upto (idAt l there) l.length
def suOk (l : List SubD) (j : Nat) : Bool := inR (subAtN l j).state 1 4 && roadN (subAtN l j).road && [(subAtN l j).mine, (subAtN l j).theirs, (subAtN l j).give, (subAtN l j).take, (subAtN l j).tries].all isN && ((subAtN l j).state == 4 || subAt l (subAtN l j).road == (j : Int))
def endOk (e : EndD) : Bool :=
 inR e.side 1 2 && inR e.state 0 2 && polOk e.policy && addrsOk e.own && addrsOk e.far && halfsOk e.halfs && bucketOk e.bucket && outOk e.out && piecesOk e.inp &&
 idsOk e.done e.own && idsOk e.over e.far && decide ((e.subs.length : Int) ≤ 8) && [e.key, e.peer, e.draw, e.now, e.pick].all isN && upto (suOk e.subs) e.subs.length
end
section
def letNone : LetterD := ⟨0, 0, 0, 0, 0, 0, 0, 0, 0, ⟨0, 0, 0, 0, 0⟩, 0, 0, false, 0, []⟩
end
section
theorem idxGo_bd {α : Type} {p : α → Bool} : ∀ {l : List α} {k : Nat}, idxGo p k l = -1 ∨ ((k : Int) ≤ idxGo p k l ∧ idxGo p k l < (k : Int) + l.length)
 | [], k => .inl rfl
 | a :: r, k => by
  rw [idxGo]
  split
  ·right; simp only [List.length_cons]; omega
  ·rcases idxGo_bd (p := p) (l := r) (k := k + 1) with h | h
   ·exact .inl h
   ·right; simp only [List.length_cons]; omega
theorem idxOf_bd {α : Type} {p : α → Bool} {l : List α} : idxOf p l = -1 ∨ (0 ≤ idxOf p l ∧ idxOf p l < l.length) := by
 have := idxGo_bd (p := p) (l := l) (k := 0)
 rw [idxOf]
 omega
theorem subAt_bd (l : List SubD) (r : RoadD) : subAt l r = -1 ∨ (0 ≤ subAt l r ∧ subAt l r < l.length) := idxOf_bd
theorem halfAt_bd (l : List HalfD) (r : RoadD) : halfAt l r = -1 ∨ (0 ≤ halfAt l r ∧ halfAt l r < l.length) := idxOf_bd
theorem addrAt_bd (l : List AddrD) (n : Int) : addrAt l n = -1 ∨ (0 ≤ addrAt l n ∧ addrAt l n < l.length) := idxOf_bd
def roadOf (x : LetterD) : RoadD := ⟨x.to, x.frm, x.port⟩
def between (r : RoadD) (x : LetterD) : LetterD := { x with frm := r.own, to := r.far, port := r.port }
def tokenFor (s : Int) : Int := if inR s 1 2 then 100 + s else 0
def takeOne (b : BucketD) : BucketD × Bool := if bucketOk b = true ∧ b.cur ≠ 0 then (⟨b.rate, b.burst, b.cur - 1⟩, true) else (b, false)
def came (o : OutD) (upto : Int) : OutD :=
 if outOk o = true ∧ o.base < upto ∧ upto ≤ IntKind.i64.wrap (o.base + (o.text.length : Int)) then ⟨o.text.drop (upto - o.base).toNat, upto, if o.sent < upto then upto else o.sent, o.room⟩ else o
def tagNone : TagD := ⟨0, 0, 0, 0, 0⟩
def canMake (k : KnownD) (t : TagD) : Bool := decide (t = tagNone) || (hasI k.keys t.one && hasI k.keys t.two) || (k.tags.take 300).any fun u => decide (u = t)
def learn (k : KnownD) (t : TagD) : KnownD := if canMake k t = false ∧ k.tags.length < 300 then { k with tags := k.tags ++ [t] } else k
def signedOn (e : EndD) (x : LetterD) : Int :=
 let k := subAt e.subs (roadOf x)
 if k < 0 then -1 else if (subAtN e.subs k.toNat).state = 3 ∧ (subAtN e.subs k.toNat).take = x.sgn then k else -1
def putHalfL (l : List HalfD) (h : HalfD) : List HalfD := if 0 ≤ halfAt l h.road then l.set (halfAt l h.road).toNat h else l ++ [h]
def putHalf (l : List HalfD) (h : HalfD) : List HalfD × Bool := if halfsOk (putHalfL l h) then (putHalfL l h, true) else (l, false)
theorem putHalf_t {l : List HalfD} {h : HalfD} (e : halfsOk (putHalfL l h) = true) : putHalf l h = (putHalfL l h, true) := if_pos e
theorem putHalf_f {l : List HalfD} {h : HalfD} (e : halfsOk (putHalfL l h) = false) : putHalf l h = (l, false) := if_neg (by simp [e])
theorem putHalfL_len (l : List HalfD) (h : HalfD) : (putHalfL l h).length ≤ l.length + 1 := by
 rw [putHalfL]
 split <;> simp
def dropHalf (l : List HalfD) (r : RoadD) : List HalfD := if halfAt l r < 0 then l else l.take (halfAt l r).toNat ++ l.drop ((halfAt l r).toNat + 1)
def lowN (l : List AddrD) (n : Int) : Nat := (l.takeWhile fun a => decide (a.id < n)).length
def putAddrL (l : List AddrD) (a : AddrD) : List AddrD := if 0 ≤ addrAt l a.id then l.set (addrAt l a.id).toNat a else l.take (lowN l a.id) ++ [a] ++ l.drop (lowN l a.id)
def putAddr (l : List AddrD) (a : AddrD) : List AddrD × Bool := if addrsOk (putAddrL l a) then (putAddrL l a, true) else (l, false)
theorem putAddr_t {l : List AddrD} {a : AddrD} (e : addrsOk (putAddrL l a) = true) : putAddr l a = (putAddrL l a, true) := if_pos e
theorem putAddr_f {l : List AddrD} {a : AddrD} (e : addrsOk (putAddrL l a) = false) : putAddr l a = (l, false) := if_neg (by simp [e])
def dropAddr (l : List AddrD) (n : Int) : List AddrD × Bool := if addrAt l n < 0 then (l, false) else (l.take (addrAt l n).toNat ++ l.drop ((addrAt l n).toNat + 1), true)
structure Small (e : EndD) : Prop where
 own : e.own.length ≤ 1048576
 far : e.far.length ≤ 1048576
 subs : e.subs.length ≤ 1048576
 halfs : e.halfs.length ≤ 1048576
 list : e.inp.list.length ≤ 1048576
 done : e.done.length ≤ 1048576
 over : e.over.length ≤ 1048576
def farOne (n : Int) : List AddrD := [⟨0, n, false, true⟩]
def helloOk (e : EndD) (x : LetterD) : Bool :=
 endOk e && letOk x && decide (e.state = 0) && ownsAddr e.own x.to && inR x.frm 1 65535 && decide (subAt e.subs (roadOf x) < 0) && decide (e.subs.length < 8) && inR e.draw 1 999999996
def hearHello (e : EndD) (x : LetterD) : EndD × List LetterD :=
 if helloOk e x then ({ e with state := 2, key := e.draw, peer := x.key, far := farOne x.frm, subs := e.subs ++ [⟨roadOf x, 3, false, 0, 0, x.give, e.draw + 2, 0⟩], draw := e.draw + 4 },
  [between (roadOf x) { letNone with kind := 2, key := e.draw, give := e.draw + 2 }]) else (e, [])
theorem hearHello_t {e : EndD} {x : LetterD} (h : helloOk e x = true) : hearHello e x = ({ e with state := 2, key := e.draw, peer := x.key, far := farOne x.frm, subs := e.subs ++ [⟨roadOf x, 3, false, 0, 0, x.give, e.draw + 2, 0⟩], draw := e.draw + 4 },
  [between (roadOf x) { letNone with kind := 2, key := e.draw, give := e.draw + 2 }]) := if_pos h
theorem hearHello_f {e : EndD} {x : LetterD} (h : helloOk e x = false) : hearHello e x = (e, []) := if_neg (by simp [h])
theorem signedOn_bd (e : EndD) (x : LetterD) : signedOn e x = -1 ∨ (0 ≤ signedOn e x ∧ signedOn e x < e.subs.length) := by
 simp only [signedOn]
 rcases subAt_bd e.subs (roadOf x) with h | ⟨h1, h2⟩
 ·rw [if_pos (by omega)]; exact .inl rfl
 ·rw [if_neg (by omega)]
  split
  ·exact .inr ⟨h1, h2⟩
  ·exact .inl rfl
def onAt (e : EndD) (x : LetterD) : Int := if endOk e && letOk x then signedOn e x else -1
def setState (l : List SubD) (k : Nat) (c : Int) : List SubD := l.set k { subAtN l k with state := c }
def hearReset (e : EndD) (x : LetterD) : EndD × List LetterD := (if 0 ≤ onAt e x then { e with subs := setState e.subs (signedOn e x).toNat 4 } else e, [])
def hearCame (e : EndD) (x : LetterD) : EndD × List LetterD := (if 0 ≤ onAt e x then { e with out := came e.out x.pos } else e, [])
def ackOk (e : EndD) (x : LetterD) : Bool := endOk e && letOk x && decide (0 ≤ subAt e.subs (roadOf x)) && decide ((subAtN e.subs (subAt e.subs (roadOf x)).toNat).state = 2) && decide ((subAtN e.subs (subAt e.subs (roadOf x)).toNat).take = x.sgn)
def hearJoinAck (e : EndD) (x : LetterD) : EndD × List LetterD := (if ackOk e x then { e with subs := setState e.subs (subAt e.subs (roadOf x)).toNat 3 } else e, [])
def backOk (e : EndD) (x : LetterD) : Bool := endOk e && letOk x && decide (e.state = 1) && decide (0 ≤ subAt e.subs (roadOf x)) && decide ((subAtN e.subs (subAt e.subs (roadOf x)).toNat).state = 1) && inR x.frm 1 65535
def hearBack (e : EndD) (x : LetterD) : EndD × List LetterD :=
 if backOk e x then ({ e with state := 2, peer := x.key, far := farOne x.frm, subs := e.subs.set (subAt e.subs (roadOf x)).toNat { subAtN e.subs (subAt e.subs (roadOf x)).toNat with state := 3, give := x.give } }, [between (roadOf x) { letNone with kind := 3 }]) else (e, [])
theorem subAtN_at {l : List SubD} {n : Nat} (h : n < l.length) : subAtN l n = l[n] := by simp [subAtN, List.getD_eq_getElem?_getD, h]
theorem onAt_f {e : EndD} {x : LetterD} (h : ¬ (endOk e = true ∧ letOk x = true ∧ 0 ≤ signedOn e x)) : ¬ 0 ≤ onAt e x := by
 rw [onAt]
 split
 ·rename_i hc
  simp only [Bool.and_eq_true] at hc
  exact fun hk => h ⟨hc.1, hc.2, hk⟩
 ·omega
theorem onAt_t {e : EndD} {x : LetterD} {n : Nat} (h1 : endOk e = true) (h2 : letOk x = true) (h : signedOn e x = (n : Int)) : onAt e x = (n : Int) := by
 rw [onAt, h1, h2, h]
 rfl
theorem hearReset_f {e : EndD} {x : LetterD} (h : ¬ 0 ≤ onAt e x) : hearReset e x = (e, []) := by rw [hearReset, if_neg h]
theorem hearReset_t {e : EndD} {x : LetterD} {n : Nat} (h : onAt e x = (n : Int)) (h2 : signedOn e x = (n : Int)) : hearReset e x = ({ e with subs := setState e.subs n 4 }, []) := by
 rw [hearReset, if_pos (by omega), h2]
 rfl
theorem hearCame_f {e : EndD} {x : LetterD} (h : ¬ 0 ≤ onAt e x) : hearCame e x = (e, []) := by rw [hearCame, if_neg h]
theorem hearCame_t {e : EndD} {x : LetterD} (h : 0 ≤ onAt e x) : hearCame e x = ({ e with out := came e.out x.pos }, []) := by rw [hearCame, if_pos h]
theorem onAt_bd (e : EndD) (x : LetterD) : onAt e x = -1 ∨ ∃ n : Nat, onAt e x = (n : Int) ∧ signedOn e x = (n : Int) ∧ n < e.subs.length ∧ endOk e = true ∧ letOk x = true := by
 rw [onAt]
 split
 ·rename_i hc
  simp only [Bool.and_eq_true] at hc
  rcases signedOn_bd e x with h | ⟨h1, h2⟩
  ·exact .inl h
  ·exact .inr ⟨(signedOn e x).toNat, by omega, by omega, by omega, hc.1, hc.2⟩
 ·exact .inl rfl
theorem setState_at {l : List SubD} {n : Nat} (h : n < l.length) (c : Int) : setState l n c = l.set n { l[n] with state := c } := by rw [setState, subAtN_at h]
theorem ack_f {e : EndD} {x : LetterD} (h : ackOk e x = false) : hearJoinAck e x = (e, []) := by rw [hearJoinAck, if_neg (by simp [h])]
theorem ack_t {e : EndD} {x : LetterD} {n : Nat} (h : ackOk e x = true) (hk : subAt e.subs (roadOf x) = (n : Int)) : hearJoinAck e x = ({ e with subs := setState e.subs n 3 }, []) := by
 rw [hearJoinAck, if_pos h, hk]
 rfl
theorem ack_at {e : EndD} {x : LetterD} {n : Nat} (hk : subAt e.subs (roadOf x) = (n : Int)) (hn : n < e.subs.length) : ackOk e x = (endOk e && letOk x && decide (e.subs[n].state = 2) && decide (e.subs[n].take = x.sgn)) := by
 rw [ackOk, hk, Int.toNat_natCast, subAtN_at hn]
 simp
theorem ack_no {e : EndD} {x : LetterD} (hk : subAt e.subs (roadOf x) = -1) : ackOk e x = false := by
 rw [ackOk, hk]
 simp
theorem back_f {e : EndD} {x : LetterD} (h : backOk e x = false) : hearBack e x = (e, []) := by rw [hearBack, if_neg (by simp [h])]
theorem back_t {e : EndD} {x : LetterD} {n : Nat} (h : backOk e x = true) (hk : subAt e.subs (roadOf x) = (n : Int)) (hn : n < e.subs.length) : hearBack e x = ({ e with state := 2, peer := x.key, far := farOne x.frm, subs := e.subs.set n { e.subs[n] with state := 3, give := x.give } }, [between (roadOf x) { letNone with kind := 3 }]) := by
 rw [hearBack, if_pos h, hk, Int.toNat_natCast, subAtN_at hn]
theorem back_at {e : EndD} {x : LetterD} {n : Nat} (hk : subAt e.subs (roadOf x) = (n : Int)) (hn : n < e.subs.length) : backOk e x = (endOk e && letOk x && decide (e.state = 1) && decide (e.subs[n].state = 1) && inR x.frm 1 65535) := by
 rw [backOk, hk, Int.toNat_natCast, subAtN_at hn]
 simp
theorem back_no {e : EndD} {x : LetterD} (hk : subAt e.subs (roadOf x) = -1) : backOk e x = false := by
 rw [backOk, hk]
 simp
end
section
open Go.RowKit

theorem impl_within (n a b : Int) : CallA Tryz.prog 119 [.sc (.int .i64 n), .sc (.int .i64 a), .sc (.int .i64 b)] [] (.sc (.bo (inR n a b))) [] := by
 refine qE Tryz.func119 Tryz.ntmps119 Tryz.results119 fun E hE => ?_
 refine qB (fun h => ?_) fun h => ?_
 ·refine den_fin [] (trivial) _ (by simp only [go_sem]; rfl) (by rfl) (by rfl) ?_
  simp (disch := omega) only [go_sem, Nat.reduceEqDiff, Nat.reduceAdd, Nat.reduceSub, Int.reduceAdd, Int.reduceSub, Int.reduceToNat]
  simp [inR, h]
 ·refine den_fin [] (trivial) _ (by simp only [go_sem]; rfl) (by rfl) (by rfl) ?_
  simp (disch := omega) only [go_sem, Nat.reduceEqDiff, Nat.reduceAdd, Nat.reduceSub, Int.reduceAdd, Int.reduceSub, Int.reduceToNat]
  simp [inR, h]
theorem spec_l01In (n a b : Int) : CallA Tryz.prog 75 [.sc (.int .i64 n), .sc (.int .i64 a), .sc (.int .i64 b)] [] (.sc (.bo (inR n a b))) [] := by
 refine qE Tryz.func75 Tryz.ntmps75 Tryz.results75 fun E hE => ?_
 refine qB (fun h => ?_) fun h => ?_
 ·refine den_fin [] (trivial) _ (by simp only [go_sem]; rfl) (by rfl) (by rfl) ?_
  simp (disch := omega) only [go_sem, Nat.reduceEqDiff, Nat.reduceAdd, Nat.reduceSub, Int.reduceAdd, Int.reduceSub, Int.reduceToNat]
  simp [inR, h]
 ·refine den_fin [] (trivial) _ (by simp only [go_sem]; rfl) (by rfl) (by rfl) ?_
  simp (disch := omega) only [go_sem, Nat.reduceEqDiff, Nat.reduceAdd, Nat.reduceSub, Int.reduceAdd, Int.reduceSub, Int.reduceToNat]
  simp [inR, h]
theorem spec_l14Num (n : Int) : CallA Tryz.prog 169 [.sc (.int .i64 n)] [] (.sc (.bo (isN n))) [] := by
 refine qE Tryz.func169 Tryz.ntmps169 Tryz.results169 fun E hE => ?_
 refine den_call (trivial) (spec_l01In _ _ _) [] qM (by rfl) (run_den 400 ?_)
 simp (disch := omega) only [go_sem, Nat.reduceEqDiff, Nat.reduceAdd, Nat.reduceSub, Int.reduceAdd, Int.reduceSub, Int.reduceToNat]
 refine den_fin [] (trivial) _ (by simp only [go_sem]; rfl) (by rfl) (by rfl) ?_
 simp (disch := omega) only [go_sem, Nat.reduceEqDiff, Nat.reduceAdd, Nat.reduceSub, Int.reduceAdd, Int.reduceSub, Int.reduceToNat]
 rfl
theorem impl_isNumber (l : List Int) (hl : l.length ≤ 1000000) : CallA Tryz.prog 182 [.sc (.sl 0 0 l.length)] [some ⟨l.map intC, 1, 3, false, true⟩] (.sc (.bo (l.all isN))) [some ⟨l.map intC, 1, 3, false, true⟩] := by
 refine qE Tryz.func182 Tryz.ntmps182 Tryz.results182 fun E hE => ?_
 refine den_lp 1 hE (fun s k => s.at [4, 8, 9, 10, 11, 12, 13, 14] [(7, .sc (.int .i64 (k : Nat)))] s.hp) (fun k => k ≤ l.length ∧ l.all isN = (l.drop k).all isN) (fun k => l.length - k) 0 (qA [0]) trivial ⟨Nat.zero_le _, by simp⟩ (weak_mk (by rfl) (by rfl) ?_) fun k hk N hN => ?_
 ·exact qY
 ·obtain ⟨hk1, hk2⟩ := hk
  refine run_den 100 ?_
  refine qX ?_
  refine qB (fun h => ?_) fun h => ?_
  ·try simp (disch := omega) only [go_sem, Nat.reduceEqDiff, Nat.reduceAdd, Nat.reduceSub, Int.reduceAdd, Int.reduceSub, Int.reduceToNat, ints_get h]
   refine den_call (by omega) (impl_within _ _ _) [] qM (by rfl) (run_den 400 ?_)
   simp (disch := omega) only [go_sem, Nat.reduceEqDiff, Nat.reduceAdd, Nat.reduceSub, Int.reduceAdd, Int.reduceSub, Int.reduceToNat]
   rw [List.drop_eq_getElem_cons h, List.all_cons] at hk2
   refine qB (fun h2 => ?_) fun h2 => ?_
   ·refine den_fin (qA [0]) (trivial) _ (by simp only [go_sem]; rfl) (by rfl) (by rfl) ?_
    simp (disch := omega) only [go_sem, Nat.reduceEqDiff, Nat.reduceAdd, Nat.reduceSub, Int.reduceAdd, Int.reduceSub, Int.reduceToNat]
    have : isN l[k] = false := by simp [isN, inR] at h2 ⊢; omega
    rw [hk2, this, Bool.false_and]
   ·refine ⟨trivial, hN _ (k + 1) (qA [0]) (⟨by omega, ?_⟩) (by (try dsimp only); omega) (weak_mk (by rfl) (by rfl) ?_)⟩
    ·have : isN l[k] = true := by simp [isN, inR] at h2 ⊢; omega
     rw [hk2, this, Bool.true_and]
    ·exact qY
  ·refine den_fin (qA [0]) (trivial) _ (by simp only [go_sem]; rfl) (by rfl) (by rfl) ?_
   simp (disch := omega) only [go_sem, Nat.reduceEqDiff, Nat.reduceAdd, Nat.reduceSub, Int.reduceAdd, Int.reduceSub, Int.reduceToNat]
   rw [hk2, List.drop_eq_nil_of_le (by omega), List.all_nil]
end
section
open Go.RowKit

theorem impl_SideAt (n : Int) : CallA Tryz.prog 54 [.sc (.int .i64 n)] [] (.sc (.int .i64 (sideAt n))) [] := by
 refine qE Tryz.func54 Tryz.ntmps54 Tryz.results54 fun E hE => ?_
 refine qK (impl_within _ _ _) [] ?_
 refine qB (fun h1 => ?_) fun h1 => ?_
 ·refine qJ [] ?_
  simp [sideAt, h1]
 ·refine qK (impl_within _ _ _) [] ?_
  refine qB (fun h2 => ?_) fun h2 => ?_
  ·refine qJ [] ?_
   simp [sideAt, h1, h2]
  ·refine qJ [] ?_
   simp [sideAt, h1, h2]
theorem spec_SideAt (n : Int) : CallA Tryz.prog 42 [.sc (.int .i64 n)] [] (.sc (.int .i64 (sideAt n))) [] := by
 refine qE Tryz.func42 Tryz.ntmps42 Tryz.results42 fun E hE => ?_
 refine qK (spec_l01In _ _ _) [] ?_
 refine qB (fun h1 => ?_) fun h1 => ?_
 ·have h1' := h1
  simp only [inR, Bool.and_eq_true, decide_eq_true_eq] at h1'
  have hd : n.tdiv 10 = n / 10 := Int.tdiv_eq_ediv_of_nonneg (by omega)
  refine qJ [] ?_
  rw [sideAt]
  by_cases h2 : n ≤ 19
  ·rw [if_pos (by simp [inR]; omega)]; omega
  ·rw [if_neg (by simp [inR]; omega), if_pos (by simp [inR]; omega)]; omega
 ·have h1' := h1
  simp only [inR, Bool.and_eq_false_iff, decide_eq_false_iff_not] at h1'
  refine qJ [] ?_
  rw [sideAt, if_neg (by simp [inR]; omega), if_neg (by simp [inR]; omega)]
theorem impl_OwnsAddr (e : EndD) (n : Int) (hl : e.own.length ≤ 1048576) : CallA Tryz.prog 122 [.ag (e.cs 0), .sc (.int .i64 n)] (e.hp false) (.sc (.bo (ownsAddr e.own n))) (e.hp false) := by
 refine qE Tryz.func122 Tryz.ntmps122 Tryz.results122 fun E hE => ?_
 refine den_lp 7 hE (fun s (k : Nat) => s.at [0, 2, 4, 6, 7, 11, 12, 13, 14, 15, 16, 17, 18] [(10, .sc (.int .i64 (k : Nat)))] (s.hp)) (fun (k : Nat) => k ≤ e.own.length ∧ (e.own.drop k).any (fun a => a.addr == n) = ownsAddr e.own n) (fun (k : Nat) => e.own.length - k) 0 (qA [0, 1, 2, 3, 4, 5, 6, 7]) (qC) (⟨Nat.zero_le _, rfl⟩) (weak_mk (by rfl) (by rfl) ?_) fun k hk N hN => ?_
 ·exact qY
 ·obtain ⟨hk1, hk2⟩ := hk
  refine qR ?_
  refine qB (fun h => ?_) fun h => ?_
  ·rw [any_step h] at hk2
   refine qX ?_
   refine qB (fun h2 => ?_) fun h2 => ?_
   ·have hp : (e.own[k].addr == n) = true := by simp [h2]
    rw [hp] at hk2
    refine qJ (qA [0, 1, 2, 3, 4, 5, 6]) ?_
    exact hk2
   ·have hp : (e.own[k].addr == n) = false := by simp [h2]
    rw [hp] at hk2
    exact qN hN (k + 1) (qA [0, 1, 2, 3, 4, 5, 6, 7]) (by (try dsimp only); exact ⟨by omega, hk2⟩)
  ·rw [any_end (by omega)] at hk2
   refine qJ (qA [0, 1, 2, 3, 4, 5, 6]) ?_
   exact hk2
theorem impl_hasInt (l : List Int) (n : Int) (hl : l.length ≤ 1048576) : CallA Tryz.prog 136 [.sc (.sl 0 0 l.length), .sc (.int .i64 n)] [some ⟨l.map intC, 1, 3, false, true⟩] (.sc (.bo (hasI l n))) [some ⟨l.map intC, 1, 3, false, true⟩] := by
 refine qE Tryz.func136 Tryz.ntmps136 Tryz.results136 fun E hE => ?_
 refine den_lp 1 hE (fun s (k : Nat) => s.at [0, 4, 6, 10, 11, 12, 13, 14, 15, 16] [(9, .sc (.int .i64 (k : Nat)))] (s.hp)) (fun (k : Nat) => k ≤ l.length ∧ (l.drop k).any (fun a => a == n) = hasI l n) (fun (k : Nat) => l.length - k) 0 (qA [0]) (qC) (⟨Nat.zero_le _, rfl⟩) (weak_mk (by rfl) (by rfl) ?_) fun k hk N hN => ?_
 ·exact qY
 ·obtain ⟨hk1, hk2⟩ := hk
  refine qR ?_
  refine qB (fun h => ?_) fun h => ?_
  ·rw [any_step h] at hk2
   refine qX ?_
   refine qB (fun h2 => ?_) fun h2 => ?_
   ·have hp : (l[k] == n) = true := by simp [h2]
    rw [hp] at hk2
    refine qJ (qA [0]) ?_
    exact hk2
   ·have hp : (l[k] == n) = false := by simp [h2]
    rw [hp] at hk2
    exact qN hN (k + 1) (qA [0]) (by (try dsimp only); exact ⟨by omega, hk2⟩)
  ·rw [any_end (by omega)] at hk2
   refine qJ (qA [0]) ?_
   exact hk2
theorem spec_OwnsAddr (e : EndD) (n : Int) (hl : e.own.length ≤ 1048576) : CallA Tryz.prog 93 [.ag (e.cs 0), .sc (.int .i64 n)] (e.hp false) (.sc (.bo (ownsAddr e.own n))) (e.hp false) := by
 refine qE Tryz.func93 Tryz.ntmps93 Tryz.results93 fun E hE => ?_
 refine den_lp 7 hE (fun s (k : Nat) => s.at [0, 4, 6, 7, 8, 9, 10, 11, 12, 13, 14, 15, 16, 17, 18, 19, 20] [(5, .sc (.int .i64 (k : Nat)))] (s.hp)) (fun (k : Nat) => k ≤ e.own.length ∧ (e.own.drop k).any (fun a => a.addr == n) = ownsAddr e.own n) (fun (k : Nat) => e.own.length - k) 0 (qA [0, 1, 2, 3, 4, 5, 6, 7]) (qC) (⟨Nat.zero_le _, rfl⟩) (weak_mk (by rfl) (by rfl) ?_) fun k hk N hN => ?_
 ·exact qY
 ·obtain ⟨hk1, hk2⟩ := hk
  refine qR ?_
  refine qB (fun h => ?_) fun h => ?_
  ·rw [any_step h] at hk2
   refine qX ?_
   refine qB (fun h2 => ?_) fun h2 => ?_
   ·have hp : (e.own[k].addr == n) = true := by simp [h2]
    rw [hp] at hk2
    refine qJ (qA [0, 1, 2, 3, 4, 5, 6]) ?_
    exact hk2
   ·have hp : (e.own[k].addr == n) = false := by simp [h2]
    rw [hp] at hk2
    exact qN hN (k + 1) (qA [0, 1, 2, 3, 4, 5, 6, 7]) (by (try dsimp only); exact ⟨by omega, hk2⟩)
  ·rw [any_end (by omega)] at hk2
   refine qJ (qA [0, 1, 2, 3, 4, 5, 6]) ?_
   exact hk2
theorem spec_l15Has (l : List Int) (n : Int) (hl : l.length ≤ 1048576) : CallA Tryz.prog 180 [.sc (.sl 0 0 l.length), .sc (.int .i64 n)] [some ⟨l.map intC, 1, 3, false, true⟩] (.sc (.bo (hasI l n))) [some ⟨l.map intC, 1, 3, false, true⟩] := by
 refine qE Tryz.func180 Tryz.ntmps180 Tryz.results180 fun E hE => ?_
 refine den_lp 1 hE (fun s (k : Nat) => s.at [4, 6, 7, 8, 9, 10, 11, 12, 13, 14, 15, 16, 17] [(5, .sc (.int .i64 (k : Nat)))] (s.hp)) (fun (k : Nat) => k ≤ l.length ∧ (l.drop k).any (fun a => a == n) = hasI l n) (fun (k : Nat) => l.length - k) 0 (qA [0]) (qC) (⟨Nat.zero_le _, rfl⟩) (weak_mk (by rfl) (by rfl) ?_) fun k hk N hN => ?_
 ·exact qY
 ·obtain ⟨hk1, hk2⟩ := hk
  refine qR ?_
  refine qB (fun h => ?_) fun h => ?_
  ·rw [any_step h] at hk2
   refine qX ?_
   refine qB (fun h2 => ?_) fun h2 => ?_
   ·have hp : (l[k] == n) = true := by simp [h2]
    rw [hp] at hk2
    refine qJ (qA [0]) ?_
    exact hk2
   ·have hp : (l[k] == n) = false := by simp [h2]
    rw [hp] at hk2
    exact qN hN (k + 1) (qA [0]) (by (try dsimp only); exact ⟨by omega, hk2⟩)
  ·rw [any_end (by omega)] at hk2
   refine qJ (qA [0]) ?_
   exact hk2
end
section
open Go.RowKit

theorem eqOk_Road (a b c a' b' c' : Int) : EqOk Tryz.prog 200 [.int .i64 a, .int .i64 b, .int .i64 c] [.int .i64 a', .int .i64 b', .int .i64 c'] = True := by
 refine eq_true fun β w x y vs us hv hu => ?_
 obtain ⟨v0, v1, v2, rfl⟩ : ∃ v0 v1 v2, vs = [v0, v1, v2] := by
  match vs, hv with
  | [v0, v1, v2], _ => exact ⟨_, _, _, rfl⟩
 obtain ⟨u0, u1, u2, rfl⟩ : ∃ v0 v1 v2, us = [v0, v1, v2] := by
  match us, hu with
  | [v0, v1, v2], _ => exact ⟨_, _, _, rfl⟩
 obtain ⟨rfl, rfl, rfl, _⟩ := hv
 obtain ⟨rfl, rfl, rfl, _⟩ := hu
 have hu3 := Tryz.underlying3
 have hg := Tryz.eqGuardType200
 have hs := Tryz.stoodInHeld200
 have hU : Tryz.prog.underlying 200 = some (.struct (Tryz.prog.fieldsOf 200)) := by
  simp only [Program.fieldsOf, Tryz.underlying200]
 have key : ∀ q : Bool, q = scsEq [Sc.int IntKind.i64 a, Sc.int IntKind.i64 b, Sc.int IntKind.i64 c] [Sc.int IntKind.i64 a', Sc.int IntKind.i64 b', Sc.int IntKind.i64 c'] ↔ q = (decide (a = a') && (decide (b = b') && decide (c = c'))) := by
  intro q
  simp only [scsEq, scEq, Bool.and_true]
  have e : ∀ m n : Int, (m == n) = decide (m = n) := fun m n => by by_cases h : m = n <;> simp [h]
  rw [e, e, e]
 have kk := (key _).1 rfl
 rw [kk]
 constructor
 ·simp only [Sem.run_bind, run_eqGuard_agg _ _ _ _ _ _ _ hg, run_eql_struct, Result.andThen_ok, run_equalIn_agg _ _ _ _ _ hU hs]
  simp [Op.eqFields, Program.fieldsOf, Tryz.underlying200, part, run_equalIn_int _ _ _ _ _ _ _ hu3]
  by_cases h1 : a = a' <;> by_cases h2 : b = b' <;> by_cases h3 : c = c' <;> simp [h1, h2, h3]
 ·simp only [Sem.run_bind, run_eqGuard_agg _ _ _ _ _ _ _ hg, run_neq_struct, Result.andThen_ok, run_equalIn_agg _ _ _ _ _ hU hs]
  simp [Op.eqFields, Program.fieldsOf, Tryz.underlying200, part, run_equalIn_int _ _ _ _ _ _ _ hu3]
  by_cases h1 : a = a' <;> by_cases h2 : b = b' <;> by_cases h3 : c = c' <;> simp [h1, h2, h3]
attribute [go_sem] eqOk_Road
end
section
open Go.RowKit

theorem roadEq_t {a b : RoadD} (h : a.own = b.own ∧ a.far = b.far ∧ a.port = b.port) : roadEq a b = true := by simp [roadEq, h]
theorem roadEq_f {a b : RoadD} (h : ¬ a.own = b.own ∨ ¬ a.far = b.far ∨ ¬ a.port = b.port) : roadEq a b = false := by
 rw [roadEq]
 rcases h with h | h | h <;> simp [h]
end
section
open Go.RowKit

end
section
open Go.RowKit

end
section
open Go.RowKit

end
section
open Go.RowKit

end
section
open Go.RowKit

theorem impl_LetterOk (x : LetterD) : CallA Tryz.prog 121 [.ag x.cs] [] (.sc (.bo (letOk x))) [] := by
 refine qE Tryz.func121 Tryz.ntmps121 Tryz.results121 fun E hE => ?_
 refine qK (impl_within _ _ _) [] ?_
 refine qB (fun h1 => ?_) fun h1 => ?_
 ·refine qK (impl_isNumber (letNums x) (by show 16 ≤ 1000000; omega)) (qA [2]) ?_
  refine qB (fun h2 => ?_) fun h2 => ?_
  ·refine qJ [] ?_
   simp [letOk, h1, h2]
   omega
  ·refine qJ [] ?_
   simp [letOk, h1, h2]
 ·refine qJ [] ?_
  simp [letOk, h1]
theorem spec_LetterOk (x : LetterD) : CallA Tryz.prog 92 [.ag x.cs] [] (.sc (.bo (letOk x))) [] := by
 refine qE Tryz.func92 Tryz.ntmps92 Tryz.results92 fun E hE => ?_
 refine qK (spec_l01In _ _ _) [] ?_
 refine qB (fun h1 => ?_) fun h1 => ?_
 ·refine qB (fun h2 => ?_) fun h2 => ?_
  ·refine qJ [] ?_
   simp [letOk]
   omega
  ·have hlen : (letNums x).length = 16 := rfl
   refine den_lp 0 hE (fun s (k : Nat) => s.at [0, 1, 2, 5, 6, 7, 8, 9, 10, 11, 12, 13, 14, 15, 16, 17, 18, 19, 20, 21, 22, 23, 24, 25, 26, 27, 28, 29, 30, 31, 32, 33, 34, 35, 36, 37, 38, 39, 40, 41, 42, 43, 44, 45, 46, 47, 48, 49, 50, 51, 52, 53, 54, 55, 56, 57, 58, 59, 60, 61, 62, 63, 64] [(4, .sc (.int .i64 (k : Nat))), (3, .sc (.sl 0 0 16))] ([some ⟨(letNums x).map intC, 1, 3, true, true⟩])) (fun (k : Nat) => k ≤ 16 ∧ (letNums x).all isN = ((letNums x).drop k).all isN) (fun (k : Nat) => 16 - k) 0 (qA [1]) (qC) (⟨Nat.zero_le _, rfl⟩) (weak_mk (by rfl) (by rfl) ?_) fun k hk N hN => ?_
   ·refine qX ?_
    rfl
   ·obtain ⟨hk1, hk2⟩ := hk
    refine qR ?_
    refine qB (fun h => ?_) fun h => ?_
    ·have h' : k < (letNums x).length := by omega
     rw [List.drop_eq_getElem_cons h', List.all_cons] at hk2
     refine qK (spec_l14Num _) [] ?_
     refine qB (fun h3 => ?_) fun h3 => ?_
     ·refine qJ [] ?_
      rw [letOk, hk2, h3]
      simp
     ·rw [h3, Bool.true_and] at hk2
      exact qN hN (k + 1) (qA [0]) (by (try dsimp only); exact ⟨by omega, hk2⟩)
    ·refine qJ [] ?_
     rw [List.drop_eq_nil_of_le (by omega)] at hk2
     simp [letOk, h1, hk2]
     omega
 ·refine qJ [] ?_
  simp [letOk, h1]
end
section
open Go.RowKit

theorem impl_PolicyOk (p : PolicyD) : CallA Tryz.prog 233 [.ag p.cs] [] (.sc (.bo (polOk p))) [] := by
 refine qE Tryz.func233 Tryz.ntmps233 Tryz.results233 fun E hE => ?_
 refine qB (fun h1 => ?_) fun h1 => ?_
 ·refine qK (impl_within _ _ _) [] ?_
  refine qJ [] ?_
  simp [polOk, h1]
 ·refine qB (fun h2 => ?_) fun h2 => ?_
  ·refine qB (fun h3 => ?_) fun h3 => ?_
   ·refine qJ [] ?_
    simp [polOk, h1, h2, h3]
   ·refine qJ [] ?_
    simp [polOk, h1, h2, h3]
  ·refine qJ [] ?_
   simp [polOk, h1, h2]
theorem spec_PolicyOk (p : PolicyD) : CallA Tryz.prog 194 [.ag p.cs] [] (.sc (.bo (polOk p))) [] := by
 refine qE Tryz.func194 Tryz.ntmps194 Tryz.results194 fun E hE => ?_
 refine qB (fun h1 => ?_) fun h1 => ?_
 ·refine qK (spec_l01In _ _ _) [] ?_
  refine qJ [] ?_
  simp [polOk, h1]
 ·refine qB (fun h2 => ?_) fun h2 => ?_
  ·refine qB (fun h3 => ?_) fun h3 => ?_
   ·refine qJ [] ?_
    simp [polOk, h1, h2, h3]
   ·refine qJ [] ?_
    simp [polOk, h1, h2, h3]
  ·refine qJ [] ?_
   simp [polOk, h1, h2]
end
section
open Go.RowKit

theorem impl_NextOf (p : PiecesD) : CallA Tryz.prog 263 [.ag (p.cs 0)] (p.hp false) (.sc (.int .i64 (nextOf p))) (p.hp false) := by
 refine qE Tryz.func263 Tryz.ntmps263 Tryz.results263 fun E hE => ?_
 refine den_fin (qA [0]) (qC) _ (by simp only [go_sem]; rfl) (by rfl) (by rfl) ?_
 simp (disch := omega) only [go_sem, Nat.reduceEqDiff, Nat.reduceAdd, Nat.reduceSub, Int.reduceAdd, Int.reduceSub, Int.reduceToNat]
 try rfl
theorem spec_NextOf (p : PiecesD) : CallA Tryz.prog 225 [.ag (p.cs 0)] (p.hp false) (.sc (.int .i64 (nextOf p))) (p.hp false) := by
 refine qE Tryz.func225 Tryz.ntmps225 Tryz.results225 fun E hE => ?_
 refine den_fin (qA [0]) (qC) _ (by simp only [go_sem]; rfl) (by rfl) (by rfl) ?_
 simp (disch := omega) only [go_sem, Nat.reduceEqDiff, Nat.reduceAdd, Nat.reduceSub, Int.reduceAdd, Int.reduceSub, Int.reduceToNat]
 try rfl
end
section
open Go.RowKit

theorem impl_HalfAt (l : List HalfD) (r : RoadD) (hl : l.length ≤ 1048576) : CallA Tryz.prog 247 [.sc (.sl 0 0 l.length), .ag r.cs] [some ⟨l.map HalfD.cs, 8, 215, false, true⟩] (.sc (.int .i64 (halfAt l r))) [some ⟨l.map HalfD.cs, 8, 215, false, true⟩] := by
 refine qE Tryz.func247 Tryz.ntmps247 Tryz.results247 fun E hE => ?_
 refine den_lp 1 hE (fun s (k : Nat) => s.at [0, 1, 4, 5, 6, 10, 11, 12, 13, 14, 15, 16, 17, 18, 19] [(9, .sc (.int .i64 (k : Nat)))] (s.hp)) (fun (k : Nat) => k ≤ l.length ∧ idxGo (fun h : HalfD => roadEq h.road r) k (l.drop k) = halfAt l r) (fun (k : Nat) => l.length - k) 0 (qA [0, 1]) (qC) (⟨Nat.zero_le _, rfl⟩) (weak_mk (by rfl) (by rfl) ?_) fun k hk N hN => ?_
 ·exact qY
 ·obtain ⟨hk1, hk2⟩ := hk
  refine qR ?_
  refine qB (fun h => ?_) fun h => ?_
  ·rw [idxGo_step h] at hk2
   refine qX ?_
   refine qB (fun h2 => ?_) fun h2 => ?_
   ·rw [roadEq_t h2, if_pos rfl] at hk2
    refine den_fin (qA [0]) (qC) _ (by simp only [go_sem]; rfl) (by rfl) (by rfl) ?_
    simp (disch := omega) only [go_sem, Nat.reduceEqDiff, Nat.reduceAdd, Nat.reduceSub, Int.reduceAdd, Int.reduceSub, Int.reduceToNat]
    try exact hk2
   ·rw [roadEq_f h2, if_neg (by simp)] at hk2
    exact qN hN (k + 1) (qA [0, 1]) (by (try dsimp only); exact ⟨by omega, hk2⟩)
  ·rw [idxGo_end (by omega)] at hk2
   refine den_fin (qA [0]) (qC) _ (by simp only [go_sem]; rfl) (by rfl) (by rfl) ?_
   simp (disch := omega) only [go_sem, Nat.reduceEqDiff, Nat.reduceAdd, Nat.reduceSub, Int.reduceAdd, Int.reduceSub, Int.reduceToNat]
   try exact hk2
theorem impl_AddrAt (l : List AddrD) (n : Int) (hl : l.length ≤ 1048576) : CallA Tryz.prog 258 [.sc (.sl 0 0 l.length), .sc (.int .i64 n)] [some ⟨l.map AddrD.cs, 4, 95, false, true⟩] (.sc (.int .i64 (addrAt l n))) [some ⟨l.map AddrD.cs, 4, 95, false, true⟩] := by
 refine qE Tryz.func258 Tryz.ntmps258 Tryz.results258 fun E hE => ?_
 refine den_lp 1 hE (fun s (k : Nat) => s.at [0, 4, 5, 6, 10, 11, 12, 13, 14, 15, 16, 17, 18, 19] [(9, .sc (.int .i64 (k : Nat)))] (s.hp)) (fun (k : Nat) => k ≤ l.length ∧ idxGo (fun a : AddrD => a.id == n) k (l.drop k) = addrAt l n) (fun (k : Nat) => l.length - k) 0 (qA [0]) (qC) (⟨Nat.zero_le _, rfl⟩) (weak_mk (by rfl) (by rfl) ?_) fun k hk N hN => ?_
 ·exact qY
 ·obtain ⟨hk1, hk2⟩ := hk
  refine qR ?_
  refine qB (fun h => ?_) fun h => ?_
  ·rw [idxGo_step h] at hk2
   refine qX ?_
   refine qB (fun h2 => ?_) fun h2 => ?_
   ·rw [if_pos (by simp [h2])] at hk2
    refine den_fin (qA [0]) (qC) _ (by simp only [go_sem]; rfl) (by rfl) (by rfl) ?_
    simp (disch := omega) only [go_sem, Nat.reduceEqDiff, Nat.reduceAdd, Nat.reduceSub, Int.reduceAdd, Int.reduceSub, Int.reduceToNat]
    try exact hk2
   ·rw [if_neg (by simp [h2])] at hk2
    exact qN hN (k + 1) (qA [0]) (by (try dsimp only); exact ⟨by omega, hk2⟩)
  ·rw [idxGo_end (by omega)] at hk2
   refine den_fin (qA [0]) (qC) _ (by simp only [go_sem]; rfl) (by rfl) (by rfl) ?_
   simp (disch := omega) only [go_sem, Nat.reduceEqDiff, Nat.reduceAdd, Nat.reduceSub, Int.reduceAdd, Int.reduceSub, Int.reduceToNat]
   try exact hk2
theorem impl_SubAt (e : EndD) (r : RoadD) (hl : e.subs.length ≤ 1048576) : CallA Tryz.prog 241 [.ag (e.cs 0), .ag r.cs] (e.hp false) (.sc (.int .i64 (subAt e.subs r))) (e.hp false) := by
 refine qE Tryz.func241 Tryz.ntmps241 Tryz.results241 fun E hE => ?_
 refine den_lp 7 hE (fun s (k : Nat) => s.at [0, 1, 2, 4, 5, 6, 7, 11, 12, 13, 14, 15, 16, 17, 18, 19, 20, 21, 22, 23, 24, 25] [(10, .sc (.int .i64 (k : Nat)))] (s.hp)) (fun (k : Nat) => k ≤ e.subs.length ∧ idxGo (fun s : SubD => s.state != 4 && roadEq s.road r) k (e.subs.drop k) = subAt e.subs r) (fun (k : Nat) => e.subs.length - k) 0 (qA [0, 1, 2, 3, 4, 5, 6, 7, 8]) (qC) (⟨Nat.zero_le _, rfl⟩) (weak_mk (by rfl) (by rfl) ?_) fun k hk N hN => ?_
 ·exact qY
 ·obtain ⟨hk1, hk2⟩ := hk
  refine qR ?_
  refine qB (fun h => ?_) fun h => ?_
  ·rw [idxGo_step h] at hk2
   refine qX ?_
   refine qB (fun h2 => ?_) fun h2 => ?_
   ·refine qB (fun h3 => ?_) fun h3 => ?_
    ·rw [if_pos (by simp [roadEq_t h3, h2])] at hk2
     refine den_fin (qA [0, 1, 2, 3, 4, 5, 6]) (qC) _ (by simp only [go_sem]; rfl) (by rfl) (by rfl) ?_
     simp (disch := omega) only [go_sem, Nat.reduceEqDiff, Nat.reduceAdd, Nat.reduceSub, Int.reduceAdd, Int.reduceSub, Int.reduceToNat]
     try exact hk2
    ·rw [if_neg (by simp [roadEq_f h3])] at hk2
     exact qN hN (k + 1) (qA [0, 1, 2, 3, 4, 5, 6, 7, 8]) (by (try dsimp only); exact ⟨by omega, hk2⟩)
   ·rw [if_neg (by simp [h2])] at hk2
    refine qX ?_
    exact qN hN (k + 1) (qA [0, 1, 2, 3, 4, 5, 6, 7, 8]) (by (try dsimp only); exact ⟨by omega, hk2⟩)
  ·rw [idxGo_end (by omega)] at hk2
   refine den_fin (qA [0, 1, 2, 3, 4, 5, 6]) (qC) _ (by simp only [go_sem]; rfl) (by rfl) (by rfl) ?_
   simp (disch := omega) only [go_sem, Nat.reduceEqDiff, Nat.reduceAdd, Nat.reduceSub, Int.reduceAdd, Int.reduceSub, Int.reduceToNat]
   try exact hk2
theorem spec_HalfAt (l : List HalfD) (r : RoadD) (hl : l.length ≤ 1048576) : CallA Tryz.prog 209 [.sc (.sl 0 0 l.length), .ag r.cs] [some ⟨l.map HalfD.cs, 8, 215, false, true⟩] (.sc (.int .i64 (halfAt l r))) [some ⟨l.map HalfD.cs, 8, 215, false, true⟩] := by
 refine qE Tryz.func209 Tryz.ntmps209 Tryz.results209 fun E hE => ?_
 refine den_lp 1 hE (fun s (k : Nat) => s.at [1, 4, 6, 7, 8, 9, 10, 11, 12, 13, 14, 15, 16, 17, 18, 19] [(5, .sc (.int .i64 (k : Nat)))] (s.hp)) (fun (k : Nat) => k ≤ l.length ∧ idxGo (fun h : HalfD => roadEq h.road r) k (l.drop k) = halfAt l r) (fun (k : Nat) => l.length - k) 0 (qA [0, 1]) (qC) (⟨Nat.zero_le _, rfl⟩) (weak_mk (by rfl) (by rfl) ?_) fun k hk N hN => ?_
 ·exact qY
 ·obtain ⟨hk1, hk2⟩ := hk
  refine qR ?_
  refine qB (fun h => ?_) fun h => ?_
  ·rw [idxGo_step h] at hk2
   refine qD [0, 1, 2, 3, 4, 5, 6] ?_
   refine qG ?_
   refine qB (fun h2 => ?_) fun h2 => ?_
   ·rw [roadEq_t h2, if_pos rfl] at hk2
    refine den_fin (qA [0]) (qC) _ (by simp only [go_sem]; rfl) (by rfl) (by rfl) ?_
    simp (disch := omega) only [go_sem, Nat.reduceEqDiff, Nat.reduceAdd, Nat.reduceSub, Int.reduceAdd, Int.reduceSub, Int.reduceToNat]
    try exact hk2
   ·rw [roadEq_f h2, if_neg (by simp)] at hk2
    exact qN hN (k + 1) (qA [0, 1]) (by (try dsimp only); exact ⟨by omega, hk2⟩)
  ·rw [idxGo_end (by omega)] at hk2
   refine den_fin (qA [0]) (qC) _ (by simp only [go_sem]; rfl) (by rfl) (by rfl) ?_
   simp (disch := omega) only [go_sem, Nat.reduceEqDiff, Nat.reduceAdd, Nat.reduceSub, Int.reduceAdd, Int.reduceSub, Int.reduceToNat]
   try exact hk2
theorem spec_AddrAt (l : List AddrD) (n : Int) (hl : l.length ≤ 1048576) : CallA Tryz.prog 220 [.sc (.sl 0 0 l.length), .sc (.int .i64 n)] [some ⟨l.map AddrD.cs, 4, 95, false, true⟩] (.sc (.int .i64 (addrAt l n))) [some ⟨l.map AddrD.cs, 4, 95, false, true⟩] := by
 refine qE Tryz.func220 Tryz.ntmps220 Tryz.results220 fun E hE => ?_
 refine den_lp 1 hE (fun s (k : Nat) => s.at [4, 6, 7, 8, 9, 10, 11, 12, 13, 14, 15, 16, 17, 18, 19] [(5, .sc (.int .i64 (k : Nat)))] (s.hp)) (fun (k : Nat) => k ≤ l.length ∧ idxGo (fun a : AddrD => a.id == n) k (l.drop k) = addrAt l n) (fun (k : Nat) => l.length - k) 0 (qA [0]) (qC) (⟨Nat.zero_le _, rfl⟩) (weak_mk (by rfl) (by rfl) ?_) fun k hk N hN => ?_
 ·exact qY
 ·obtain ⟨hk1, hk2⟩ := hk
  refine qR ?_
  refine qB (fun h => ?_) fun h => ?_
  ·rw [idxGo_step h] at hk2
   refine qX ?_
   refine qB (fun h2 => ?_) fun h2 => ?_
   ·rw [if_pos (by simp [h2])] at hk2
    refine den_fin (qA [0]) (qC) _ (by simp only [go_sem]; rfl) (by rfl) (by rfl) ?_
    simp (disch := omega) only [go_sem, Nat.reduceEqDiff, Nat.reduceAdd, Nat.reduceSub, Int.reduceAdd, Int.reduceSub, Int.reduceToNat]
    try exact hk2
   ·rw [if_neg (by simp [h2])] at hk2
    exact qN hN (k + 1) (qA [0]) (by (try dsimp only); exact ⟨by omega, hk2⟩)
  ·rw [idxGo_end (by omega)] at hk2
   refine den_fin (qA [0]) (qC) _ (by simp only [go_sem]; rfl) (by rfl) (by rfl) ?_
   simp (disch := omega) only [go_sem, Nat.reduceEqDiff, Nat.reduceAdd, Nat.reduceSub, Int.reduceAdd, Int.reduceSub, Int.reduceToNat]
   try exact hk2
theorem spec_SubAt (e : EndD) (r : RoadD) (hl : e.subs.length ≤ 1048576) : CallA Tryz.prog 200 [.ag (e.cs 0), .ag r.cs] (e.hp false) (.sc (.int .i64 (subAt e.subs r))) (e.hp false) := by
 refine qE Tryz.func200 Tryz.ntmps200 Tryz.results200 fun E hE => ?_
 refine den_lp 7 hE (fun s (k : Nat) => s.at [0, 1, 4, 6, 7, 8, 9, 10, 11, 12, 13, 14, 15, 16, 17, 18, 19, 20, 21, 22, 23, 24, 25, 26, 27, 28, 29, 30] [(5, .sc (.int .i64 (k : Nat)))] (s.hp)) (fun (k : Nat) => k ≤ e.subs.length ∧ idxGo (fun s : SubD => s.state != 4 && roadEq s.road r) k (e.subs.drop k) = subAt e.subs r) (fun (k : Nat) => e.subs.length - k) 0 (qA [0, 1, 2, 3, 4, 5, 6, 7, 8]) (qC) (⟨Nat.zero_le _, rfl⟩) (weak_mk (by rfl) (by rfl) ?_) fun k hk N hN => ?_
 ·exact qY
 ·obtain ⟨hk1, hk2⟩ := hk
  refine qR ?_
  refine qB (fun h => ?_) fun h => ?_
  ·rw [idxGo_step h] at hk2
   refine qD [0, 1, 2, 3, 4, 5, 6, 7, 8, 9, 10, 11, 12, 13, 14, 15, 16] ?_
   refine qB (fun h2 => ?_) fun h2 => ?_
   ·refine qG ?_
    refine qB (fun h3 => ?_) fun h3 => ?_
    ·rw [if_pos (by simp [roadEq_t h2, h3])] at hk2
     refine den_fin (qA [0, 1, 2, 3, 4, 5, 6]) (qC) _ (by simp only [go_sem]; rfl) (by rfl) (by rfl) ?_
     simp (disch := omega) only [go_sem, Nat.reduceEqDiff, Nat.reduceAdd, Nat.reduceSub, Int.reduceAdd, Int.reduceSub, Int.reduceToNat]
     try exact hk2
    ·rw [if_neg (by simp [h3])] at hk2
     exact qN hN (k + 1) (qA [0, 1, 2, 3, 4, 5, 6, 7, 8]) (by (try dsimp only); exact ⟨by omega, hk2⟩)
   ·rw [if_neg (by simp [roadEq_f h2])] at hk2
    refine qG ?_
    exact qN hN (k + 1) (qA [0, 1, 2, 3, 4, 5, 6, 7, 8]) (by (try dsimp only); exact ⟨by omega, hk2⟩)
  ·rw [idxGo_end (by omega)] at hk2
   refine den_fin (qA [0, 1, 2, 3, 4, 5, 6]) (qC) _ (by simp only [go_sem]; rfl) (by rfl) (by rfl) ?_
   simp (disch := omega) only [go_sem, Nat.reduceEqDiff, Nat.reduceAdd, Nat.reduceSub, Int.reduceAdd, Int.reduceSub, Int.reduceToNat]
   try exact hk2
theorem impl_roadIsNumber (r : RoadD) : CallA Tryz.prog 240 [.ag r.cs] [] (.sc (.bo (roadN r))) [] := by
 refine qE Tryz.func240 Tryz.ntmps240 Tryz.results240 fun E hE => ?_
 refine qK (impl_isNumber [r.own, r.far, r.port] (by simp)) (qA [1]) ?_
 refine den_fin [] (qC) _ (by simp only [go_sem]; rfl) (by rfl) (by rfl) ?_
 simp (disch := omega) only [go_sem, Nat.reduceEqDiff, Nat.reduceAdd, Nat.reduceSub, Int.reduceAdd, Int.reduceSub, Int.reduceToNat]
 try simp [roadN, Bool.and_assoc]
theorem spec_l14Road (r : RoadD) : CallA Tryz.prog 201 [.ag r.cs] [] (.sc (.bo (roadN r))) [] := by
 refine qE Tryz.func201 Tryz.ntmps201 Tryz.results201 fun E hE => ?_
 refine qK (spec_l14Num _) [] ?_
 refine qB (fun h1 => ?_) fun h1 => ?_
 ·refine qK (spec_l14Num _) [] ?_
  refine qB (fun h2 => ?_) fun h2 => ?_
  ·refine qK (spec_l14Num _) [] ?_
   refine qJ [] ?_
   simp [roadN, h1, h2]
  ·refine qJ [] ?_
   simp [roadN, h1, h2]
 ·refine qJ [] ?_
  simp [roadN, h1]
theorem impl_OutOk (x : OutD) : CallA Tryz.prog 237 [.ag x.cs] [] (.sc (.bo (outOk x))) [] := by
 refine qE Tryz.func237 Tryz.ntmps237 Tryz.results237 fun E hE => ?_
 refine qK (impl_isNumber [x.base] (by simp)) (qA [1]) ?_
 have e1 : [x.base].all isN = isN x.base := by simp
 rw [e1]
 refine qX ?_
 refine qB (fun h1 => ?_) fun h1 => ?_
 ·refine qK (impl_within _ _ _) [] ?_
  refine qB (fun h2 => ?_) fun h2 => ?_
  ·refine qB (fun h3 => ?_) fun h3 => ?_
   ·refine qK (impl_within _ _ _) [] ?_
    refine qJ [] ?_
    simp [outOk, h1, h2, h3]
   ·refine qJ [] ?_
    simp [outOk, h1, h2, h3]
  ·refine qJ [] ?_
   simp [outOk, h1, h2]
 ·refine qJ [] ?_
  simp [outOk, h1]
theorem isN_inR (n : Int) : inR n 0 1000000000 = isN n := rfl
theorem spec_OutOk (x : OutD) : CallA Tryz.prog 198 [.ag x.cs] [] (.sc (.bo (outOk x))) [] := by
 refine qE Tryz.func198 Tryz.ntmps198 Tryz.results198 fun E hE => ?_
 refine qK (spec_l01In _ _ _) [] ?_
 rw [isN_inR]
 refine qB (fun h1 => ?_) fun h1 => ?_
 ·refine qK (spec_l01In _ _ _) [] ?_
  refine qB (fun h2 => ?_) fun h2 => ?_
  ·refine qB (fun h3 => ?_) fun h3 => ?_
   ·refine qK (spec_l01In _ _ _) [] ?_
    refine qJ [] ?_
    simp [outOk, h1, h2, h3]
   ·refine qJ [] ?_
    simp [outOk, h1, h2, h3]
  ·refine qJ [] ?_
   simp [outOk, h1, h2]
 ·refine qJ [] ?_
  simp [outOk, h1]
theorem impl_HeldOf (p : PiecesD) (hl : p.list.length ≤ 1048576) : CallA Tryz.prog 316 [.ag (p.cs 0)] (p.hp false) (.sc (.int .i64 (heldOf p))) (p.hp false) := by
 refine qE Tryz.func316 Tryz.ntmps316 Tryz.results316 fun E hE => ?_
 refine den_lp 1 hE (fun s (x : Nat × Int) => s.at [0, 1, 5, 6, 7, 8, 9, 13, 14, 15, 16, 17, 18, 19, 20, 21] [(12, .sc (.int .i64 (x.1 : Nat))), (3, .sc (.int .i64 x.2))] (s.hp)) (fun (x : Nat × Int) => x.1 ≤ p.list.length ∧ heldGo x.2 (p.list.drop x.1) = heldOf p) (fun (x : Nat × Int) => p.list.length - x.1) (0, (p.ready.length : Int)) (qA [0, 1]) (qC) (⟨Nat.zero_le _, rfl⟩) (weak_mk (by rfl) (by rfl) ?_) fun x hx N hN => ?_
 ·exact qY
 ·obtain ⟨k, n⟩ := x
  obtain ⟨hk1, hk2⟩ := hx
  dsimp only at hk1 hk2
  refine qR ?_
  refine qB (fun h => ?_) fun h => ?_
  ·rw [heldGo_step h] at hk2
   refine qX ?_
   exact qN hN (k + 1, IntKind.i64.wrap (n + (p.list[k].text.length : Int))) (qA [0, 1]) (by (try dsimp only); exact ⟨by omega, hk2⟩)
  ·rw [List.drop_eq_nil_of_le (by omega), heldGo] at hk2
   refine den_fin (qA [0]) (qC) _ (by simp only [go_sem]; rfl) (by rfl) (by rfl) ?_
   simp (disch := omega) only [go_sem, Nat.reduceEqDiff, Nat.reduceAdd, Nat.reduceSub, Int.reduceAdd, Int.reduceSub, Int.reduceToNat]
   try exact hk2

theorem spec_HeldOf (p : PiecesD) (hl : p.list.length ≤ 1048576) : CallA Tryz.prog 310 [.ag (p.cs 0)] (p.hp false) (.sc (.int .i64 (heldOf p))) (p.hp false) := by
 refine qE Tryz.func310 Tryz.ntmps310 Tryz.results310 fun E hE => ?_
 refine den_lp 1 hE (fun s (x : Nat × Int) => s.at [0, 5, 6, 7, 8, 9, 10, 11, 12, 13, 14, 15, 16, 17, 18, 19, 20, 21, 22, 23] [(4, .sc (.int .i64 (x.1 : Nat))), (3, .sc (.int .i64 x.2))] (s.hp)) (fun (x : Nat × Int) => x.1 ≤ p.list.length ∧ heldGo x.2 (p.list.drop x.1) = heldOf p) (fun (x : Nat × Int) => p.list.length - x.1) (0, (p.ready.length : Int)) (qA [0, 1]) (qC) (⟨Nat.zero_le _, rfl⟩) (weak_mk (by rfl) (by rfl) ?_) fun x hx N hN => ?_
 ·exact qY
 ·obtain ⟨k, n⟩ := x
  obtain ⟨hk1, hk2⟩ := hx
  dsimp only at hk1 hk2
  refine qR ?_
  refine qB (fun h => ?_) fun h => ?_
  ·rw [heldGo_step h] at hk2
   refine qX ?_
   exact qN hN (k + 1, IntKind.i64.wrap (n + (p.list[k].text.length : Int))) (qA [0, 1]) (by (try dsimp only); exact ⟨by omega, hk2⟩)
  ·rw [List.drop_eq_nil_of_le (by omega), heldGo] at hk2
   refine den_fin (qA [0]) (qC) _ (by simp only [go_sem]; rfl) (by rfl) (by rfl) ?_
   simp (disch := omega) only [go_sem, Nat.reduceEqDiff, Nat.reduceAdd, Nat.reduceSub, Int.reduceAdd, Int.reduceSub, Int.reduceToNat]
   try exact hk2

end
section
open Go.RowKit

theorem impl_BucketOk (b : BucketD) : CallA Tryz.prog 236 [.ag b.cs] [] (.sc (.bo (bucketOk b))) [] := by
 refine qE Tryz.func236 Tryz.ntmps236 Tryz.results236 fun E hE => ?_
 refine qK (impl_within _ _ _) [] ?_
 refine qB (fun h1 => ?_) fun h1 => ?_
 ·refine qK (impl_within _ _ _) [] ?_
  refine qB (fun h2 => ?_) fun h2 => ?_
  ·refine qK (impl_within _ _ _) [] ?_
   refine qJ [] ?_
   simp [bucketOk, h1, h2]
  ·refine qJ [] ?_
   simp [bucketOk, h1, h2]
 ·refine qJ [] ?_
  simp [bucketOk, h1]
theorem spec_BucketOk (b : BucketD) : CallA Tryz.prog 197 [.ag b.cs] [] (.sc (.bo (bucketOk b))) [] := by
 refine qE Tryz.func197 Tryz.ntmps197 Tryz.results197 fun E hE => ?_
 refine qK (spec_l01In _ _ _) [] ?_
 refine qB (fun h1 => ?_) fun h1 => ?_
 ·refine qK (spec_l01In _ _ _) [] ?_
  refine qB (fun h2 => ?_) fun h2 => ?_
  ·refine qK (spec_l01In _ _ _) [] ?_
   refine qJ [] ?_
   simp [bucketOk, h1, h2]
  ·refine qJ [] ?_
   simp [bucketOk, h1, h2]
 ·refine qJ [] ?_
  simp [bucketOk, h1]
end
section
open Go.RowKit

theorem upto_snoc {p : Nat → Bool} {k : Nat} (h : ∀ j, j < k → p j = true) (hk : p k = true) : ∀ j, j < k + 1 → p j = true := by
 intro j hj
 rcases (by omega : j < k ∨ j = k) with h1 | rfl
 ·exact h j h1
 ·exact hk
theorem any_take_step {α : Type} {p : α → Bool} {l : List α} {i k : Nat} (h : i < k) (hk : k ≤ l.length) : (((l.take k).drop i).all p) = (p (l[i]'(by omega)) && ((l.take k).drop (i + 1)).all p) := by
 have hl : i < (l.take k).length := by simp; omega
 rw [all_step hl, List.getElem_take]
theorem impl_AddrsOk (l : List AddrD) (hl : l.length ≤ 1048576) : CallA Tryz.prog 234 [.sc (.sl 0 0 l.length)] [some ⟨l.map AddrD.cs, 4, 95, false, true⟩] (.sc (.bo (addrsOk l))) [some ⟨l.map AddrD.cs, 4, 95, false, true⟩] := by
 refine qE Tryz.func234 Tryz.ntmps234 Tryz.results234 fun E hE => ?_
 refine qB (fun g1 => ?_) fun g1 => ?_
 ·have hr : addrsOk l = false := by simp [addrsOk]; omega
  rw [hr]
  exact qF (qA [0])
 ·have hr : addrsOk l = upto (adOk l) l.length := by simp [addrsOk]; omega
  rw [hr]
  refine qX ?_
  refine den_lp 1 hE (fun s (k : Nat) => s.at [2, 3, 4, 6, 7, 8, 9, 13, 14, 15, 16, 17, 18, 19, 20, 21, 22, 23, 24, 25, 26, 27, 28, 29, 30, 31, 32, 33, 34, 35, 36, 37, 38, 39, 40, 41, 42, 43, 44, 45, 46, 47, 48, 49, 50, 51, 52, 53, 54, 55, 56] [(12, .sc (.int .i64 (k : Nat)))] (s.hp)) (fun (k : Nat) => k ≤ l.length ∧ ∀ j, j < k → adOk l j = true) (fun (k : Nat) => l.length - k) 0 (qA [0]) (qC) (⟨Nat.zero_le _, fun j hj => absurd hj (Nat.not_lt_zero _)⟩) (weak_mk (by rfl) (by rfl) ?_) fun k hk N hN => ?_
  ·exact qY
  ·obtain ⟨hk1, hk2⟩ := hk
   refine qR ?_
   refine qB (fun h => ?_) fun h => ?_
   ·have hA := adA_eq h
    obtain ⟨a, ha⟩ : ∃ a, a = l[k] := ⟨_, rfl⟩
    refine qX ?_
    refine qD [0, 1, 2, 3, 4, 5, 6, 7, 8, 9, 10, 11, 12, 13, 14, 15, 16, 17, 18, 19, 20, 21, 22, 23, 24] ?_
    refine qKD (impl_within _ _ _) [] ?_
    refine qB (fun h2 => ?_) fun h2 => ?_
    ·refine qKD (impl_within _ _ _) [] ?_
     refine qB (fun h3 => ?_) fun h3 => ?_
     ·by_cases h0 : k = 0
      ·subst h0
       refine qX ?_
       refine qG ?_
       refine den_lp 1 hE (fun s (i : Nat) => s.at [2, 6, 7, 8, 9, 14, 15, 16, 17, 18, 19, 20, 21, 22, 23, 24, 25, 26, 27, 28, 29, 30, 31, 32, 33, 34, 35, 36, 37, 38, 39, 40, 42, 43, 47, 48, 49, 50, 51, 52, 53, 54, 55, 56] [(46, .sc (.int .i64 (i : Nat)))] (s.hp)) (fun (i : Nat) => i ≤ 0) (fun (i : Nat) => 0 - i) 0 (qA [0, 1]) (qC) (Nat.zero_le _) (weak_mk (by rfl) (by rfl) ?_) fun i hi N2 hN2 => ?_
       ·exact qY
       ·refine run_den 400 ?_
        have e : i = 0 := by omega
        subst e
        refine qX ?_
        have hg : adOk l 0 = true := by
         rw [adOk, hA]
         simp [h2, h3]
        exact qN hN (0 + 1) (qA [0]) (by (try dsimp only); exact ⟨by omega, upto_snoc hk2 hg⟩)
      ·have hk' : k - 1 < l.length := by omega
       have hA' := adA_eq hk'
       obtain ⟨m, rfl⟩ : ∃ m, k = m + 1 := ⟨k - 1, by omega⟩
       have em : m + 1 - 1 = m := by omega
       have em2 : ((m + 1 : Nat) : Int) - 1 = (m : Int) := by omega
       have em3 : (m : Int) + 1 - 1 = (m : Int) := by omega
       have hm : m < l.length := by omega
       try simp (disch := omega) only [go_sem, Nat.reduceEqDiff, Nat.reduceAdd, Nat.reduceSub, Int.reduceAdd, Int.reduceSub, Int.reduceToNat, em2, em3, map_get hm]
       refine ⟨by (try simp (disch := omega) only [go_sem, List.length_set, Nat.reduceEqDiff, Nat.reduceAdd, Nat.reduceSub, Int.reduceAdd, Int.reduceSub, Int.reduceToNat, em2, em3]) <;> omega, run_den 400 ?_⟩
       refine qX ?_
       refine qB (fun h5 => ?_) fun h5 => ?_
       ·have hb : adOk l (m + 1) = false := by
         rw [adOk, hA, hA']
         simp
         omega
        rw [upto_false h hb]
        exact qF (qA [0])
       ·have h5' : l[m].id < l[m + 1].id := by omega
        refine den_lp 1 hE (fun s (i : Nat) => s.at [2, 6, 7, 8, 9, 14, 15, 16, 17, 18, 19, 20, 21, 22, 23, 24, 25, 26, 27, 28, 29, 30, 31, 32, 33, 34, 35, 36, 37, 38, 39, 40, 42, 43, 47, 48, 49, 50, 51, 52, 53, 54, 55, 56] [(46, .sc (.int .i64 (i : Nat)))] (s.hp)) (fun (i : Nat) => i ≤ m + 1 ∧ ((l.take (m + 1)).drop i).all (fun b => !(l[m + 1].addr == b.addr)) = (l.take (m + 1)).all (fun b => !(l[m + 1].addr == b.addr))) (fun (i : Nat) => m + 1 - i) 0 (qA [0, 1]) (qC) (⟨Nat.zero_le _, rfl⟩) (weak_mk (by rfl) (by rfl) ?_) fun i hi N2 hN2 => ?_
        ·exact qY
        ·obtain ⟨hi1, hi2⟩ := hi
         refine qR ?_
         refine qB (fun h6 => ?_) fun h6 => ?_
         ·rw [any_take_step (by omega) (by omega)] at hi2
          have hil : i < l.length := by omega
          try simp (disch := omega) only [go_sem, Nat.reduceEqDiff, Nat.reduceAdd, Nat.reduceSub, Int.reduceAdd, Int.reduceSub, Int.reduceToNat, map_get hil]
          refine qB (fun h7 => ?_) fun h7 => ?_
          ·have hb : adOk l (m + 1) = false := by
            rw [adOk, hA, ← hi2]
            simp [h7]
           rw [upto_false h hb]
           exact qF (qA [0])
          ·have h7' : ¬ l[m + 1].addr = l[i].addr := fun e => h7 (by first | exact e | exact e.symm)
           rw [show (!(l[m + 1].addr == l[i].addr)) = true from by simp [h7'], Bool.true_and] at hi2
           exact qN hN2 (i + 1) (qA [0, 1]) (by (try dsimp only); exact ⟨by omega, hi2⟩)
         ·rw [List.drop_eq_nil_of_le (by simp; omega), List.all_nil] at hi2
          have hg : adOk l (m + 1) = true := by
           rw [adOk, hA, ← hi2]
           simp [h2, h3, adA_eq hm, h5']
          exact qN hN (m + 1 + 1) (qA [0]) (by (try dsimp only); exact ⟨by omega, upto_snoc hk2 hg⟩)
     ·have hb : adOk l k = false := by simp [adOk, hA, h3]
      rw [upto_false h hb]
      refine qG ?_
      exact qF (qA [0])
    ·have hb : adOk l k = false := by simp [adOk, hA, h2]
     rw [upto_false h hb]
     refine qG ?_
     exact qF (qA [0])
   ·have e : k = l.length := by omega
    subst e
    rw [upto_true hk2]
    exact qF (qA [0])
theorem spec_AddrsOk (l : List AddrD) (hl : l.length ≤ 1048576) : CallA Tryz.prog 195 [.sc (.sl 0 0 l.length)] [some ⟨l.map AddrD.cs, 4, 95, false, true⟩] (.sc (.bo (addrsOk l))) [some ⟨l.map AddrD.cs, 4, 95, false, true⟩] := by
 refine qE Tryz.func195 Tryz.ntmps195 Tryz.results195 fun E hE => ?_
 refine qB (fun g1 => ?_) fun g1 => ?_
 ·have hr : addrsOk l = false := by simp [addrsOk]; omega
  rw [hr]
  exact qF (qA [0])
 ·have hr : addrsOk l = upto (adOk l) l.length := by simp [addrsOk]; omega
  rw [hr]
  refine qX ?_
  refine den_lp 1 hE (fun s (k : Nat) => s.at [2, 4, 5, 6, 7, 8, 9, 10, 11, 12, 13, 14, 15, 16, 17, 18, 19, 20, 21, 22, 23, 24, 25, 26, 27, 28, 29, 30, 31, 32, 33, 34, 35, 36, 37, 38, 39, 40, 41, 42, 43, 44, 45, 46, 47, 48, 49, 50, 51, 52, 53, 54, 55, 56] [(3, .sc (.int .i64 (k : Nat)))] (s.hp)) (fun (k : Nat) => k ≤ l.length ∧ ∀ j, j < k → adOk l j = true) (fun (k : Nat) => l.length - k) 0 (qA [0]) (qC) (⟨Nat.zero_le _, fun j hj => absurd hj (Nat.not_lt_zero _)⟩) (weak_mk (by rfl) (by rfl) ?_) fun k hk N hN => ?_
  ·exact qY
  ·obtain ⟨hk1, hk2⟩ := hk
   refine qR ?_
   refine qB (fun h => ?_) fun h => ?_
   ·have hA := adA_eq h
    obtain ⟨a, ha⟩ : ∃ a, a = l[k] := ⟨_, rfl⟩
    refine qX ?_
    refine qD [0, 1, 2, 3, 4, 5, 6, 7, 8, 9, 10, 11, 12, 13, 14, 15, 16, 17, 18, 19, 20, 21, 22, 23, 24] ?_
    refine qKD (spec_l01In _ _ _) [] ?_
    refine qB (fun h2 => ?_) fun h2 => ?_
    ·refine qKD (spec_l01In _ _ _) [] ?_
     refine qB (fun h3 => ?_) fun h3 => ?_
     ·by_cases h0 : k = 0
      ·subst h0
       refine qX ?_
       refine qG ?_
       refine den_lp 1 hE (fun s (i : Nat) => s.at [2, 6, 7, 8, 9, 10, 11, 13, 14, 15, 16, 17, 18, 19, 20, 21, 22, 23, 24, 25, 26, 27, 28, 29, 30, 31, 32, 33, 34, 35, 36, 37, 38, 39, 40, 41, 42, 44, 45, 46, 47, 48, 49, 50, 51, 52, 53, 54, 55, 56] [(5, .sc (.int .i64 (i : Nat)))] (s.hp)) (fun (i : Nat) => i ≤ 0) (fun (i : Nat) => 0 - i) 0 (qA [0, 1]) (qC) (Nat.zero_le _) (weak_mk (by rfl) (by rfl) ?_) fun i hi N2 hN2 => ?_
       ·exact qY
       ·refine run_den 400 ?_
        have e : i = 0 := by omega
        subst e
        refine qX ?_
        have hg : adOk l 0 = true := by
         rw [adOk, hA]
         simp [h2, h3]
        exact qN hN (0 + 1) (qA [0]) (by (try dsimp only); exact ⟨by omega, upto_snoc hk2 hg⟩)
      ·have hk' : k - 1 < l.length := by omega
       have hA' := adA_eq hk'
       obtain ⟨m, rfl⟩ : ∃ m, k = m + 1 := ⟨k - 1, by omega⟩
       have em : m + 1 - 1 = m := by omega
       have em2 : ((m + 1 : Nat) : Int) - 1 = (m : Int) := by omega
       have em3 : (m : Int) + 1 - 1 = (m : Int) := by omega
       have hm : m < l.length := by omega
       try simp (disch := omega) only [go_sem, Nat.reduceEqDiff, Nat.reduceAdd, Nat.reduceSub, Int.reduceAdd, Int.reduceSub, Int.reduceToNat, em2, em3, map_get hm]
       refine ⟨by (try simp (disch := omega) only [go_sem, List.length_set, Nat.reduceEqDiff, Nat.reduceAdd, Nat.reduceSub, Int.reduceAdd, Int.reduceSub, Int.reduceToNat, em2, em3]) <;> omega, run_den 400 ?_⟩
       refine qX ?_
       refine qB (fun h5 => ?_) fun h5 => ?_
       ·have hb : adOk l (m + 1) = false := by
         rw [adOk, hA, hA']
         simp
         omega
        rw [upto_false h hb]
        exact qF (qA [0])
       ·have h5' : l[m].id < l[m + 1].id := by omega
        refine den_lp 1 hE (fun s (i : Nat) => s.at [2, 6, 7, 8, 9, 10, 11, 13, 14, 15, 16, 17, 18, 19, 20, 21, 22, 23, 24, 25, 26, 27, 28, 29, 30, 31, 32, 33, 34, 35, 36, 37, 38, 39, 40, 41, 42, 44, 45, 46, 47, 48, 49, 50, 51, 52, 53, 54, 55, 56] [(5, .sc (.int .i64 (i : Nat)))] (s.hp)) (fun (i : Nat) => i ≤ m + 1 ∧ ((l.take (m + 1)).drop i).all (fun b => !(l[m + 1].addr == b.addr)) = (l.take (m + 1)).all (fun b => !(l[m + 1].addr == b.addr))) (fun (i : Nat) => m + 1 - i) 0 (qA [0, 1]) (qC) (⟨Nat.zero_le _, rfl⟩) (weak_mk (by rfl) (by rfl) ?_) fun i hi N2 hN2 => ?_
        ·exact qY
        ·obtain ⟨hi1, hi2⟩ := hi
         refine qR ?_
         refine qB (fun h6 => ?_) fun h6 => ?_
         ·rw [any_take_step (by omega) (by omega)] at hi2
          have hil : i < l.length := by omega
          try simp (disch := omega) only [go_sem, Nat.reduceEqDiff, Nat.reduceAdd, Nat.reduceSub, Int.reduceAdd, Int.reduceSub, Int.reduceToNat, map_get hil]
          refine qD [0, 1, 2, 3, 4, 5, 6, 7] ?_
          refine qG ?_
          refine qB (fun h7 => ?_) fun h7 => ?_
          ·have hb : adOk l (m + 1) = false := by
            rw [adOk, hA, ← hi2]
            simp [h7]
           rw [upto_false h hb]
           exact qF (qA [0])
          ·have h7' : ¬ l[m + 1].addr = l[i].addr := fun e => h7 (by first | exact e | exact e.symm)
           rw [show (!(l[m + 1].addr == l[i].addr)) = true from by simp [h7'], Bool.true_and] at hi2
           exact qN hN2 (i + 1) (qA [0, 1]) (by (try dsimp only); exact ⟨by omega, hi2⟩)
         ·rw [List.drop_eq_nil_of_le (by simp; omega), List.all_nil] at hi2
          have hg : adOk l (m + 1) = true := by
           rw [adOk, hA, ← hi2]
           simp [h2, h3, adA_eq hm, h5']
          exact qN hN (m + 1 + 1) (qA [0]) (by (try dsimp only); exact ⟨by omega, upto_snoc hk2 hg⟩)
     ·have hb : adOk l k = false := by simp [adOk, hA, h3]
      rw [upto_false h hb]
      refine qG ?_
      exact qF (qA [0])
    ·have hb : adOk l k = false := by simp [adOk, hA, h2]
     rw [upto_false h hb]
     refine qG ?_
     exact qF (qA [0])
   ·have e : k = l.length := by omega
    subst e
    rw [upto_true hk2]
    exact qF (qA [0])
theorem impl_HalfsOk (l : List HalfD) (hl : l.length ≤ 1048576) : CallA Tryz.prog 235 [.sc (.sl 0 0 l.length)] [some ⟨l.map HalfD.cs, 8, 215, false, true⟩] (.sc (.bo (halfsOk l))) [some ⟨l.map HalfD.cs, 8, 215, false, true⟩] := by
 refine qE Tryz.func235 Tryz.ntmps235 Tryz.results235 fun E hE => ?_
 refine qB (fun g1 => ?_) fun g1 => ?_
 ·have hr : halfsOk l = false := by simp [halfsOk]; omega
  rw [hr]
  exact qF (qA [0])
 ·have hr : halfsOk l = upto (haOk l) l.length := by simp [halfsOk]; omega
  rw [hr]
  refine qX ?_
  refine den_lp 1 hE (fun s (k : Nat) => s.at [2, 3, 4, 5, 6, 7, 11, 12, 13, 14, 15, 16, 17, 18, 19, 20, 21, 22, 23, 24, 25, 26, 27, 28, 29, 30, 31, 32, 33, 34, 35, 36, 37, 38, 39, 40, 41, 42] [(10, .sc (.int .i64 (k : Nat)))] (s.hp)) (fun (k : Nat) => k ≤ l.length ∧ ∀ j, j < k → haOk l j = true) (fun (k : Nat) => l.length - k) 0 (qA [0]) (qC) (⟨Nat.zero_le _, fun j hj => absurd hj (Nat.not_lt_zero _)⟩) (weak_mk (by rfl) (by rfl) ?_) fun k hk N hN => ?_
  ·exact qY
  ·obtain ⟨hk1, hk2⟩ := hk
   refine qR ?_
   refine qB (fun h => ?_) fun h => ?_
   ·have hA := haA_eq h
    refine qX ?_
    refine qK (impl_HalfAt l l[k].road hl) (qA [0]) ?_
    refine qB (fun h2 => ?_) fun h2 => ?_
    ·refine qK (impl_roadIsNumber l[k].road) [] ?_
     refine qB (fun h3 => ?_) fun h3 => ?_
     ·refine qK (impl_isNumber [l[k].theirs, l[k].mine, l[k].give, l[k].take, l[k].till] (by simp)) (qA [2]) ?_
      generalize hq : [l[k].theirs, l[k].mine, l[k].give, l[k].take, l[k].till].all isN = q
      refine qB (fun h4 => ?_) fun h4 => ?_
      ·have hb : haOk l k = false := by simp [haOk, hA, hq, h4]
       rw [upto_false h hb]
       exact qF (qA [0])
      ·have hg : haOk l k = true := by simp [haOk, hA, hq, h4, h2, h3]
       exact qN hN (k + 1) (qA [0]) (by (try dsimp only); exact ⟨by omega, upto_snoc hk2 hg⟩)
     ·have hb : haOk l k = false := by simp [haOk, hA, h3]
      rw [upto_false h hb]
      exact qF (qA [0])
    ·have hb : haOk l k = false := by simp [haOk, hA, h2]
     rw [upto_false h hb]
     exact qF (qA [0])
   ·have e : k = l.length := by omega
    subst e
    rw [upto_true hk2]
    exact qF (qA [0])
theorem spec_HalfsOk (l : List HalfD) (hl : l.length ≤ 1048576) : CallA Tryz.prog 196 [.sc (.sl 0 0 l.length)] [some ⟨l.map HalfD.cs, 8, 215, false, true⟩] (.sc (.bo (halfsOk l))) [some ⟨l.map HalfD.cs, 8, 215, false, true⟩] := by
 refine qE Tryz.func196 Tryz.ntmps196 Tryz.results196 fun E hE => ?_
 refine qB (fun g1 => ?_) fun g1 => ?_
 ·have hr : halfsOk l = false := by simp [halfsOk]; omega
  rw [hr]
  exact qF (qA [0])
 ·have hr : halfsOk l = upto (haOk l) l.length := by simp [halfsOk]; omega
  rw [hr]
  refine qX ?_
  refine den_lp 1 hE (fun s (k : Nat) => s.at [2, 4, 5, 6, 7, 8, 9, 10, 11, 12, 13, 14, 15, 16, 17, 18, 19, 20, 21, 22, 23, 24, 25, 26, 27, 28, 29, 30, 31, 32, 33, 34, 35, 36, 37, 38, 39, 40, 41, 42, 43, 44, 45, 46, 47, 48, 49, 50, 51, 52, 53, 54, 55, 56, 57, 58, 59] [(3, .sc (.int .i64 (k : Nat)))] (s.hp)) (fun (k : Nat) => k ≤ l.length ∧ ∀ j, j < k → haOk l j = true) (fun (k : Nat) => l.length - k) 0 (qA [0]) (qC) (⟨Nat.zero_le _, fun j hj => absurd hj (Nat.not_lt_zero _)⟩) (weak_mk (by rfl) (by rfl) ?_) fun k hk N hN => ?_
  ·exact qY
  ·obtain ⟨hk1, hk2⟩ := hk
   refine qR ?_
   refine qB (fun h => ?_) fun h => ?_
   ·have hA := haA_eq h
    refine qX ?_
    refine qK (spec_l14Road l[k].road) [] ?_
    refine qB (fun h2 => ?_) fun h2 => ?_
    ·skip
     refine qK (spec_l14Num l[k].theirs) [] ?_
     refine qB (fun n0 => ?_) fun n0 => ?_
     ·skip
      refine qK (spec_l14Num l[k].mine) [] ?_
      refine qB (fun n1 => ?_) fun n1 => ?_
      ·skip
       refine qK (spec_l14Num l[k].give) [] ?_
       refine qB (fun n2 => ?_) fun n2 => ?_
       ·skip
        refine qK (spec_l14Num l[k].take) [] ?_
        refine qB (fun n3 => ?_) fun n3 => ?_
        ·skip
         refine qK (spec_l14Num l[k].till) [] ?_
         refine qB (fun n4 => ?_) fun n4 => ?_
         ·skip
          refine qK (spec_HalfAt l l[k].road hl) (qA [0]) ?_
          refine qB (fun h4 => ?_) fun h4 => ?_
          ·have hb : haOk l k = false := by simp [haOk, hA, h4]
           rw [upto_false h hb]
           exact qF (qA [0])
          ·have hg : haOk l k = true := by simp [haOk, hA, h2, h4, n0, n1, n2, n3, n4]
           exact qN hN (k + 1) (qA [0]) (by (try dsimp only); exact ⟨by omega, upto_snoc hk2 hg⟩)
         ·have hb : haOk l k = false := by simp [haOk, hA, n4]
          rw [upto_false h hb]
          exact qF (qA [0])
        ·have hb : haOk l k = false := by simp [haOk, hA, n3]
         rw [upto_false h hb]
         exact qF (qA [0])
       ·have hb : haOk l k = false := by simp [haOk, hA, n2]
        rw [upto_false h hb]
        exact qF (qA [0])
      ·have hb : haOk l k = false := by simp [haOk, hA, n1]
       rw [upto_false h hb]
       exact qF (qA [0])
     ·have hb : haOk l k = false := by simp [haOk, hA, n0]
      rw [upto_false h hb]
      exact qF (qA [0])
    ·have hb : haOk l k = false := by simp [haOk, hA, h2]
     rw [upto_false h hb]
     exact qF (qA [0])
   ·have e : k = l.length := by omega
    subst e
    rw [upto_true hk2]
    exact qF (qA [0])
end
section
open Go.RowKit

theorem getI {l : List Int} {k : Nat} (h : k < l.length) : l.getD k 0 = l[k] := by
 rw [List.getD_eq_getElem?_getD, List.getElem?_eq_getElem h]; rfl
theorem impl_PiecesOk (p : PiecesD) (hl : p.list.length ≤ 1048576) : CallA Tryz.prog 238 [.ag (p.cs 0)] (p.hp false) (.sc (.bo (piecesOk p))) (p.hp false) := by
 refine qE Tryz.func238 Tryz.ntmps238 Tryz.results238 fun E hE => ?_
 refine qK (impl_isNumber [p.read] (by simp)) (qA [2]) ?_
 have e1 : [p.read].all isN = isN p.read := by simp
 rw [e1]
 refine qX ?_
 refine qB (fun g1 => ?_) fun g1 => ?_
 ·skip
  refine qB (fun g2 => ?_) fun g2 => ?_
  ·skip
   have hr : piecesOk p = false := by simp [piecesOk, g2]; try omega
   rw [hr]
   exact qF (qA [0])
  ·skip
   refine qK (impl_NextOf p) (qA [0]) ?_
   refine den_lp 1 hE (fun s (x : Nat × Int) => s.at [0, 2, 5, 6, 7, 8, 9, 10, 11, 12, 13, 14, 15, 16, 17, 18, 19, 23, 24, 25, 26, 27, 28, 29, 30, 31, 32, 33, 34, 35, 36, 37, 38, 39, 40, 41, 42, 43, 44, 45, 46] [(22, .sc (.int .i64 (x.1 : Nat))), (3, .sc (.int .i64 x.2))] (s.hp)) (fun (x : Nat × Int) => x.1 ≤ p.list.length ∧ pcGo x.2 (p.list.drop x.1) = pcGo (nextOf p) p.list) (fun (x : Nat × Int) => p.list.length - x.1) (0, nextOf p) (qA [0, 1, 2]) (qC) (⟨Nat.zero_le _, rfl⟩) (weak_mk (by rfl) (by rfl) ?_) fun x hx N hN => ?_
   ·exact qY
   ·obtain ⟨k, en⟩ := x
    obtain ⟨hk1, hk2⟩ := hx
    dsimp only at hk1 hk2
    refine qR ?_
    refine qB (fun h => ?_) fun h => ?_
    ·refine qX ?_
     have fx : pcGo en (p.list.drop k) = (!(p.list[k].text == []) && decide (p.list[k].pos ≤ 2000000000) && decide (en < p.list[k].pos) && pcGo (IntKind.i64.wrap (p.list[k].pos + (p.list[k].text.length : Int))) (p.list.drop (k + 1))) := pcGo_step h
     have ft : (p.list[k].text == []) = decide ((p.list[k].text.length : Int) = 0) := by
      cases p.list[k].text with
      | nil => rfl
      | cons a r => simp; omega
     by_cases t1 : (p.list[k].text.length : Int) = 0
     ·have ft' : (p.list[k].text == []) = true := by rw [ft]; exact decide_eq_true t1
      have fx' : pcGo en (p.list.drop k) = false := by rw [fx, ft']; simp
      try simp (disch := omega) only [go_sem, Nat.reduceEqDiff, Nat.reduceAdd, Nat.reduceSub, Int.reduceAdd, Int.reduceSub, Int.reduceToNat, ft']
      have hr : piecesOk p = false := by simp [piecesOk, ← hk2, fx']
      rw [hr]
      exact qF (qA [0])
     ·have ft' : (p.list[k].text == []) = false := by rw [ft]; exact decide_eq_false t1
      by_cases t2 : p.list[k].pos ≤ 2000000000
      ·by_cases t3 : en < p.list[k].pos
       ·have fx' : pcGo en (p.list.drop k) = pcGo (IntKind.i64.wrap (p.list[k].pos + (p.list[k].text.length : Int))) (p.list.drop (k + 1)) := by rw [fx, ft']; simp [t2, t3]
        try simp (disch := omega) only [go_sem, Nat.reduceEqDiff, Nat.reduceAdd, Nat.reduceSub, Int.reduceAdd, Int.reduceSub, Int.reduceToNat, ft']
        rw [fx'] at hk2
        refine qX ?_
        exact qN hN (k + 1, IntKind.i64.wrap (p.list[k].pos + (p.list[k].text.length : Int))) (qA [0, 1, 2]) (by (try dsimp only); exact ⟨by omega, hk2⟩)
       ·have fx' : pcGo en (p.list.drop k) = false := by rw [fx, ft']; simp [t3]
        try simp (disch := omega) only [go_sem, Nat.reduceEqDiff, Nat.reduceAdd, Nat.reduceSub, Int.reduceAdd, Int.reduceSub, Int.reduceToNat, ft']
        have hr : piecesOk p = false := by simp [piecesOk, ← hk2, fx']
        rw [hr]
        exact qF (qA [0])
      ·have fx' : pcGo en (p.list.drop k) = false := by rw [fx, ft']; simp [t2]
       by_cases t3 : en < p.list[k].pos
       ·try simp (disch := omega) only [go_sem, Nat.reduceEqDiff, Nat.reduceAdd, Nat.reduceSub, Int.reduceAdd, Int.reduceSub, Int.reduceToNat, ft']
        have hr : piecesOk p = false := by simp [piecesOk, ← hk2, fx']
        rw [hr]
        exact qF (qA [0])
       ·try simp (disch := omega) only [go_sem, Nat.reduceEqDiff, Nat.reduceAdd, Nat.reduceSub, Int.reduceAdd, Int.reduceSub, Int.reduceToNat, ft']
        have hr : piecesOk p = false := by simp [piecesOk, ← hk2, fx']
        rw [hr]
        exact qF (qA [0])
    ·rw [List.drop_eq_nil_of_le (by omega), pcGo] at hk2
     have g2' : (p.list.length : Int) ≤ 20 := by omega
     have hr : piecesOk p = decide (heldOf p ≤ 200) := by simp [piecesOk, ← hk2, g1, g2']
     rw [hr]
     refine qX ?_
     refine qK (impl_HeldOf p hl) (qA [0]) ?_
     exact qF (qA [0])
 ·skip
  have hr : piecesOk p = false := by simp [piecesOk, g1]; try omega
  rw [hr]
  exact qF (qA [0])
theorem spec_PiecesOk (p : PiecesD) (hl : p.list.length ≤ 1048576) : CallA Tryz.prog 199 [.ag (p.cs 0)] (p.hp false) (.sc (.bo (piecesOk p))) (p.hp false) := by
 refine qE Tryz.func199 Tryz.ntmps199 Tryz.results199 fun E hE => ?_
 refine qK (spec_l01In _ _ _) [] ?_
 rw [isN_inR]
 refine qB (fun g1 => ?_) fun g1 => ?_
 ·skip
  refine qB (fun g2 => ?_) fun g2 => ?_
  ·skip
   refine qK (spec_HeldOf p hl) (qA [0]) ?_
   refine qB (fun g3 => ?_) fun g3 => ?_
   ·skip
    have hr : piecesOk p = false := by simp [piecesOk, g3]; try omega
    rw [hr]
    exact qF (qA [0])
   ·skip
    refine qK (spec_NextOf p) (qA [0]) ?_
    refine den_lp 1 hE (fun s (x : Nat × Int) => s.at [0, 2, 5, 6, 7, 8, 9, 10, 11, 12, 13, 14, 15, 16, 17, 18, 19, 20, 21, 22, 23, 24, 25, 26, 27, 28, 29, 30, 31, 32, 33, 34, 35, 36, 37, 38, 39, 40, 41, 42, 43, 44, 45, 46, 47, 48, 49, 50, 51, 52, 53, 54, 55] [(4, .sc (.int .i64 (x.1 : Nat))), (3, .sc (.int .i64 x.2))] (s.hp)) (fun (x : Nat × Int) => x.1 ≤ p.list.length ∧ pcGo x.2 (p.list.drop x.1) = pcGo (nextOf p) p.list) (fun (x : Nat × Int) => p.list.length - x.1) (0, nextOf p) (qA [0, 1]) (qC) (⟨Nat.zero_le _, rfl⟩) (weak_mk (by rfl) (by rfl) ?_) fun x hx N hN => ?_
    ·exact qY
    ·obtain ⟨k, en⟩ := x
     obtain ⟨hk1, hk2⟩ := hx
     dsimp only at hk1 hk2
     refine qR ?_
     refine qB (fun h => ?_) fun h => ?_
     ·refine qX ?_
      have fx : pcGo en (p.list.drop k) = (!(p.list[k].text == []) && decide (p.list[k].pos ≤ 2000000000) && decide (en < p.list[k].pos) && pcGo (IntKind.i64.wrap (p.list[k].pos + (p.list[k].text.length : Int))) (p.list.drop (k + 1))) := pcGo_step h
      have ft : (p.list[k].text == []) = decide ((p.list[k].text.length : Int) = 0) := by
       cases p.list[k].text with
       | nil => rfl
       | cons a r => simp; omega
      by_cases t1 : (p.list[k].text.length : Int) = 0
      ·have ft' : (p.list[k].text == []) = true := by rw [ft]; exact decide_eq_true t1
       have fx' : pcGo en (p.list.drop k) = false := by rw [fx, ft']; simp
       try simp (disch := omega) only [go_sem, Nat.reduceEqDiff, Nat.reduceAdd, Nat.reduceSub, Int.reduceAdd, Int.reduceSub, Int.reduceToNat, ft']
       have hr : piecesOk p = false := by simp [piecesOk, ← hk2, fx']
       rw [hr]
       exact qF (qA [0])
      ·have ft' : (p.list[k].text == []) = false := by rw [ft]; exact decide_eq_false t1
       by_cases t2 : p.list[k].pos ≤ 2000000000
       ·by_cases t3 : en < p.list[k].pos
        ·have fx' : pcGo en (p.list.drop k) = pcGo (IntKind.i64.wrap (p.list[k].pos + (p.list[k].text.length : Int))) (p.list.drop (k + 1)) := by rw [fx, ft']; simp [t2, t3]
         try simp (disch := omega) only [go_sem, Nat.reduceEqDiff, Nat.reduceAdd, Nat.reduceSub, Int.reduceAdd, Int.reduceSub, Int.reduceToNat, ft']
         rw [fx'] at hk2
         refine qX ?_
         exact qN hN (k + 1, IntKind.i64.wrap (p.list[k].pos + (p.list[k].text.length : Int))) (qA [0, 1]) (by (try dsimp only); exact ⟨by omega, hk2⟩)
        ·have fx' : pcGo en (p.list.drop k) = false := by rw [fx, ft']; simp [t3]
         try simp (disch := omega) only [go_sem, Nat.reduceEqDiff, Nat.reduceAdd, Nat.reduceSub, Int.reduceAdd, Int.reduceSub, Int.reduceToNat, ft']
         have hr : piecesOk p = false := by simp [piecesOk, ← hk2, fx']
         rw [hr]
         exact qF (qA [0])
       ·have fx' : pcGo en (p.list.drop k) = false := by rw [fx, ft']; simp [t2]
        by_cases t3 : en < p.list[k].pos
        ·try simp (disch := omega) only [go_sem, Nat.reduceEqDiff, Nat.reduceAdd, Nat.reduceSub, Int.reduceAdd, Int.reduceSub, Int.reduceToNat, ft']
         have hr : piecesOk p = false := by simp [piecesOk, ← hk2, fx']
         rw [hr]
         exact qF (qA [0])
        ·try simp (disch := omega) only [go_sem, Nat.reduceEqDiff, Nat.reduceAdd, Nat.reduceSub, Int.reduceAdd, Int.reduceSub, Int.reduceToNat, ft']
         have hr : piecesOk p = false := by simp [piecesOk, ← hk2, fx']
         rw [hr]
         exact qF (qA [0])
     ·rw [List.drop_eq_nil_of_le (by omega), pcGo] at hk2
      have g2' : (p.list.length : Int) ≤ 20 := by omega
      have g3' : heldOf p ≤ 200 := by omega
      have hr : piecesOk p = true := by simp [piecesOk, ← hk2, g1, g2', g3']
      rw [hr]
      exact qF (qA [0])
  ·skip
   have hr : piecesOk p = false := by simp [piecesOk, g2]; try omega
   rw [hr]
   exact qF (qA [0])
 ·skip
  have hr : piecesOk p = false := by simp [piecesOk, g1]; try omega
  rw [hr]
  exact qF (qA [0])
theorem impl_rising (l : List Int) (hl : l.length ≤ 1048576) : CallA Tryz.prog 317 [.sc (.sl 0 0 l.length)] [some ⟨l.map intC, 1, 3, false, true⟩] (.sc (.bo (upto (riseAt l) l.length))) [some ⟨l.map intC, 1, 3, false, true⟩] := by
 refine qE Tryz.func317 Tryz.ntmps317 Tryz.results317 fun E hE => ?_
 refine den_lp 1 hE (fun s (k : Nat) => s.at [2, 4, 5, 6, 7, 8, 9, 10, 11, 12, 13, 14, 15, 16, 17, 18, 19] [(3, .sc (.int .i64 (k : Nat)))] (s.hp)) (fun (k : Nat) => 1 ≤ k ∧ (k ≤ l.length ∨ k = 1) ∧ ∀ j, j < k → riseAt l j = true) (fun (k : Nat) => l.length - k) 1 (qA [0]) (qC) (⟨by decide, .inr rfl, fun j hj => by rw [show j = 0 from by omega]; rfl⟩) (weak_mk (by rfl) (by rfl) ?_) fun k hk N hN => ?_
 ·exact qY
 ·obtain ⟨hk0, hk1, hk2⟩ := hk
  refine qR ?_
  obtain ⟨m, rfl⟩ : ∃ m, k = m + 1 := ⟨k - 1, by omega⟩
  have em2 : ((m + 1 : Nat) : Int) - 1 = (m : Int) := by omega
  have em3 : (m : Int) + 1 - 1 = (m : Int) := by omega
  refine qX ?_
  refine qB (fun h => ?_) fun h => ?_
  ·have hm : m < l.length := by omega
   have h' : m + 1 < l.length := by omega
   refine qD [0, 1, 2, 3, 4, 5, 6, 7, 8, 9] ?_
   try simp (disch := omega) only [go_sem, Nat.reduceEqDiff, Nat.reduceAdd, Nat.reduceSub, Int.reduceAdd, Int.reduceSub, Int.reduceToNat, em2, em3, map_get hm, map_get h']
   refine ⟨by (try simp (disch := omega) only [go_sem, List.length_set, Nat.reduceEqDiff, Nat.reduceAdd, Nat.reduceSub, Int.reduceAdd, Int.reduceSub, Int.reduceToNat, em2, em3]) <;> omega, run_den 400 ?_⟩
   refine qX ?_
   refine qB (fun h3 => ?_) fun h3 => ?_
   ·have hb : riseAt l (m + 1) = false := by
     rw [riseAt, getI h', show m + 1 - 1 = m from rfl, getI hm]
     simp
     omega
    rw [upto_false h' hb]
    exact qF (qA [0])
   ·have hg : riseAt l (m + 1) = true := by
     rw [riseAt, getI h', show m + 1 - 1 = m from rfl, getI hm]
     simp
     omega
    exact qN hN (m + 1 + 1) (qA [0]) (by (try dsimp only); exact ⟨by omega, by omega, upto_snoc hk2 hg⟩)
  ·rw [upto_true (fun j hj => hk2 j (by omega))]
   exact qF (qA [0])
theorem impl_goneOk (l : List Int) (m : List AddrD) (hl : l.length ≤ 1048576) (hm : m.length ≤ 1048576) : CallA Tryz.prog 239 [.sc (.sl 0 0 l.length), .sc (.sl 1 0 m.length)] [some ⟨l.map intC, 1, 3, false, true⟩, some ⟨m.map AddrD.cs, 4, 95, false, true⟩] (.sc (.bo (idsOk l m))) [some ⟨l.map intC, 1, 3, false, true⟩, some ⟨m.map AddrD.cs, 4, 95, false, true⟩] := by
 refine callA_of Tryz.func239 (by kernel_rfl) rfl fun E hE => run_den 400 ?_
 simp (disch := omega) only [Tryz.ntmps239, Tryz.results239, go_sem, Nat.reduceEqDiff, Nat.reduceAdd, Nat.reduceSub, Int.reduceAdd, Int.reduceSub, Int.reduceToNat]
 refine den_call (by (try simp (disch := omega) only [go_sem, List.length_set, Nat.reduceEqDiff, Nat.reduceAdd, Nat.reduceSub, Int.reduceAdd, Int.reduceSub, Int.reduceToNat]) <;> omega) (impl_rising l hl) [some (0, none)] (by simp only [go_sem]; repeat' first | rfl | constructor | (rw [List.map_set]; rfl) | (simp [List.map_take, List.map_drop] <;> omega)) (by rfl) (run_den 400 ?_)
 simp (disch := omega) only [go_sem, Nat.reduceEqDiff, Nat.reduceAdd, Nat.reduceSub, Int.reduceAdd, Int.reduceSub, Int.reduceToNat]
 rw [idsOk]
 generalize upto (riseAt l) l.length = q
 cases q with
 | false =>
  try simp (disch := omega) only [go_sem, Nat.reduceEqDiff, Nat.reduceAdd, Nat.reduceSub, Int.reduceAdd, Int.reduceSub, Int.reduceToNat]
  refine den_fin [some (0, none), some (1, none)] (by (try simp (disch := omega) only [go_sem, List.length_set, Nat.reduceEqDiff, Nat.reduceAdd, Nat.reduceSub, Int.reduceAdd, Int.reduceSub, Int.reduceToNat]) <;> omega) _ (by simp only [go_sem]; rfl) (by rfl) (by rfl) ?_
  simp (disch := omega) only [go_sem, Nat.reduceEqDiff, Nat.reduceAdd, Nat.reduceSub, Int.reduceAdd, Int.reduceSub, Int.reduceToNat]
 | true =>
  rw [Bool.true_and]
  try simp (disch := omega) only [go_sem, Nat.reduceEqDiff, Nat.reduceAdd, Nat.reduceSub, Int.reduceAdd, Int.reduceSub, Int.reduceToNat]
  refine den_lp 2 hE (fun s (k : Nat) => s.at [0, 4, 6, 7, 8, 9, 13, 14, 15, 16, 17, 18, 19, 20, 21, 22, 23, 24, 25] [(12, .sc (.int .i64 (k : Nat)))] (s.hp)) (fun (k : Nat) => k ≤ l.length ∧ ∀ j, j < k → idAt l m j = true) (fun (k : Nat) => l.length - k) 0 [some (0, none), some (1, none)] (by (try simp (disch := omega) only [go_sem, List.length_set, Nat.reduceEqDiff, Nat.reduceAdd, Nat.reduceSub, Int.reduceAdd, Int.reduceSub, Int.reduceToNat]) <;> omega) (⟨Nat.zero_le _, fun j hj => absurd hj (Nat.not_lt_zero _)⟩) (weak_mk (by rfl) (by rfl) ?_) fun k hk N hN => ?_
  ·try simp (disch := omega) only [go_sem, Nat.reduceEqDiff, Nat.reduceAdd, Nat.reduceSub, Int.reduceAdd, Int.reduceSub, Int.reduceToNat]
  ·obtain ⟨hk1, hk2⟩ := hk
   refine run_den 400 ?_
   try simp (disch := omega) only [go_sem, Nat.reduceEqDiff, Nat.reduceAdd, Nat.reduceSub, Int.reduceAdd, Int.reduceSub, Int.reduceToNat]
   split <;> rename_i h <;> (try simp only [beq_true, beq_false, Bool.not_eq_true', Bool.not_eq_false'] at h) <;> simp (disch := omega) only [go_sem, Nat.reduceEqDiff, Nat.reduceAdd, Nat.reduceSub, Int.reduceAdd, Int.reduceSub, Int.reduceToNat, h] <;> (try simp only [decide_eq_true_eq, decide_eq_false_iff_not, beq_iff_eq, beq_eq_false_iff_ne, bne_iff_ne, bne_eq_false_iff_eq, ne_eq, Decidable.not_not, Bool.and_eq_true, Bool.and_eq_false_iff, Bool.or_eq_true, Bool.or_eq_false_iff, Int.ofNat_lt, Int.ofNat_le, Bool.not_eq_eq_eq_not, Bool.not_true, Bool.not_false] at h) <;> try simp (disch := omega) only [go_sem, Nat.reduceEqDiff, Nat.reduceAdd, Nat.reduceSub, Int.reduceAdd, Int.reduceSub, Int.reduceToNat]
   ·try simp (disch := omega) only [go_sem, Nat.reduceEqDiff, Nat.reduceAdd, Nat.reduceSub, Int.reduceAdd, Int.reduceSub, Int.reduceToNat]
    refine den_call (by (try simp (disch := omega) only [go_sem, List.length_set, Nat.reduceEqDiff, Nat.reduceAdd, Nat.reduceSub, Int.reduceAdd, Int.reduceSub, Int.reduceToNat]) <;> omega) (impl_within _ _ _) [] (by simp only [go_sem]; repeat' first | rfl | constructor | (rw [List.map_set]; rfl) | (simp [List.map_take, List.map_drop] <;> omega)) (by rfl) (run_den 400 ?_)
    simp (disch := omega) only [go_sem, Nat.reduceEqDiff, Nat.reduceAdd, Nat.reduceSub, Int.reduceAdd, Int.reduceSub, Int.reduceToNat]
    split <;> rename_i h2 <;> (try simp only [beq_true, beq_false, Bool.not_eq_true', Bool.not_eq_false'] at h2) <;> simp (disch := omega) only [go_sem, Nat.reduceEqDiff, Nat.reduceAdd, Nat.reduceSub, Int.reduceAdd, Int.reduceSub, Int.reduceToNat, h2] <;> (try simp only [decide_eq_true_eq, decide_eq_false_iff_not, beq_iff_eq, beq_eq_false_iff_ne, bne_iff_ne, bne_eq_false_iff_eq, ne_eq, Decidable.not_not, Bool.and_eq_true, Bool.and_eq_false_iff, Bool.or_eq_true, Bool.or_eq_false_iff, Int.ofNat_lt, Int.ofNat_le, Bool.not_eq_eq_eq_not, Bool.not_true, Bool.not_false] at h2) <;> try simp (disch := omega) only [go_sem, Nat.reduceEqDiff, Nat.reduceAdd, Nat.reduceSub, Int.reduceAdd, Int.reduceSub, Int.reduceToNat]
    ·refine den_call (by (try simp (disch := omega) only [go_sem, List.length_set, Nat.reduceEqDiff, Nat.reduceAdd, Nat.reduceSub, Int.reduceAdd, Int.reduceSub, Int.reduceToNat]) <;> omega) (impl_AddrAt m l[k] hm) [some (1, none)] (by simp only [go_sem]; repeat' first | rfl | constructor | (rw [List.map_set]; rfl) | (simp [List.map_take, List.map_drop] <;> omega)) (by rfl) (run_den 400 ?_)
     simp (disch := omega) only [go_sem, Nat.reduceEqDiff, Nat.reduceAdd, Nat.reduceSub, Int.reduceAdd, Int.reduceSub, Int.reduceToNat]
     split <;> rename_i h3 <;> (try simp only [beq_true, beq_false, Bool.not_eq_true', Bool.not_eq_false'] at h3) <;> simp (disch := omega) only [go_sem, Nat.reduceEqDiff, Nat.reduceAdd, Nat.reduceSub, Int.reduceAdd, Int.reduceSub, Int.reduceToNat, h3] <;> (try simp only [decide_eq_true_eq, decide_eq_false_iff_not, beq_iff_eq, beq_eq_false_iff_ne, bne_iff_ne, bne_eq_false_iff_eq, ne_eq, Decidable.not_not, Bool.and_eq_true, Bool.and_eq_false_iff, Bool.or_eq_true, Bool.or_eq_false_iff, Int.ofNat_lt, Int.ofNat_le, Bool.not_eq_eq_eq_not, Bool.not_true, Bool.not_false] at h3) <;> try simp (disch := omega) only [go_sem, Nat.reduceEqDiff, Nat.reduceAdd, Nat.reduceSub, Int.reduceAdd, Int.reduceSub, Int.reduceToNat]
     ·have hb : idAt l m k = false := by rw [idAt, getI h]; simp [h2]; omega
      rw [upto_false h hb]
      refine den_fin [some (0, none), some (1, none)] (by (try simp (disch := omega) only [go_sem, List.length_set, Nat.reduceEqDiff, Nat.reduceAdd, Nat.reduceSub, Int.reduceAdd, Int.reduceSub, Int.reduceToNat]) <;> omega) _ (by simp only [go_sem]; rfl) (by rfl) (by rfl) ?_
      simp (disch := omega) only [go_sem, Nat.reduceEqDiff, Nat.reduceAdd, Nat.reduceSub, Int.reduceAdd, Int.reduceSub, Int.reduceToNat]
     ·have hg : idAt l m k = true := by rw [idAt, getI h]; simp [h2]; omega
      refine ⟨by (try simp (disch := omega) only [go_sem, List.length_set, Nat.reduceEqDiff, Nat.reduceAdd, Nat.reduceSub, Int.reduceAdd, Int.reduceSub, Int.reduceToNat]) <;> omega, hN _ (k + 1) [some (0, none), some (1, none)] (by (try dsimp only); exact ⟨by omega, upto_snoc hk2 hg⟩) (by (try dsimp only); omega) (weak_mk (by rfl) (by rfl) ?_)⟩
      try simp (disch := omega) only [go_sem, Nat.reduceEqDiff, Nat.reduceAdd, Nat.reduceSub, Int.reduceAdd, Int.reduceSub, Int.reduceToNat]
    ·have hb : idAt l m k = false := by rw [idAt, getI h]; simp [h2]
     rw [upto_false h hb]
     refine den_fin [some (0, none), some (1, none)] (by (try simp (disch := omega) only [go_sem, List.length_set, Nat.reduceEqDiff, Nat.reduceAdd, Nat.reduceSub, Int.reduceAdd, Int.reduceSub, Int.reduceToNat]) <;> omega) _ (by simp only [go_sem]; rfl) (by rfl) (by rfl) ?_
     simp (disch := omega) only [go_sem, Nat.reduceEqDiff, Nat.reduceAdd, Nat.reduceSub, Int.reduceAdd, Int.reduceSub, Int.reduceToNat]
   ·have e : k = l.length := by omega
    subst e
    rw [upto_true hk2]
    refine den_fin [some (0, none), some (1, none)] (by (try simp (disch := omega) only [go_sem, List.length_set, Nat.reduceEqDiff, Nat.reduceAdd, Nat.reduceSub, Int.reduceAdd, Int.reduceSub, Int.reduceToNat]) <;> omega) _ (by simp only [go_sem]; rfl) (by rfl) (by rfl) ?_
    simp (disch := omega) only [go_sem, Nat.reduceEqDiff, Nat.reduceAdd, Nat.reduceSub, Int.reduceAdd, Int.reduceSub, Int.reduceToNat]
theorem spec_l17Ids (l : List Int) (m : List AddrD) (hl : l.length ≤ 1048576) (hm : m.length ≤ 1048576) : CallA Tryz.prog 202 [.sc (.sl 0 0 l.length), .sc (.sl 1 0 m.length)] [some ⟨l.map intC, 1, 3, false, true⟩, some ⟨m.map AddrD.cs, 4, 95, false, true⟩] (.sc (.bo (idsOk l m))) [some ⟨l.map intC, 1, 3, false, true⟩, some ⟨m.map AddrD.cs, 4, 95, false, true⟩] := by
 rw [idsOk, ← upto_and]
 refine callA_of Tryz.func202 (by kernel_rfl) rfl fun E hE => run_den 400 ?_
 simp (disch := omega) only [Tryz.ntmps202, Tryz.results202, go_sem, Nat.reduceEqDiff, Nat.reduceAdd, Nat.reduceSub, Int.reduceAdd, Int.reduceSub, Int.reduceToNat]
 refine den_lp 2 hE (fun s (k : Nat) => s.at [4, 6, 7, 8, 9, 10, 11, 12, 13, 14, 15, 16, 17, 18, 19, 20, 21, 22, 23, 24, 25, 26, 27, 28, 29, 30, 31, 32, 33, 34, 35, 36, 37, 38, 39, 40, 41, 42] [(5, .sc (.int .i64 (k : Nat)))] (s.hp)) (fun (k : Nat) => k ≤ l.length ∧ ∀ j, j < k → (fun j => riseAt l j && idAt l m j) j = true) (fun (k : Nat) => l.length - k) 0 [some (0, none), some (1, none)] (by (try simp (disch := omega) only [go_sem, List.length_set, Nat.reduceEqDiff, Nat.reduceAdd, Nat.reduceSub, Int.reduceAdd, Int.reduceSub, Int.reduceToNat]) <;> omega) (⟨Nat.zero_le _, fun j hj => absurd hj (Nat.not_lt_zero _)⟩) (weak_mk (by rfl) (by rfl) ?_) fun k hk N hN => ?_
 ·try simp (disch := omega) only [go_sem, Nat.reduceEqDiff, Nat.reduceAdd, Nat.reduceSub, Int.reduceAdd, Int.reduceSub, Int.reduceToNat]
 ·obtain ⟨hk1, hk2⟩ := hk
  refine run_den 400 ?_
  try simp (disch := omega) only [go_sem, Nat.reduceEqDiff, Nat.reduceAdd, Nat.reduceSub, Int.reduceAdd, Int.reduceSub, Int.reduceToNat]
  split <;> rename_i h <;> (try simp only [beq_true, beq_false, Bool.not_eq_true', Bool.not_eq_false'] at h) <;> simp (disch := omega) only [go_sem, Nat.reduceEqDiff, Nat.reduceAdd, Nat.reduceSub, Int.reduceAdd, Int.reduceSub, Int.reduceToNat, h] <;> (try simp only [decide_eq_true_eq, decide_eq_false_iff_not, beq_iff_eq, beq_eq_false_iff_ne, bne_iff_ne, bne_eq_false_iff_eq, ne_eq, Decidable.not_not, Bool.and_eq_true, Bool.and_eq_false_iff, Bool.or_eq_true, Bool.or_eq_false_iff, Int.ofNat_lt, Int.ofNat_le, Bool.not_eq_eq_eq_not, Bool.not_true, Bool.not_false] at h) <;> try simp (disch := omega) only [go_sem, Nat.reduceEqDiff, Nat.reduceAdd, Nat.reduceSub, Int.reduceAdd, Int.reduceSub, Int.reduceToNat]
  ·refine den_draw1 [0, 1, 2, 3, 4, 5, 6, 7, 8, 9, 10, 11, 12, 13, 14, 15, 16, 17, 18, 19, 20, 21, 22, 23, 24, 25, 26, 27, 28, 29, 30] (by kernel_rfl) (by (try simp (disch := omega) only [go_sem, List.length_set, Nat.reduceEqDiff, Nat.reduceAdd, Nat.reduceSub, Int.reduceAdd, Int.reduceSub, Int.reduceToNat]) <;> omega) (by kernel_rfl) (runD_den 400 ?_)
   simp (disch := omega) only [go_sem, Nat.reduceEqDiff, Nat.reduceAdd, Nat.reduceSub, Int.reduceAdd, Int.reduceSub, Int.reduceToNat]
   refine den_callD (by (try simp (disch := omega) only [go_sem, List.length_set, Nat.reduceEqDiff, Nat.reduceAdd, Nat.reduceSub, Int.reduceAdd, Int.reduceSub, Int.reduceToNat]) <;> omega) (spec_l01In _ _ _) [] (by simp only [go_sem]; repeat' first | rfl | constructor | (rw [List.map_set]; rfl) | (simp [List.map_take, List.map_drop] <;> omega)) (by rfl) (by rfl) (runD_den 400 ?_)
   simp (disch := omega) only [go_sem, Nat.reduceEqDiff, Nat.reduceAdd, Nat.reduceSub, Int.reduceAdd, Int.reduceSub, Int.reduceToNat]
   split <;> rename_i h2 <;> (try simp only [beq_true, beq_false, Bool.not_eq_true', Bool.not_eq_false'] at h2) <;> simp (disch := omega) only [go_sem, Nat.reduceEqDiff, Nat.reduceAdd, Nat.reduceSub, Int.reduceAdd, Int.reduceSub, Int.reduceToNat, h2] <;> (try simp only [decide_eq_true_eq, decide_eq_false_iff_not, beq_iff_eq, beq_eq_false_iff_ne, bne_iff_ne, bne_eq_false_iff_eq, ne_eq, Decidable.not_not, Bool.and_eq_true, Bool.and_eq_false_iff, Bool.or_eq_true, Bool.or_eq_false_iff, Int.ofNat_lt, Int.ofNat_le, Bool.not_eq_eq_eq_not, Bool.not_true, Bool.not_false] at h2) <;> try simp (disch := omega) only [go_sem, Nat.reduceEqDiff, Nat.reduceAdd, Nat.reduceSub, Int.reduceAdd, Int.reduceSub, Int.reduceToNat]
   ·by_cases h0 : k = 0
    ·subst h0
     try simp (disch := omega) only [go_sem, Nat.reduceEqDiff, Nat.reduceAdd, Nat.reduceSub, Int.reduceAdd, Int.reduceSub, Int.reduceToNat]
     refine den_callD (by (try simp (disch := omega) only [go_sem, List.length_set, Nat.reduceEqDiff, Nat.reduceAdd, Nat.reduceSub, Int.reduceAdd, Int.reduceSub, Int.reduceToNat]) <;> omega) (spec_AddrAt m l[0] hm) [some (1, none)] (by simp only [go_sem]; repeat' first | rfl | constructor | (rw [List.map_set]; rfl) | (simp [List.map_take, List.map_drop] <;> omega)) (by rfl) (by rfl) (runD_den 400 ?_)
     simp (disch := omega) only [go_sem, Nat.reduceEqDiff, Nat.reduceAdd, Nat.reduceSub, Int.reduceAdd, Int.reduceSub, Int.reduceToNat]
     refine ⟨by (try simp (disch := omega) only [go_sem, List.length_set, Nat.reduceEqDiff, Nat.reduceAdd, Nat.reduceSub, Int.reduceAdd, Int.reduceSub, Int.reduceToNat]) <;> omega, run_den 400 ?_⟩
     try simp (disch := omega) only [go_sem, Nat.reduceEqDiff, Nat.reduceAdd, Nat.reduceSub, Int.reduceAdd, Int.reduceSub, Int.reduceToNat]
     split <;> rename_i h3 <;> (try simp only [beq_true, beq_false, Bool.not_eq_true', Bool.not_eq_false'] at h3) <;> simp (disch := omega) only [go_sem, Nat.reduceEqDiff, Nat.reduceAdd, Nat.reduceSub, Int.reduceAdd, Int.reduceSub, Int.reduceToNat, h3] <;> (try simp only [decide_eq_true_eq, decide_eq_false_iff_not, beq_iff_eq, beq_eq_false_iff_ne, bne_iff_ne, bne_eq_false_iff_eq, ne_eq, Decidable.not_not, Bool.and_eq_true, Bool.and_eq_false_iff, Bool.or_eq_true, Bool.or_eq_false_iff, Int.ofNat_lt, Int.ofNat_le, Bool.not_eq_eq_eq_not, Bool.not_true, Bool.not_false] at h3) <;> try simp (disch := omega) only [go_sem, Nat.reduceEqDiff, Nat.reduceAdd, Nat.reduceSub, Int.reduceAdd, Int.reduceSub, Int.reduceToNat]
     ·have hb : (fun j => riseAt l j && idAt l m j) 0 = false := by
       show (riseAt l 0 && idAt l m 0) = false
       rw [idAt, getI h]; simp [h2]; intro _; omega
      rw [upto_false h hb]
      refine den_fin [some (0, none), some (1, none)] (by (try simp (disch := omega) only [go_sem, List.length_set, Nat.reduceEqDiff, Nat.reduceAdd, Nat.reduceSub, Int.reduceAdd, Int.reduceSub, Int.reduceToNat]) <;> omega) _ (by simp only [go_sem]; rfl) (by rfl) (by rfl) ?_
      simp (disch := omega) only [go_sem, Nat.reduceEqDiff, Nat.reduceAdd, Nat.reduceSub, Int.reduceAdd, Int.reduceSub, Int.reduceToNat]
     ·have hg : (fun j => riseAt l j && idAt l m j) 0 = true := by
       show (riseAt l 0 && idAt l m 0) = true
       rw [idAt, getI h, riseAt]; simp [h2]; omega
      refine ⟨by (try simp (disch := omega) only [go_sem, List.length_set, Nat.reduceEqDiff, Nat.reduceAdd, Nat.reduceSub, Int.reduceAdd, Int.reduceSub, Int.reduceToNat]) <;> omega, hN _ (0 + 1) [some (0, none), some (1, none)] (by (try dsimp only); exact ⟨by omega, upto_snoc hk2 hg⟩) (by (try dsimp only); omega) (weak_mk (by rfl) (by rfl) ?_)⟩
      try simp (disch := omega) only [go_sem, Nat.reduceEqDiff, Nat.reduceAdd, Nat.reduceSub, Int.reduceAdd, Int.reduceSub, Int.reduceToNat]
    ·obtain ⟨n, rfl⟩ : ∃ n, k = n + 1 := ⟨k - 1, by omega⟩
     have em2 : ((n + 1 : Nat) : Int) - 1 = (n : Int) := by omega
     have em3 : (n : Int) + 1 - 1 = (n : Int) := by omega
     have hn : n < l.length := by omega
     have h' : n + 1 < l.length := by omega
     try simp (disch := omega) only [go_sem, Nat.reduceEqDiff, Nat.reduceAdd, Nat.reduceSub, Int.reduceAdd, Int.reduceSub, Int.reduceToNat, em2, em3, map_get hn, map_get h']
     split <;> rename_i h4 <;> (try simp only [beq_true, beq_false, Bool.not_eq_true', Bool.not_eq_false'] at h4) <;> simp (disch := omega) only [go_sem, Nat.reduceEqDiff, Nat.reduceAdd, Nat.reduceSub, Int.reduceAdd, Int.reduceSub, Int.reduceToNat, h4] <;> (try simp only [decide_eq_true_eq, decide_eq_false_iff_not, beq_iff_eq, beq_eq_false_iff_ne, bne_iff_ne, bne_eq_false_iff_eq, ne_eq, Decidable.not_not, Bool.and_eq_true, Bool.and_eq_false_iff, Bool.or_eq_true, Bool.or_eq_false_iff, Int.ofNat_lt, Int.ofNat_le, Bool.not_eq_eq_eq_not, Bool.not_true, Bool.not_false] at h4) <;> try simp (disch := omega) only [go_sem, Nat.reduceEqDiff, Nat.reduceAdd, Nat.reduceSub, Int.reduceAdd, Int.reduceSub, Int.reduceToNat]
     ·refine den_callD (by (try simp (disch := omega) only [go_sem, List.length_set, Nat.reduceEqDiff, Nat.reduceAdd, Nat.reduceSub, Int.reduceAdd, Int.reduceSub, Int.reduceToNat, em2, em3]) <;> omega) (spec_AddrAt m l[n + 1] hm) [some (1, none)] (by simp only [go_sem]; repeat' first | rfl | constructor | (rw [List.map_set]; rfl) | (simp [List.map_take, List.map_drop] <;> omega)) (by rfl) (by rfl) (runD_den 400 ?_)
      simp (disch := omega) only [go_sem, Nat.reduceEqDiff, Nat.reduceAdd, Nat.reduceSub, Int.reduceAdd, Int.reduceSub, Int.reduceToNat]
      refine ⟨by (try simp (disch := omega) only [go_sem, List.length_set, Nat.reduceEqDiff, Nat.reduceAdd, Nat.reduceSub, Int.reduceAdd, Int.reduceSub, Int.reduceToNat, em2, em3]) <;> omega, run_den 400 ?_⟩
      try simp (disch := omega) only [go_sem, Nat.reduceEqDiff, Nat.reduceAdd, Nat.reduceSub, Int.reduceAdd, Int.reduceSub, Int.reduceToNat]
      split <;> rename_i h3 <;> (try simp only [beq_true, beq_false, Bool.not_eq_true', Bool.not_eq_false'] at h3) <;> simp (disch := omega) only [go_sem, Nat.reduceEqDiff, Nat.reduceAdd, Nat.reduceSub, Int.reduceAdd, Int.reduceSub, Int.reduceToNat, h3] <;> (try simp only [decide_eq_true_eq, decide_eq_false_iff_not, beq_iff_eq, beq_eq_false_iff_ne, bne_iff_ne, bne_eq_false_iff_eq, ne_eq, Decidable.not_not, Bool.and_eq_true, Bool.and_eq_false_iff, Bool.or_eq_true, Bool.or_eq_false_iff, Int.ofNat_lt, Int.ofNat_le, Bool.not_eq_eq_eq_not, Bool.not_true, Bool.not_false] at h3) <;> try simp (disch := omega) only [go_sem, Nat.reduceEqDiff, Nat.reduceAdd, Nat.reduceSub, Int.reduceAdd, Int.reduceSub, Int.reduceToNat]
      ·have hb : (fun j => riseAt l j && idAt l m j) (n + 1) = false := by
        show (riseAt l (n + 1) && idAt l m (n + 1)) = false
        rw [idAt, getI h']; simp [h2]; intro _; omega
       rw [upto_false h' hb]
       refine den_fin [some (0, none), some (1, none)] (by (try simp (disch := omega) only [go_sem, List.length_set, Nat.reduceEqDiff, Nat.reduceAdd, Nat.reduceSub, Int.reduceAdd, Int.reduceSub, Int.reduceToNat]) <;> omega) _ (by simp only [go_sem]; rfl) (by rfl) (by rfl) ?_
       simp (disch := omega) only [go_sem, Nat.reduceEqDiff, Nat.reduceAdd, Nat.reduceSub, Int.reduceAdd, Int.reduceSub, Int.reduceToNat]
      ·have hg : (fun j => riseAt l j && idAt l m j) (n + 1) = true := by
        show (riseAt l (n + 1) && idAt l m (n + 1)) = true
        rw [idAt, getI h', riseAt, getI h', show n + 1 - 1 = n from rfl, getI hn]; simp [h2]; constructor <;> omega
       refine ⟨by (try simp (disch := omega) only [go_sem, List.length_set, Nat.reduceEqDiff, Nat.reduceAdd, Nat.reduceSub, Int.reduceAdd, Int.reduceSub, Int.reduceToNat]) <;> omega, hN _ (n + 1 + 1) [some (0, none), some (1, none)] (by (try dsimp only); exact ⟨by omega, upto_snoc hk2 hg⟩) (by (try dsimp only); omega) (weak_mk (by rfl) (by rfl) ?_)⟩
       try simp (disch := omega) only [go_sem, Nat.reduceEqDiff, Nat.reduceAdd, Nat.reduceSub, Int.reduceAdd, Int.reduceSub, Int.reduceToNat]
     ·have hb : (fun j => riseAt l j && idAt l m j) (n + 1) = false := by
       show (riseAt l (n + 1) && idAt l m (n + 1)) = false
       rw [riseAt, getI h', show n + 1 - 1 = n from rfl, getI hn]; simp; omega
      rw [upto_false h' hb]
      refine ⟨by (try simp (disch := omega) only [go_sem, List.length_set, Nat.reduceEqDiff, Nat.reduceAdd, Nat.reduceSub, Int.reduceAdd, Int.reduceSub, Int.reduceToNat, em2, em3]) <;> omega, run_den 400 ?_⟩
      try simp (disch := omega) only [go_sem, Nat.reduceEqDiff, Nat.reduceAdd, Nat.reduceSub, Int.reduceAdd, Int.reduceSub, Int.reduceToNat]
      refine den_fin [some (0, none), some (1, none)] (by (try simp (disch := omega) only [go_sem, List.length_set, Nat.reduceEqDiff, Nat.reduceAdd, Nat.reduceSub, Int.reduceAdd, Int.reduceSub, Int.reduceToNat]) <;> omega) _ (by simp only [go_sem]; rfl) (by rfl) (by rfl) ?_
      simp (disch := omega) only [go_sem, Nat.reduceEqDiff, Nat.reduceAdd, Nat.reduceSub, Int.reduceAdd, Int.reduceSub, Int.reduceToNat]
   ·have hb : (fun j => riseAt l j && idAt l m j) k = false := by
     show (riseAt l k && idAt l m k) = false
     rw [idAt, getI h]; simp [h2]
    rw [upto_false h hb]
    refine ⟨by (try simp (disch := omega) only [go_sem, List.length_set, Nat.reduceEqDiff, Nat.reduceAdd, Nat.reduceSub, Int.reduceAdd, Int.reduceSub, Int.reduceToNat]) <;> omega, run_den 400 ?_⟩
    try simp (disch := omega) only [go_sem, Nat.reduceEqDiff, Nat.reduceAdd, Nat.reduceSub, Int.reduceAdd, Int.reduceSub, Int.reduceToNat]
    refine den_fin [some (0, none), some (1, none)] (by (try simp (disch := omega) only [go_sem, List.length_set, Nat.reduceEqDiff, Nat.reduceAdd, Nat.reduceSub, Int.reduceAdd, Int.reduceSub, Int.reduceToNat]) <;> omega) _ (by simp only [go_sem]; rfl) (by rfl) (by rfl) ?_
    simp (disch := omega) only [go_sem, Nat.reduceEqDiff, Nat.reduceAdd, Nat.reduceSub, Int.reduceAdd, Int.reduceSub, Int.reduceToNat]
  ·have e : k = l.length := by omega
   subst e
   rw [upto_true hk2]
   refine den_fin [some (0, none), some (1, none)] (by (try simp (disch := omega) only [go_sem, List.length_set, Nat.reduceEqDiff, Nat.reduceAdd, Nat.reduceSub, Int.reduceAdd, Int.reduceSub, Int.reduceToNat]) <;> omega) _ (by simp only [go_sem]; rfl) (by rfl) (by rfl) ?_
   simp (disch := omega) only [go_sem, Nat.reduceEqDiff, Nat.reduceAdd, Nat.reduceSub, Int.reduceAdd, Int.reduceSub, Int.reduceToNat]
end
section
open Go.RowKit

theorem impl_EndOk (e : EndD) (h0 : e.own.length ≤ 1048576) (h1 : e.far.length ≤ 1048576) (h2 : e.subs.length ≤ 1048576) (h3 : e.halfs.length ≤ 1048576) (h4 : e.inp.list.length ≤ 1048576) (h5 : e.done.length ≤ 1048576) (h6 : e.over.length ≤ 1048576) : CallA Tryz.prog 120 [.ag (e.cs 0)] (e.hp false) (.sc (.bo (endOk e))) (e.hp false) := by
 refine qE Tryz.func120 Tryz.ntmps120 Tryz.results120 fun E hE => ?_
 refine qK (impl_within _ _ _) [] ?_
 refine qB (fun g1 => ?_) fun g1 => ?_
 ·skip
  refine qK (impl_within _ _ _) [] ?_
  refine qB (fun g2 => ?_) fun g2 => ?_
  ·skip
   refine qK (impl_PolicyOk e.policy) [] ?_
   refine qB (fun g3 => ?_) fun g3 => ?_
   ·skip
    refine qK (impl_AddrsOk e.own h0) (qA [0]) ?_
    refine qB (fun g4 => ?_) fun g4 => ?_
    ·skip
     refine qK (impl_AddrsOk e.far h1) (qA [1]) ?_
     refine qB (fun g5 => ?_) fun g5 => ?_
     ·skip
      refine qK (impl_HalfsOk e.halfs h3) (qA [3]) ?_
      refine qB (fun g6 => ?_) fun g6 => ?_
      ·skip
       refine qK (impl_BucketOk e.bucket) [] ?_
       refine qB (fun g7 => ?_) fun g7 => ?_
       ·skip
        refine qK (impl_OutOk e.out) [] ?_
        refine qB (fun g8 => ?_) fun g8 => ?_
        ·skip
         refine qK (impl_PiecesOk e.inp h4) (qA [4]) ?_
         refine qB (fun g9 => ?_) fun g9 => ?_
         ·skip
          have hr : endOk e = false := by first | (simp [endOk, g9]; done) | (simp [endOk]; intros; omega)
          rw [hr]
          exact qF (qA [0, 1, 2, 3, 4, 5, 6])
         ·skip
          refine qX ?_
          refine qK (impl_goneOk e.done e.own h5 h0) (qA [5, 0]) ?_
          refine qB (fun g10 => ?_) fun g10 => ?_
          ·skip
           refine qK (impl_goneOk e.over e.far h6 h1) (qA [6, 1]) ?_
           refine qB (fun g11 => ?_) fun g11 => ?_
           ·skip
            refine qB (fun g12 => ?_) fun g12 => ?_
            ·skip
             refine qK (impl_isNumber [e.key, e.peer, e.draw, e.now, e.pick] (by simp)) (qA [8]) ?_
             generalize hq : [e.key, e.peer, e.draw, e.now, e.pick].all isN = q
             refine qB (fun g13 => ?_) fun g13 => ?_
             ·skip
              have hr : endOk e = false := by first | (simp [endOk, hq, g13]; done) | (simp [endOk]; intros; omega)
              rw [hr]
              exact qF (qA [0, 1, 2, 3, 4, 5, 6])
             ·skip
              refine qX ?_
              refine den_lp 7 hE (fun s (k : Nat) => s.at [0, 2, 3, 4, 5, 6, 7, 8, 9, 10, 11, 12, 13, 14, 15, 16, 17, 18, 19, 20, 21, 22, 23, 24, 25, 26, 27, 28, 29, 30, 31, 32, 33, 34, 35, 36, 37, 38, 39, 40, 41, 42, 43, 44, 45, 46, 47, 48, 49, 50, 51, 52, 53, 54, 55, 56, 57, 58, 59, 60, 61, 62, 63, 64, 65, 66, 67, 68, 69, 70, 71, 72, 73, 74, 75, 76, 77, 78, 79, 80, 81, 82, 83, 84, 85, 86, 87, 88, 89, 90, 91, 92, 96, 97, 98, 99, 100, 101, 102, 103, 104, 105, 106, 107, 108, 109, 110, 111, 112, 113, 114, 115, 116, 117, 118, 119, 120, 121, 122, 123, 124, 125, 126, 127, 128, 129, 130, 131, 132, 133, 134, 135, 136] [(95, .sc (.int .i64 (k : Nat)))] (s.hp)) (fun (k : Nat) => k ≤ e.subs.length ∧ ∀ j, j < k → suOk e.subs j = true) (fun (k : Nat) => e.subs.length - k) 0 (qA [0, 1, 2, 3, 4, 5, 6, 7, 8]) (qC) (⟨Nat.zero_le _, fun j hj => absurd hj (Nat.not_lt_zero _)⟩) (weak_mk (by rfl) (by rfl) ?_) fun k hk N hN => ?_
              ·exact qY
              ·obtain ⟨hk1, hk2⟩ := hk
               refine qR ?_
               refine qB (fun h => ?_) fun h => ?_
               ·have hA := subAtN_eq h
                refine qX ?_
                refine qK (impl_within _ _ _) [] ?_
                refine qB (fun s1 => ?_) fun s1 => ?_
                ·skip
                 refine qK (impl_roadIsNumber e.subs[k].road) [] ?_
                 refine qB (fun s2 => ?_) fun s2 => ?_
                 ·skip
                  refine qK (impl_isNumber [e.subs[k].mine, e.subs[k].theirs, e.subs[k].give, e.subs[k].take, e.subs[k].tries] (by simp)) (qA [10]) ?_
                  generalize hsq : [e.subs[k].mine, e.subs[k].theirs, e.subs[k].give, e.subs[k].take, e.subs[k].tries].all isN = sq
                  refine qB (fun s3 => ?_) fun s3 => ?_
                  ·skip
                   have hb : suOk e.subs k = false := by simp [suOk, hA, hsq, s3]
                   have hu := upto_false h hb
                   have hr : endOk e = false := by simp [endOk, hu]
                   rw [hr]
                   exact qF (qA [0, 1, 2, 3, 4, 5, 6])
                  ·skip
                   refine qX ?_
                   refine qB (fun s4 => ?_) fun s4 => ?_
                   ·refine qK (impl_SubAt e e.subs[k].road h2) (qA [0, 1, 2, 3, 4, 5, 6]) ?_
                    refine qB (fun s5 => ?_) fun s5 => ?_
                    ·skip
                     have hb : suOk e.subs k = false := by simp [suOk, hA, s1, s2, hsq, s3, s4, s5]
                     have hu := upto_false h hb
                     have hr : endOk e = false := by simp [endOk, hu]
                     rw [hr]
                     exact qF (qA [0, 1, 2, 3, 4, 5, 6])
                    ·skip
                     have hg : suOk e.subs k = true := by first | (simp [suOk, hA, s1, s2, hsq, s3, s4, s5]; done) | (simp [suOk, hA, s1, s2, hsq, s3, s4, s5]; decide)
                     exact qN hN (k + 1) (qA [0, 1, 2, 3, 4, 5, 6, 7, 8]) (by (try dsimp only); exact ⟨by omega, upto_snoc hk2 hg⟩)
                   ·skip
                    have hg : suOk e.subs k = true := by first | (simp [suOk, hA, s1, s2, hsq, s3, s4]; done) | (simp [suOk, hA, s1, s2, hsq, s3, s4]; decide)
                    exact qN hN (k + 1) (qA [0, 1, 2, 3, 4, 5, 6, 7, 8]) (by (try dsimp only); exact ⟨by omega, upto_snoc hk2 hg⟩)
                 ·skip
                  have hb : suOk e.subs k = false := by simp [suOk, hA, s2]
                  have hu := upto_false h hb
                  have hr : endOk e = false := by simp [endOk, hu]
                  rw [hr]
                  exact qF (qA [0, 1, 2, 3, 4, 5, 6])
                ·skip
                 have hb : suOk e.subs k = false := by simp [suOk, hA, s1]
                 have hu := upto_false h hb
                 have hr : endOk e = false := by simp [endOk, hu]
                 rw [hr]
                 exact qF (qA [0, 1, 2, 3, 4, 5, 6])
               ·have ek : k = e.subs.length := by omega
                subst ek
                have hu := upto_true hk2
                have g12' : (e.subs.length : Int) ≤ 8 := by omega
                have hr : endOk e = true := by simp [endOk, g1, g2, g3, g4, g5, g6, g7, g8, g9, g10, g11, g12', hq, g13, hu]
                rw [hr]
                exact qF (qA [0, 1, 2, 3, 4, 5, 6])
            ·skip
             have hr : endOk e = false := by first | (simp [endOk, g12]; done) | (simp [endOk]; intros; omega)
             rw [hr]
             exact qF (qA [0, 1, 2, 3, 4, 5, 6])
           ·skip
            have hr : endOk e = false := by first | (simp [endOk, g11]; done) | (simp [endOk]; intros; omega)
            rw [hr]
            exact qF (qA [0, 1, 2, 3, 4, 5, 6])
          ·skip
           have hr : endOk e = false := by first | (simp [endOk, g10]; done) | (simp [endOk]; intros; omega)
           rw [hr]
           exact qF (qA [0, 1, 2, 3, 4, 5, 6])
        ·skip
         have hr : endOk e = false := by first | (simp [endOk, g8]; done) | (simp [endOk]; intros; omega)
         rw [hr]
         exact qF (qA [0, 1, 2, 3, 4, 5, 6])
       ·skip
        have hr : endOk e = false := by first | (simp [endOk, g7]; done) | (simp [endOk]; intros; omega)
        rw [hr]
        exact qF (qA [0, 1, 2, 3, 4, 5, 6])
      ·skip
       have hr : endOk e = false := by first | (simp [endOk, g6]; done) | (simp [endOk]; intros; omega)
       rw [hr]
       exact qF (qA [0, 1, 2, 3, 4, 5, 6])
     ·skip
      have hr : endOk e = false := by first | (simp [endOk, g5]; done) | (simp [endOk]; intros; omega)
      rw [hr]
      exact qF (qA [0, 1, 2, 3, 4, 5, 6])
    ·skip
     have hr : endOk e = false := by first | (simp [endOk, g4]; done) | (simp [endOk]; intros; omega)
     rw [hr]
     exact qF (qA [0, 1, 2, 3, 4, 5, 6])
   ·skip
    have hr : endOk e = false := by first | (simp [endOk, g3]; done) | (simp [endOk]; intros; omega)
    rw [hr]
    exact qF (qA [0, 1, 2, 3, 4, 5, 6])
  ·skip
   have hr : endOk e = false := by first | (simp [endOk, g2]; done) | (simp [endOk]; intros; omega)
   rw [hr]
   exact qF (qA [0, 1, 2, 3, 4, 5, 6])
 ·skip
  have hr : endOk e = false := by first | (simp [endOk, g1]; done) | (simp [endOk]; intros; omega)
  rw [hr]
  exact qF (qA [0, 1, 2, 3, 4, 5, 6])
theorem spec_EndOk (e : EndD) (h0 : e.own.length ≤ 1048576) (h1 : e.far.length ≤ 1048576) (h2 : e.subs.length ≤ 1048576) (h3 : e.halfs.length ≤ 1048576) (h4 : e.inp.list.length ≤ 1048576) (h5 : e.done.length ≤ 1048576) (h6 : e.over.length ≤ 1048576) : CallA Tryz.prog 91 [.ag (e.cs 0)] (e.hp false) (.sc (.bo (endOk e))) (e.hp false) := by
 refine qE Tryz.func91 Tryz.ntmps91 Tryz.results91 fun E hE => ?_
 refine qK (spec_l01In _ _ _) [] ?_
 refine qB (fun g1 => ?_) fun g1 => ?_
 ·skip
  refine qK (spec_l01In _ _ _) [] ?_
  refine qB (fun g2 => ?_) fun g2 => ?_
  ·skip
   refine qK (spec_PolicyOk e.policy) [] ?_
   refine qB (fun g3 => ?_) fun g3 => ?_
   ·skip
    refine qK (spec_AddrsOk e.own h0) (qA [0]) ?_
    refine qB (fun g4 => ?_) fun g4 => ?_
    ·skip
     refine qK (spec_AddrsOk e.far h1) (qA [1]) ?_
     refine qB (fun g5 => ?_) fun g5 => ?_
     ·skip
      refine qK (spec_HalfsOk e.halfs h3) (qA [3]) ?_
      refine qB (fun g6 => ?_) fun g6 => ?_
      ·skip
       refine qK (spec_BucketOk e.bucket) [] ?_
       refine qB (fun g7 => ?_) fun g7 => ?_
       ·skip
        refine qK (spec_OutOk e.out) [] ?_
        refine qB (fun g8 => ?_) fun g8 => ?_
        ·skip
         refine qK (spec_PiecesOk e.inp h4) (qA [4]) ?_
         refine qB (fun g9 => ?_) fun g9 => ?_
         ·skip
          refine qB (fun g12 => ?_) fun g12 => ?_
          ·skip
           have hr : endOk e = false := by first | (simp [endOk, g12]; done) | (simp [endOk]; intros; omega)
           rw [hr]
           exact qF (qA [0, 1, 2, 3, 4, 5, 6])
          ·skip
           refine qX ?_
           refine den_lp 7 hE (fun s (k : Nat) => s.at [0, 2, 4, 5, 6, 7, 8, 9, 10, 11, 12, 13, 14, 15, 16, 17, 18, 19, 20, 21, 22, 23, 24, 25, 26, 27, 28, 29, 30, 31, 32, 33, 34, 35, 36, 37, 38, 39, 40, 41, 42, 43, 44, 45, 46, 47, 48, 49, 50, 51, 52, 53, 54, 55, 56, 57, 58, 59, 60, 61, 62, 63, 64, 65, 66, 67, 68, 69, 70, 71, 72, 73, 74, 75, 76, 77, 78, 79, 80, 81, 82, 83, 84, 85, 86, 87, 88, 89, 90, 91, 92, 93, 94, 95, 96, 97, 98, 99, 100, 101, 102, 103, 104, 105, 106, 107, 108, 109, 110, 111, 112, 113, 114, 115, 116, 117, 118, 119, 120, 121, 122, 123, 124, 125] [(3, .sc (.int .i64 (k : Nat)))] (s.hp)) (fun (k : Nat) => k ≤ e.subs.length ∧ ∀ j, j < k → suOk e.subs j = true) (fun (k : Nat) => e.subs.length - k) 0 (qA [0, 1, 2, 3, 4, 5, 6, 7]) (qC) (⟨Nat.zero_le _, fun j hj => absurd hj (Nat.not_lt_zero _)⟩) (weak_mk (by rfl) (by rfl) ?_) fun k hk N hN => ?_
           ·exact qY
           ·obtain ⟨hk1, hk2⟩ := hk
            refine qR ?_
            refine qB (fun h => ?_) fun h => ?_
            ·have hA := subAtN_eq h
             refine qX ?_
             refine qB (fun s4 => ?_) fun s4 => ?_
             ·refine qK (spec_SubAt e e.subs[k].road h2) (qA [0, 1, 2, 3, 4, 5, 6]) ?_
              refine qB (fun s5 => ?_) fun s5 => ?_
              ·skip
               have hb : suOk e.subs k = false := by simp [suOk, hA, s4, s5]
               have hu := upto_false h hb
               have hr : endOk e = false := by simp [endOk, hu]
               rw [hr]
               exact qF (qA [0, 1, 2, 3, 4, 5, 6])
              ·refine qX ?_
               refine qK (spec_l01In _ _ _) [] ?_
               refine qB (fun s1 => ?_) fun s1 => ?_
               ·skip
                refine qK (spec_l14Road e.subs[k].road) [] ?_
                refine qB (fun s2 => ?_) fun s2 => ?_
                ·skip
                 refine qK (spec_l14Num e.subs[k].mine) [] ?_
                 refine qB (fun s30 => ?_) fun s30 => ?_
                 ·skip
                  refine qK (spec_l14Num e.subs[k].theirs) [] ?_
                  refine qB (fun s31 => ?_) fun s31 => ?_
                  ·skip
                   refine qK (spec_l14Num e.subs[k].give) [] ?_
                   refine qB (fun s32 => ?_) fun s32 => ?_
                   ·skip
                    refine qK (spec_l14Num e.subs[k].take) [] ?_
                    refine qB (fun s33 => ?_) fun s33 => ?_
                    ·skip
                     refine qK (spec_l14Num e.subs[k].tries) [] ?_
                     refine qB (fun s34 => ?_) fun s34 => ?_
                     ·skip
                      have hb : suOk e.subs k = false := by simp [suOk, hA, s34]
                      have hu := upto_false h hb
                      have hr : endOk e = false := by simp [endOk, hu]
                      rw [hr]
                      exact qF (qA [0, 1, 2, 3, 4, 5, 6])
                     ·skip
                      have hg : suOk e.subs k = true := by first | (simp [suOk, hA, s1, s2, s30, s31, s32, s33, s34, s4, s5]; done) | (simp [suOk, hA, s1, s2, s30, s31, s32, s33, s34, s4, s5]; decide)
                      exact qN hN (k + 1) (qA [0, 1, 2, 3, 4, 5, 6, 7]) (by (try dsimp only); exact ⟨by omega, upto_snoc hk2 hg⟩)
                    ·skip
                     have hb : suOk e.subs k = false := by simp [suOk, hA, s33]
                     have hu := upto_false h hb
                     have hr : endOk e = false := by simp [endOk, hu]
                     rw [hr]
                     exact qF (qA [0, 1, 2, 3, 4, 5, 6])
                   ·skip
                    have hb : suOk e.subs k = false := by simp [suOk, hA, s32]
                    have hu := upto_false h hb
                    have hr : endOk e = false := by simp [endOk, hu]
                    rw [hr]
                    exact qF (qA [0, 1, 2, 3, 4, 5, 6])
                  ·skip
                   have hb : suOk e.subs k = false := by simp [suOk, hA, s31]
                   have hu := upto_false h hb
                   have hr : endOk e = false := by simp [endOk, hu]
                   rw [hr]
                   exact qF (qA [0, 1, 2, 3, 4, 5, 6])
                 ·skip
                  have hb : suOk e.subs k = false := by simp [suOk, hA, s30]
                  have hu := upto_false h hb
                  have hr : endOk e = false := by simp [endOk, hu]
                  rw [hr]
                  exact qF (qA [0, 1, 2, 3, 4, 5, 6])
                ·skip
                 have hb : suOk e.subs k = false := by simp [suOk, hA, s2]
                 have hu := upto_false h hb
                 have hr : endOk e = false := by simp [endOk, hu]
                 rw [hr]
                 exact qF (qA [0, 1, 2, 3, 4, 5, 6])
               ·skip
                have hb : suOk e.subs k = false := by simp [suOk, hA, s1]
                have hu := upto_false h hb
                have hr : endOk e = false := by simp [endOk, hu]
                rw [hr]
                exact qF (qA [0, 1, 2, 3, 4, 5, 6])
             ·refine qX ?_
              refine qK (spec_l01In _ _ _) [] ?_
              refine qB (fun s1 => ?_) fun s1 => ?_
              ·skip
               refine qK (spec_l14Road e.subs[k].road) [] ?_
               refine qB (fun s2 => ?_) fun s2 => ?_
               ·skip
                refine qK (spec_l14Num e.subs[k].mine) [] ?_
                refine qB (fun s30 => ?_) fun s30 => ?_
                ·skip
                 refine qK (spec_l14Num e.subs[k].theirs) [] ?_
                 refine qB (fun s31 => ?_) fun s31 => ?_
                 ·skip
                  refine qK (spec_l14Num e.subs[k].give) [] ?_
                  refine qB (fun s32 => ?_) fun s32 => ?_
                  ·skip
                   refine qK (spec_l14Num e.subs[k].take) [] ?_
                   refine qB (fun s33 => ?_) fun s33 => ?_
                   ·skip
                    refine qK (spec_l14Num e.subs[k].tries) [] ?_
                    refine qB (fun s34 => ?_) fun s34 => ?_
                    ·skip
                     have hb : suOk e.subs k = false := by simp [suOk, hA, s34]
                     have hu := upto_false h hb
                     have hr : endOk e = false := by simp [endOk, hu]
                     rw [hr]
                     exact qF (qA [0, 1, 2, 3, 4, 5, 6])
                    ·skip
                     have hg : suOk e.subs k = true := by first | (simp [suOk, hA, s1, s2, s30, s31, s32, s33, s34, s4]; done) | (simp [suOk, hA, s1, s2, s30, s31, s32, s33, s34, s4]; decide)
                     exact qN hN (k + 1) (qA [0, 1, 2, 3, 4, 5, 6, 7]) (by (try dsimp only); exact ⟨by omega, upto_snoc hk2 hg⟩)
                   ·skip
                    have hb : suOk e.subs k = false := by simp [suOk, hA, s33]
                    have hu := upto_false h hb
                    have hr : endOk e = false := by simp [endOk, hu]
                    rw [hr]
                    exact qF (qA [0, 1, 2, 3, 4, 5, 6])
                  ·skip
                   have hb : suOk e.subs k = false := by simp [suOk, hA, s32]
                   have hu := upto_false h hb
                   have hr : endOk e = false := by simp [endOk, hu]
                   rw [hr]
                   exact qF (qA [0, 1, 2, 3, 4, 5, 6])
                 ·skip
                  have hb : suOk e.subs k = false := by simp [suOk, hA, s31]
                  have hu := upto_false h hb
                  have hr : endOk e = false := by simp [endOk, hu]
                  rw [hr]
                  exact qF (qA [0, 1, 2, 3, 4, 5, 6])
                ·skip
                 have hb : suOk e.subs k = false := by simp [suOk, hA, s30]
                 have hu := upto_false h hb
                 have hr : endOk e = false := by simp [endOk, hu]
                 rw [hr]
                 exact qF (qA [0, 1, 2, 3, 4, 5, 6])
               ·skip
                have hb : suOk e.subs k = false := by simp [suOk, hA, s2]
                have hu := upto_false h hb
                have hr : endOk e = false := by simp [endOk, hu]
                rw [hr]
                exact qF (qA [0, 1, 2, 3, 4, 5, 6])
              ·skip
               have hb : suOk e.subs k = false := by simp [suOk, hA, s1]
               have hu := upto_false h hb
               have hr : endOk e = false := by simp [endOk, hu]
               rw [hr]
               exact qF (qA [0, 1, 2, 3, 4, 5, 6])
            ·have ek : k = e.subs.length := by omega
             subst ek
             have hu := upto_true hk2
             have g12' : (e.subs.length : Int) ≤ 8 := by omega
             refine qX ?_
             refine qK (spec_l17Ids e.done e.own h5 h0) (qA [5, 0]) ?_
             refine qB (fun g10 => ?_) fun g10 => ?_
             ·skip
              refine qK (spec_l17Ids e.over e.far h6 h1) (qA [6, 1]) ?_
              refine qB (fun g11 => ?_) fun g11 => ?_
              ·skip
               have hr : endOk e = false := by first | (simp [endOk, g11]; done) | (simp [endOk]; intros; omega)
               rw [hr]
               exact qF (qA [0, 1, 2, 3, 4, 5, 6])
              ·skip
               refine qX ?_
               refine qK (spec_l14Num e.key) [] ?_
               refine qB (fun n0 => ?_) fun n0 => ?_
               ·skip
                refine qK (spec_l14Num e.peer) [] ?_
                refine qB (fun n1 => ?_) fun n1 => ?_
                ·skip
                 refine qK (spec_l14Num e.draw) [] ?_
                 refine qB (fun n2 => ?_) fun n2 => ?_
                 ·skip
                  refine qK (spec_l14Num e.now) [] ?_
                  refine qB (fun n3 => ?_) fun n3 => ?_
                  ·skip
                   refine qK (spec_l14Num e.pick) [] ?_
                   refine qJ (qA [0, 1, 2, 3, 4, 5, 6]) ?_
                   simp [endOk, g1, g2, g3, g4, g5, g6, g7, g8, g9, g10, g11, g12', hu, n0, n1, n2, n3]
                  ·skip
                   have hr : endOk e = false := by first | (simp [endOk, n3]; done) | (simp [endOk]; intros; omega)
                   rw [hr]
                   exact qF (qA [0, 1, 2, 3, 4, 5, 6])
                 ·skip
                  have hr : endOk e = false := by first | (simp [endOk, n2]; done) | (simp [endOk]; intros; omega)
                  rw [hr]
                  exact qF (qA [0, 1, 2, 3, 4, 5, 6])
                ·skip
                 have hr : endOk e = false := by first | (simp [endOk, n1]; done) | (simp [endOk]; intros; omega)
                 rw [hr]
                 exact qF (qA [0, 1, 2, 3, 4, 5, 6])
               ·skip
                have hr : endOk e = false := by first | (simp [endOk, n0]; done) | (simp [endOk]; intros; omega)
                rw [hr]
                exact qF (qA [0, 1, 2, 3, 4, 5, 6])
             ·skip
              have hr : endOk e = false := by first | (simp [endOk, g10]; done) | (simp [endOk]; intros; omega)
              rw [hr]
              exact qF (qA [0, 1, 2, 3, 4, 5, 6])
         ·skip
          have hr : endOk e = false := by first | (simp [endOk, g9]; done) | (simp [endOk]; intros; omega)
          rw [hr]
          exact qF (qA [0, 1, 2, 3, 4, 5, 6])
        ·skip
         have hr : endOk e = false := by first | (simp [endOk, g8]; done) | (simp [endOk]; intros; omega)
         rw [hr]
         exact qF (qA [0, 1, 2, 3, 4, 5, 6])
       ·skip
        have hr : endOk e = false := by first | (simp [endOk, g7]; done) | (simp [endOk]; intros; omega)
        rw [hr]
        exact qF (qA [0, 1, 2, 3, 4, 5, 6])
      ·skip
       have hr : endOk e = false := by first | (simp [endOk, g6]; done) | (simp [endOk]; intros; omega)
       rw [hr]
       exact qF (qA [0, 1, 2, 3, 4, 5, 6])
     ·skip
      have hr : endOk e = false := by first | (simp [endOk, g5]; done) | (simp [endOk]; intros; omega)
      rw [hr]
      exact qF (qA [0, 1, 2, 3, 4, 5, 6])
    ·skip
     have hr : endOk e = false := by first | (simp [endOk, g4]; done) | (simp [endOk]; intros; omega)
     rw [hr]
     exact qF (qA [0, 1, 2, 3, 4, 5, 6])
   ·skip
    have hr : endOk e = false := by first | (simp [endOk, g3]; done) | (simp [endOk]; intros; omega)
    rw [hr]
    exact qF (qA [0, 1, 2, 3, 4, 5, 6])
  ·skip
   have hr : endOk e = false := by first | (simp [endOk, g2]; done) | (simp [endOk]; intros; omega)
   rw [hr]
   exact qF (qA [0, 1, 2, 3, 4, 5, 6])
 ·skip
  have hr : endOk e = false := by first | (simp [endOk, g1]; done) | (simp [endOk]; intros; omega)
  rw [hr]
  exact qF (qA [0, 1, 2, 3, 4, 5, 6])
end
end Go.Proofs.YtkkcfgfkabkjhaaGreat
