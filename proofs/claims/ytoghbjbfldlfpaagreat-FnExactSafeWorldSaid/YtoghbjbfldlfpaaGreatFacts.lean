/-
  The facts on the types of this translation that the runs use. (Written by facts.py.)
-/
import Derived.Test.YtoghbjbfldlfpaaGreatChecked
import Derived.Test.YtoghbjbfldlfpaaGreatVx14
import Derived.KernelRfl
namespace Go.Proofs.YtoghbjbfldlfpaaGreat
theorem tl_2 : tload Tryz.prog 2 = some none := by kernel_rfl
theorem ts_2 : tst Tryz.prog 2 = some 1 := by kernel_rfl
theorem tz_2 : tz Tryz.prog 2 = some [.int .i64 0] := by kernel_rfl
theorem tl_3 : tload Tryz.prog 3 = some none := by kernel_rfl
theorem ts_3 : tst Tryz.prog 3 = some 1 := by kernel_rfl
theorem tz_3 : tz Tryz.prog 3 = some [.int .i64 0] := by kernel_rfl
theorem tl_4 : tload Tryz.prog 4 = some none := by kernel_rfl
theorem ts_4 : tst Tryz.prog 4 = some 1 := by kernel_rfl
theorem tz_4 : tz Tryz.prog 4 = some [.bo false] := by kernel_rfl
theorem tbo_4 : tbool Tryz.prog 4 = true := by kernel_rfl
theorem tl_5 : tload Tryz.prog 5 = some none := by kernel_rfl
theorem ts_5 : tst Tryz.prog 5 = some 1 := by kernel_rfl
theorem tz_5 : tz Tryz.prog 5 = some [.int .u8 0] := by kernel_rfl
theorem tl_9 : tload Tryz.prog 9 = some none := by kernel_rfl
theorem ts_9 : tst Tryz.prog 9 = some 1 := by kernel_rfl
theorem tz_9 : tz Tryz.prog 9 = some [.st []] := by kernel_rfl
theorem tstr_9 : tstr Tryz.prog 9 = true := by kernel_rfl
theorem tl_12 : tload Tryz.prog 12 = some none := by kernel_rfl
theorem ts_12 : tst Tryz.prog 12 = some 1 := by kernel_rfl
theorem tz_12 : tz Tryz.prog 12 = some [.int .u64 0] := by kernel_rfl
theorem tl_21 : tload Tryz.prog 21 = some none := by kernel_rfl
theorem ts_21 : tst Tryz.prog 21 = some 1 := by kernel_rfl
theorem tz_21 : tz Tryz.prog 21 = some [.int .i32 0] := by kernel_rfl
theorem tl_22 : tload Tryz.prog 22 = some (some 2) := by kernel_rfl
theorem ts_22 : tst Tryz.prog 22 = some 2 := by kernel_rfl
theorem tz_22 : tz Tryz.prog 22 = some [.int .i64 0, .int .i64 0] := by kernel_rfl
theorem tsz_22 : tsz Tryz.prog 22 = 2 := by kernel_rfl
theorem tag_22 : tagg Tryz.prog 22 = true := by kernel_rfl
theorem tb_22 : tbuild Tryz.prog 22 = some [.int .i64 0, .int .i64 0] := by kernel_rfl
theorem tf_22_0 : tfld Tryz.prog 22 0 = some (0, 1) := by kernel_rfl
theorem tf_22_1 : tfld Tryz.prog 22 1 = some (1, 1) := by kernel_rfl
theorem tl_23 : tload Tryz.prog 23 = some (some 2) := by kernel_rfl
theorem ts_23 : tst Tryz.prog 23 = some 2 := by kernel_rfl
theorem tz_23 : tz Tryz.prog 23 = some [.int .i64 0, .int .i64 0] := by kernel_rfl
theorem tsz_23 : tsz Tryz.prog 23 = 2 := by kernel_rfl
theorem tag_23 : tagg Tryz.prog 23 = true := by kernel_rfl
theorem tb_23 : tbuild Tryz.prog 23 = some [.int .i64 0, .int .i64 0] := by kernel_rfl
theorem tf_23_0 : tfld Tryz.prog 23 0 = some (0, 1) := by kernel_rfl
theorem tf_23_1 : tfld Tryz.prog 23 1 = some (1, 1) := by kernel_rfl
theorem tl_24 : tload Tryz.prog 24 = some none := by kernel_rfl
theorem ts_24 : tst Tryz.prog 24 = some 1 := by kernel_rfl
theorem tz_24 : tz Tryz.prog 24 = some [.nil] := by kernel_rfl
theorem tsl_24 : tsl Tryz.prog 24 = some (144, 4) := by kernel_rfl
theorem tl_25 : tload Tryz.prog 25 = some none := by kernel_rfl
theorem ts_25 : tst Tryz.prog 25 = some 1 := by kernel_rfl
theorem tz_25 : tz Tryz.prog 25 = some [.nil] := by kernel_rfl
theorem tsl_25 : tsl Tryz.prog 25 = some (148, 10) := by kernel_rfl
theorem tl_26 : tload Tryz.prog 26 = some none := by kernel_rfl
theorem ts_26 : tst Tryz.prog 26 = some 1 := by kernel_rfl
theorem tz_26 : tz Tryz.prog 26 = some [.nil] := by kernel_rfl
theorem tsl_26 : tsl Tryz.prog 26 = some (151, 8) := by kernel_rfl
theorem tl_27 : tload Tryz.prog 27 = some (some 3) := by kernel_rfl
theorem ts_27 : tst Tryz.prog 27 = some 3 := by kernel_rfl
theorem tz_27 : tz Tryz.prog 27 = some [.int .i64 0, .int .i64 0, .int .i64 0] := by kernel_rfl
theorem tsz_27 : tsz Tryz.prog 27 = 3 := by kernel_rfl
theorem tag_27 : tagg Tryz.prog 27 = true := by kernel_rfl
theorem tb_27 : tbuild Tryz.prog 27 = some [.int .i64 0, .int .i64 0, .int .i64 0] := by kernel_rfl
theorem tf_27_0 : tfld Tryz.prog 27 0 = some (0, 1) := by kernel_rfl
theorem tf_27_1 : tfld Tryz.prog 27 1 = some (1, 1) := by kernel_rfl
theorem tf_27_2 : tfld Tryz.prog 27 2 = some (2, 1) := by kernel_rfl
theorem tl_28 : tload Tryz.prog 28 = some (some 3) := by kernel_rfl
theorem ts_28 : tst Tryz.prog 28 = some 3 := by kernel_rfl
theorem tz_28 : tz Tryz.prog 28 = some [.int .i64 0, .int .i64 0, .int .i64 0] := by kernel_rfl
theorem tsz_28 : tsz Tryz.prog 28 = 3 := by kernel_rfl
theorem tag_28 : tagg Tryz.prog 28 = true := by kernel_rfl
theorem tb_28 : tbuild Tryz.prog 28 = some [.int .i64 0, .int .i64 0, .int .i64 0] := by kernel_rfl
theorem tf_28_0 : tfld Tryz.prog 28 0 = some (0, 1) := by kernel_rfl
theorem tf_28_1 : tfld Tryz.prog 28 1 = some (1, 1) := by kernel_rfl
theorem tf_28_2 : tfld Tryz.prog 28 2 = some (2, 1) := by kernel_rfl
theorem tl_29 : tload Tryz.prog 29 = some (some 4) := by kernel_rfl
theorem ts_29 : tst Tryz.prog 29 = some 4 := by kernel_rfl
theorem tz_29 : tz Tryz.prog 29 = some [.st [], .int .i64 0, .int .i64 0, .int .i64 0] := by kernel_rfl
theorem tsz_29 : tsz Tryz.prog 29 = 4 := by kernel_rfl
theorem tag_29 : tagg Tryz.prog 29 = true := by kernel_rfl
theorem tb_29 : tbuild Tryz.prog 29 = some [.st [], .int .i64 0, .int .i64 0, .int .i64 0] := by kernel_rfl
theorem tf_29_0 : tfld Tryz.prog 29 0 = some (0, 1) := by kernel_rfl
theorem tf_29_1 : tfld Tryz.prog 29 1 = some (1, 1) := by kernel_rfl
theorem tf_29_2 : tfld Tryz.prog 29 2 = some (2, 1) := by kernel_rfl
theorem tf_29_3 : tfld Tryz.prog 29 3 = some (3, 1) := by kernel_rfl
theorem tl_30 : tload Tryz.prog 30 = some (some 4) := by kernel_rfl
theorem ts_30 : tst Tryz.prog 30 = some 4 := by kernel_rfl
theorem tz_30 : tz Tryz.prog 30 = some [.st [], .int .i64 0, .int .i64 0, .int .i64 0] := by kernel_rfl
theorem tsz_30 : tsz Tryz.prog 30 = 4 := by kernel_rfl
theorem tag_30 : tagg Tryz.prog 30 = true := by kernel_rfl
theorem tb_30 : tbuild Tryz.prog 30 = some [.st [], .int .i64 0, .int .i64 0, .int .i64 0] := by kernel_rfl
theorem tf_30_0 : tfld Tryz.prog 30 0 = some (0, 1) := by kernel_rfl
theorem tf_30_1 : tfld Tryz.prog 30 1 = some (1, 1) := by kernel_rfl
theorem tf_30_2 : tfld Tryz.prog 30 2 = some (2, 1) := by kernel_rfl
theorem tf_30_3 : tfld Tryz.prog 30 3 = some (3, 1) := by kernel_rfl
theorem tl_31 : tload Tryz.prog 31 = some none := by kernel_rfl
theorem ts_31 : tst Tryz.prog 31 = some 1 := by kernel_rfl
theorem tz_31 : tz Tryz.prog 31 = some [.nil] := by kernel_rfl
theorem tsl_31 : tsl Tryz.prog 31 = some (161, 2) := by kernel_rfl
theorem tl_32 : tload Tryz.prog 32 = some (some 3) := by kernel_rfl
theorem ts_32 : tst Tryz.prog 32 = some 3 := by kernel_rfl
theorem tz_32 : tz Tryz.prog 32 = some [.int .i64 0, .st [], .nil] := by kernel_rfl
theorem tsz_32 : tsz Tryz.prog 32 = 3 := by kernel_rfl
theorem tag_32 : tagg Tryz.prog 32 = true := by kernel_rfl
theorem tb_32 : tbuild Tryz.prog 32 = some [.int .i64 0, .st [], .nil] := by kernel_rfl
theorem tf_32_0 : tfld Tryz.prog 32 0 = some (0, 1) := by kernel_rfl
theorem tf_32_1 : tfld Tryz.prog 32 1 = some (1, 1) := by kernel_rfl
theorem tf_32_2 : tfld Tryz.prog 32 2 = some (2, 1) := by kernel_rfl
theorem tl_33 : tload Tryz.prog 33 = some (some 3) := by kernel_rfl
theorem ts_33 : tst Tryz.prog 33 = some 3 := by kernel_rfl
theorem tz_33 : tz Tryz.prog 33 = some [.int .i64 0, .st [], .nil] := by kernel_rfl
theorem tsz_33 : tsz Tryz.prog 33 = 3 := by kernel_rfl
theorem tag_33 : tagg Tryz.prog 33 = true := by kernel_rfl
theorem tb_33 : tbuild Tryz.prog 33 = some [.int .i64 0, .st [], .nil] := by kernel_rfl
theorem tf_33_0 : tfld Tryz.prog 33 0 = some (0, 1) := by kernel_rfl
theorem tf_33_1 : tfld Tryz.prog 33 1 = some (1, 1) := by kernel_rfl
theorem tf_33_2 : tfld Tryz.prog 33 2 = some (2, 1) := by kernel_rfl
theorem tl_34 : tload Tryz.prog 34 = some none := by kernel_rfl
theorem ts_34 : tst Tryz.prog 34 = some 1 := by kernel_rfl
theorem tz_34 : tz Tryz.prog 34 = some [.nil] := by kernel_rfl
theorem tsl_34 : tsl Tryz.prog 34 = some (3, 1) := by kernel_rfl
theorem tl_35 : tload Tryz.prog 35 = some (some 25) := by kernel_rfl
theorem ts_35 : tst Tryz.prog 35 = some 25 := by kernel_rfl
theorem tz_35 : tz Tryz.prog 35 = some [.int .i64 0, .int .i64 0, .int .i64 0, .int .i64 0, .int .i64 0, .int .i64 0, .nil, .nil, .nil, .nil, .int .i64 0, .int .i64 0, .int .i64 0, .st [], .int .i64 0, .int .i64 0, .int .i64 0, .int .i64 0, .st [], .nil, .nil, .nil, .int .i64 0, .int .i64 0, .int .i64 0] := by kernel_rfl
theorem tsz_35 : tsz Tryz.prog 35 = 25 := by kernel_rfl
theorem tag_35 : tagg Tryz.prog 35 = true := by kernel_rfl
theorem tb_35 : tbuild Tryz.prog 35 = some [.int .i64 0, .int .i64 0, .int .i64 0, .int .i64 0, .int .i64 0, .int .i64 0, .nil, .nil, .nil, .nil, .int .i64 0, .int .i64 0, .int .i64 0, .st [], .int .i64 0, .int .i64 0, .int .i64 0, .int .i64 0, .st [], .nil, .nil, .nil, .int .i64 0, .int .i64 0, .int .i64 0] := by kernel_rfl
theorem tf_35_0 : tfld Tryz.prog 35 0 = some (0, 1) := by kernel_rfl
theorem tf_35_1 : tfld Tryz.prog 35 1 = some (1, 1) := by kernel_rfl
theorem tf_35_2 : tfld Tryz.prog 35 2 = some (2, 1) := by kernel_rfl
theorem tf_35_3 : tfld Tryz.prog 35 3 = some (3, 1) := by kernel_rfl
theorem tf_35_4 : tfld Tryz.prog 35 4 = some (4, 2) := by kernel_rfl
theorem tf_35_5 : tfld Tryz.prog 35 5 = some (6, 1) := by kernel_rfl
theorem tf_35_6 : tfld Tryz.prog 35 6 = some (7, 1) := by kernel_rfl
theorem tf_35_7 : tfld Tryz.prog 35 7 = some (8, 1) := by kernel_rfl
theorem tf_35_8 : tfld Tryz.prog 35 8 = some (9, 1) := by kernel_rfl
theorem tf_35_9 : tfld Tryz.prog 35 9 = some (10, 3) := by kernel_rfl
theorem tf_35_10 : tfld Tryz.prog 35 10 = some (13, 4) := by kernel_rfl
theorem tf_35_11 : tfld Tryz.prog 35 11 = some (17, 3) := by kernel_rfl
theorem tf_35_12 : tfld Tryz.prog 35 12 = some (20, 1) := by kernel_rfl
theorem tf_35_13 : tfld Tryz.prog 35 13 = some (21, 1) := by kernel_rfl
theorem tf_35_14 : tfld Tryz.prog 35 14 = some (22, 1) := by kernel_rfl
theorem tf_35_15 : tfld Tryz.prog 35 15 = some (23, 1) := by kernel_rfl
theorem tf_35_16 : tfld Tryz.prog 35 16 = some (24, 1) := by kernel_rfl
theorem tl_36 : tload Tryz.prog 36 = some (some 25) := by kernel_rfl
theorem ts_36 : tst Tryz.prog 36 = some 25 := by kernel_rfl
theorem tz_36 : tz Tryz.prog 36 = some [.int .i64 0, .int .i64 0, .int .i64 0, .int .i64 0, .int .i64 0, .int .i64 0, .nil, .nil, .nil, .nil, .int .i64 0, .int .i64 0, .int .i64 0, .st [], .int .i64 0, .int .i64 0, .int .i64 0, .int .i64 0, .st [], .nil, .nil, .nil, .int .i64 0, .int .i64 0, .int .i64 0] := by kernel_rfl
theorem tsz_36 : tsz Tryz.prog 36 = 25 := by kernel_rfl
theorem tag_36 : tagg Tryz.prog 36 = true := by kernel_rfl
theorem tb_36 : tbuild Tryz.prog 36 = some [.int .i64 0, .int .i64 0, .int .i64 0, .int .i64 0, .int .i64 0, .int .i64 0, .nil, .nil, .nil, .nil, .int .i64 0, .int .i64 0, .int .i64 0, .st [], .int .i64 0, .int .i64 0, .int .i64 0, .int .i64 0, .st [], .nil, .nil, .nil, .int .i64 0, .int .i64 0, .int .i64 0] := by kernel_rfl
theorem tf_36_0 : tfld Tryz.prog 36 0 = some (0, 1) := by kernel_rfl
theorem tf_36_1 : tfld Tryz.prog 36 1 = some (1, 1) := by kernel_rfl
theorem tf_36_2 : tfld Tryz.prog 36 2 = some (2, 1) := by kernel_rfl
theorem tf_36_3 : tfld Tryz.prog 36 3 = some (3, 1) := by kernel_rfl
theorem tf_36_4 : tfld Tryz.prog 36 4 = some (4, 2) := by kernel_rfl
theorem tf_36_5 : tfld Tryz.prog 36 5 = some (6, 1) := by kernel_rfl
theorem tf_36_6 : tfld Tryz.prog 36 6 = some (7, 1) := by kernel_rfl
theorem tf_36_7 : tfld Tryz.prog 36 7 = some (8, 1) := by kernel_rfl
theorem tf_36_8 : tfld Tryz.prog 36 8 = some (9, 1) := by kernel_rfl
theorem tf_36_9 : tfld Tryz.prog 36 9 = some (10, 3) := by kernel_rfl
theorem tf_36_10 : tfld Tryz.prog 36 10 = some (13, 4) := by kernel_rfl
theorem tf_36_11 : tfld Tryz.prog 36 11 = some (17, 3) := by kernel_rfl
theorem tf_36_12 : tfld Tryz.prog 36 12 = some (20, 1) := by kernel_rfl
theorem tf_36_13 : tfld Tryz.prog 36 13 = some (21, 1) := by kernel_rfl
theorem tf_36_14 : tfld Tryz.prog 36 14 = some (22, 1) := by kernel_rfl
theorem tf_36_15 : tfld Tryz.prog 36 15 = some (23, 1) := by kernel_rfl
theorem tf_36_16 : tfld Tryz.prog 36 16 = some (24, 1) := by kernel_rfl
theorem tl_37 : tload Tryz.prog 37 = some none := by kernel_rfl
theorem ts_37 : tst Tryz.prog 37 = some 1 := by kernel_rfl
theorem tz_37 : tz Tryz.prog 37 = some [.nil] := by kernel_rfl
theorem tsl_37 : tsl Tryz.prog 37 = some (87, 19) := by kernel_rfl
theorem tl_38 : tload Tryz.prog 38 = some none := by kernel_rfl
theorem ts_38 : tst Tryz.prog 38 = some 1 := by kernel_rfl
theorem tz_38 : tz Tryz.prog 38 = some [.nil] := by kernel_rfl
theorem tsl_38 : tsl Tryz.prog 38 = some (85, 5) := by kernel_rfl
theorem tl_39 : tload Tryz.prog 39 = some (some 2) := by kernel_rfl
theorem ts_39 : tst Tryz.prog 39 = some 2 := by kernel_rfl
theorem tz_39 : tz Tryz.prog 39 = some [.nil, .nil] := by kernel_rfl
theorem tsz_39 : tsz Tryz.prog 39 = 2 := by kernel_rfl
theorem tag_39 : tagg Tryz.prog 39 = true := by kernel_rfl
theorem tb_39 : tbuild Tryz.prog 39 = some [.nil, .nil] := by kernel_rfl
theorem tf_39_0 : tfld Tryz.prog 39 0 = some (0, 1) := by kernel_rfl
theorem tf_39_1 : tfld Tryz.prog 39 1 = some (1, 1) := by kernel_rfl
theorem tl_40 : tload Tryz.prog 40 = some (some 2) := by kernel_rfl
theorem ts_40 : tst Tryz.prog 40 = some 2 := by kernel_rfl
theorem tz_40 : tz Tryz.prog 40 = some [.nil, .nil] := by kernel_rfl
theorem tsz_40 : tsz Tryz.prog 40 = 2 := by kernel_rfl
theorem tag_40 : tagg Tryz.prog 40 = true := by kernel_rfl
theorem tb_40 : tbuild Tryz.prog 40 = some [.nil, .nil] := by kernel_rfl
theorem tf_40_0 : tfld Tryz.prog 40 0 = some (0, 1) := by kernel_rfl
theorem tf_40_1 : tfld Tryz.prog 40 1 = some (1, 1) := by kernel_rfl
theorem tl_41 : tload Tryz.prog 41 = some (some 61) := by kernel_rfl
theorem ts_41 : tst Tryz.prog 41 = some 61 := by kernel_rfl
theorem tz_41 : tz Tryz.prog 41 = some [.int .i64 0, .int .i64 0, .int .i64 0, .int .i64 0, .int .i64 0, .int .i64 0, .nil, .nil, .nil, .nil, .int .i64 0, .int .i64 0, .int .i64 0, .st [], .int .i64 0, .int .i64 0, .int .i64 0, .int .i64 0, .st [], .nil, .nil, .nil, .int .i64 0, .int .i64 0, .int .i64 0, .int .i64 0, .int .i64 0, .int .i64 0, .int .i64 0, .int .i64 0, .int .i64 0, .nil, .nil, .nil, .nil, .int .i64 0, .int .i64 0, .int .i64 0, .st [], .int .i64 0, .int .i64 0, .int .i64 0, .int .i64 0, .st [], .nil, .nil, .nil, .int .i64 0, .int .i64 0, .int .i64 0, .nil, .nil, .st [], .st [], .st [], .st [], .nil, .nil, .nil, .nil, .nil] := by kernel_rfl
theorem tsz_41 : tsz Tryz.prog 41 = 61 := by kernel_rfl
theorem tag_41 : tagg Tryz.prog 41 = true := by kernel_rfl
theorem tb_41 : tbuild Tryz.prog 41 = some [.int .i64 0, .int .i64 0, .int .i64 0, .int .i64 0, .int .i64 0, .int .i64 0, .nil, .nil, .nil, .nil, .int .i64 0, .int .i64 0, .int .i64 0, .st [], .int .i64 0, .int .i64 0, .int .i64 0, .int .i64 0, .st [], .nil, .nil, .nil, .int .i64 0, .int .i64 0, .int .i64 0, .int .i64 0, .int .i64 0, .int .i64 0, .int .i64 0, .int .i64 0, .int .i64 0, .nil, .nil, .nil, .nil, .int .i64 0, .int .i64 0, .int .i64 0, .st [], .int .i64 0, .int .i64 0, .int .i64 0, .int .i64 0, .st [], .nil, .nil, .nil, .int .i64 0, .int .i64 0, .int .i64 0, .nil, .nil, .st [], .st [], .st [], .st [], .nil, .nil, .nil, .nil, .nil] := by kernel_rfl
theorem tf_41_0 : tfld Tryz.prog 41 0 = some (0, 25) := by kernel_rfl
theorem tf_41_1 : tfld Tryz.prog 41 1 = some (25, 25) := by kernel_rfl
theorem tf_41_2 : tfld Tryz.prog 41 2 = some (50, 1) := by kernel_rfl
theorem tf_41_3 : tfld Tryz.prog 41 3 = some (51, 1) := by kernel_rfl
theorem tf_41_4 : tfld Tryz.prog 41 4 = some (52, 1) := by kernel_rfl
theorem tf_41_5 : tfld Tryz.prog 41 5 = some (53, 1) := by kernel_rfl
theorem tf_41_6 : tfld Tryz.prog 41 6 = some (54, 1) := by kernel_rfl
theorem tf_41_7 : tfld Tryz.prog 41 7 = some (55, 1) := by kernel_rfl
theorem tf_41_8 : tfld Tryz.prog 41 8 = some (56, 2) := by kernel_rfl
theorem tf_41_9 : tfld Tryz.prog 41 9 = some (58, 1) := by kernel_rfl
theorem tf_41_10 : tfld Tryz.prog 41 10 = some (59, 1) := by kernel_rfl
theorem tf_41_11 : tfld Tryz.prog 41 11 = some (60, 1) := by kernel_rfl
theorem tl_42 : tload Tryz.prog 42 = some (some 61) := by kernel_rfl
theorem ts_42 : tst Tryz.prog 42 = some 61 := by kernel_rfl
theorem tz_42 : tz Tryz.prog 42 = some [.int .i64 0, .int .i64 0, .int .i64 0, .int .i64 0, .int .i64 0, .int .i64 0, .nil, .nil, .nil, .nil, .int .i64 0, .int .i64 0, .int .i64 0, .st [], .int .i64 0, .int .i64 0, .int .i64 0, .int .i64 0, .st [], .nil, .nil, .nil, .int .i64 0, .int .i64 0, .int .i64 0, .int .i64 0, .int .i64 0, .int .i64 0, .int .i64 0, .int .i64 0, .int .i64 0, .nil, .nil, .nil, .nil, .int .i64 0, .int .i64 0, .int .i64 0, .st [], .int .i64 0, .int .i64 0, .int .i64 0, .int .i64 0, .st [], .nil, .nil, .nil, .int .i64 0, .int .i64 0, .int .i64 0, .nil, .nil, .st [], .st [], .st [], .st [], .nil, .nil, .nil, .nil, .nil] := by kernel_rfl
theorem tsz_42 : tsz Tryz.prog 42 = 61 := by kernel_rfl
theorem tag_42 : tagg Tryz.prog 42 = true := by kernel_rfl
theorem tb_42 : tbuild Tryz.prog 42 = some [.int .i64 0, .int .i64 0, .int .i64 0, .int .i64 0, .int .i64 0, .int .i64 0, .nil, .nil, .nil, .nil, .int .i64 0, .int .i64 0, .int .i64 0, .st [], .int .i64 0, .int .i64 0, .int .i64 0, .int .i64 0, .st [], .nil, .nil, .nil, .int .i64 0, .int .i64 0, .int .i64 0, .int .i64 0, .int .i64 0, .int .i64 0, .int .i64 0, .int .i64 0, .int .i64 0, .nil, .nil, .nil, .nil, .int .i64 0, .int .i64 0, .int .i64 0, .st [], .int .i64 0, .int .i64 0, .int .i64 0, .int .i64 0, .st [], .nil, .nil, .nil, .int .i64 0, .int .i64 0, .int .i64 0, .nil, .nil, .st [], .st [], .st [], .st [], .nil, .nil, .nil, .nil, .nil] := by kernel_rfl
theorem tf_42_0 : tfld Tryz.prog 42 0 = some (0, 25) := by kernel_rfl
theorem tf_42_1 : tfld Tryz.prog 42 1 = some (25, 25) := by kernel_rfl
theorem tf_42_2 : tfld Tryz.prog 42 2 = some (50, 1) := by kernel_rfl
theorem tf_42_3 : tfld Tryz.prog 42 3 = some (51, 1) := by kernel_rfl
theorem tf_42_4 : tfld Tryz.prog 42 4 = some (52, 1) := by kernel_rfl
theorem tf_42_5 : tfld Tryz.prog 42 5 = some (53, 1) := by kernel_rfl
theorem tf_42_6 : tfld Tryz.prog 42 6 = some (54, 1) := by kernel_rfl
theorem tf_42_7 : tfld Tryz.prog 42 7 = some (55, 1) := by kernel_rfl
theorem tf_42_8 : tfld Tryz.prog 42 8 = some (56, 2) := by kernel_rfl
theorem tf_42_9 : tfld Tryz.prog 42 9 = some (58, 1) := by kernel_rfl
theorem tf_42_10 : tfld Tryz.prog 42 10 = some (59, 1) := by kernel_rfl
theorem tf_42_11 : tfld Tryz.prog 42 11 = some (60, 1) := by kernel_rfl
theorem tl_45 : tload Tryz.prog 45 = some (some 2) := by kernel_rfl
theorem ts_45 : tst Tryz.prog 45 = some 2 := by kernel_rfl
theorem tz_45 : tz Tryz.prog 45 = some [.int .i64 0, .int .i64 0] := by kernel_rfl
theorem tsz_45 : tsz Tryz.prog 45 = 2 := by kernel_rfl
theorem tag_45 : tagg Tryz.prog 45 = true := by kernel_rfl
theorem tb_45 : tbuild Tryz.prog 45 = some [.int .i64 0, .int .i64 0] := by kernel_rfl
theorem tf_45_0 : tfld Tryz.prog 45 0 = some (0, 1) := by kernel_rfl
theorem tf_45_1 : tfld Tryz.prog 45 1 = some (1, 1) := by kernel_rfl
theorem tl_46 : tload Tryz.prog 46 = some none := by kernel_rfl
theorem ts_46 : tst Tryz.prog 46 = some 1 := by kernel_rfl
theorem tz_46 : tz Tryz.prog 46 = some [.nil] := by kernel_rfl
theorem tsl_46 : tsl Tryz.prog 46 = some (133, 4) := by kernel_rfl
theorem tl_47 : tload Tryz.prog 47 = some none := by kernel_rfl
theorem ts_47 : tst Tryz.prog 47 = some 1 := by kernel_rfl
theorem tz_47 : tz Tryz.prog 47 = some [.nil] := by kernel_rfl
theorem tsl_47 : tsl Tryz.prog 47 = some (99, 10) := by kernel_rfl
theorem tl_48 : tload Tryz.prog 48 = some none := by kernel_rfl
theorem ts_48 : tst Tryz.prog 48 = some 1 := by kernel_rfl
theorem tz_48 : tz Tryz.prog 48 = some [.nil] := by kernel_rfl
theorem tsl_48 : tsl Tryz.prog 48 = some (135, 8) := by kernel_rfl
theorem tl_49 : tload Tryz.prog 49 = some (some 3) := by kernel_rfl
theorem ts_49 : tst Tryz.prog 49 = some 3 := by kernel_rfl
theorem tz_49 : tz Tryz.prog 49 = some [.int .i64 0, .int .i64 0, .int .i64 0] := by kernel_rfl
theorem tsz_49 : tsz Tryz.prog 49 = 3 := by kernel_rfl
theorem tag_49 : tagg Tryz.prog 49 = true := by kernel_rfl
theorem tb_49 : tbuild Tryz.prog 49 = some [.int .i64 0, .int .i64 0, .int .i64 0] := by kernel_rfl
theorem tf_49_0 : tfld Tryz.prog 49 0 = some (0, 1) := by kernel_rfl
theorem tf_49_1 : tfld Tryz.prog 49 1 = some (1, 1) := by kernel_rfl
theorem tf_49_2 : tfld Tryz.prog 49 2 = some (2, 1) := by kernel_rfl
theorem tl_50 : tload Tryz.prog 50 = some (some 4) := by kernel_rfl
theorem ts_50 : tst Tryz.prog 50 = some 4 := by kernel_rfl
theorem tz_50 : tz Tryz.prog 50 = some [.st [], .int .i64 0, .int .i64 0, .int .i64 0] := by kernel_rfl
theorem tsz_50 : tsz Tryz.prog 50 = 4 := by kernel_rfl
theorem tag_50 : tagg Tryz.prog 50 = true := by kernel_rfl
theorem tb_50 : tbuild Tryz.prog 50 = some [.st [], .int .i64 0, .int .i64 0, .int .i64 0] := by kernel_rfl
theorem tf_50_0 : tfld Tryz.prog 50 0 = some (0, 1) := by kernel_rfl
theorem tf_50_1 : tfld Tryz.prog 50 1 = some (1, 1) := by kernel_rfl
theorem tf_50_2 : tfld Tryz.prog 50 2 = some (2, 1) := by kernel_rfl
theorem tf_50_3 : tfld Tryz.prog 50 3 = some (3, 1) := by kernel_rfl
theorem tl_51 : tload Tryz.prog 51 = some none := by kernel_rfl
theorem ts_51 : tst Tryz.prog 51 = some 1 := by kernel_rfl
theorem tz_51 : tz Tryz.prog 51 = some [.nil] := by kernel_rfl
theorem tsl_51 : tsl Tryz.prog 51 = some (139, 2) := by kernel_rfl
theorem tl_52 : tload Tryz.prog 52 = some (some 3) := by kernel_rfl
theorem ts_52 : tst Tryz.prog 52 = some 3 := by kernel_rfl
theorem tz_52 : tz Tryz.prog 52 = some [.int .i64 0, .st [], .nil] := by kernel_rfl
theorem tsz_52 : tsz Tryz.prog 52 = 3 := by kernel_rfl
theorem tag_52 : tagg Tryz.prog 52 = true := by kernel_rfl
theorem tb_52 : tbuild Tryz.prog 52 = some [.int .i64 0, .st [], .nil] := by kernel_rfl
theorem tf_52_0 : tfld Tryz.prog 52 0 = some (0, 1) := by kernel_rfl
theorem tf_52_1 : tfld Tryz.prog 52 1 = some (1, 1) := by kernel_rfl
theorem tf_52_2 : tfld Tryz.prog 52 2 = some (2, 1) := by kernel_rfl
theorem tl_53 : tload Tryz.prog 53 = some (some 3) := by kernel_rfl
theorem ts_53 : tst Tryz.prog 53 = some 3 := by kernel_rfl
theorem tz_53 : tz Tryz.prog 53 = some [.int .i64 0, .st [], .nil] := by kernel_rfl
theorem tsz_53 : tsz Tryz.prog 53 = 3 := by kernel_rfl
theorem tag_53 : tagg Tryz.prog 53 = true := by kernel_rfl
theorem tb_53 : tbuild Tryz.prog 53 = some [.int .i64 0, .st [], .nil] := by kernel_rfl
theorem tf_53_0 : tfld Tryz.prog 53 0 = some (0, 1) := by kernel_rfl
theorem tf_53_1 : tfld Tryz.prog 53 1 = some (1, 1) := by kernel_rfl
theorem tf_53_2 : tfld Tryz.prog 53 2 = some (2, 1) := by kernel_rfl
theorem tl_54 : tload Tryz.prog 54 = some (some 25) := by kernel_rfl
theorem ts_54 : tst Tryz.prog 54 = some 25 := by kernel_rfl
theorem tz_54 : tz Tryz.prog 54 = some [.int .i64 0, .int .i64 0, .int .i64 0, .int .i64 0, .int .i64 0, .int .i64 0, .nil, .nil, .nil, .nil, .int .i64 0, .int .i64 0, .int .i64 0, .st [], .int .i64 0, .int .i64 0, .int .i64 0, .int .i64 0, .st [], .nil, .nil, .nil, .int .i64 0, .int .i64 0, .int .i64 0] := by kernel_rfl
theorem tsz_54 : tsz Tryz.prog 54 = 25 := by kernel_rfl
theorem tag_54 : tagg Tryz.prog 54 = true := by kernel_rfl
theorem tb_54 : tbuild Tryz.prog 54 = some [.int .i64 0, .int .i64 0, .int .i64 0, .int .i64 0, .int .i64 0, .int .i64 0, .nil, .nil, .nil, .nil, .int .i64 0, .int .i64 0, .int .i64 0, .st [], .int .i64 0, .int .i64 0, .int .i64 0, .int .i64 0, .st [], .nil, .nil, .nil, .int .i64 0, .int .i64 0, .int .i64 0] := by kernel_rfl
theorem tf_54_0 : tfld Tryz.prog 54 0 = some (0, 1) := by kernel_rfl
theorem tf_54_1 : tfld Tryz.prog 54 1 = some (1, 1) := by kernel_rfl
theorem tf_54_2 : tfld Tryz.prog 54 2 = some (2, 1) := by kernel_rfl
theorem tf_54_3 : tfld Tryz.prog 54 3 = some (3, 1) := by kernel_rfl
theorem tf_54_4 : tfld Tryz.prog 54 4 = some (4, 2) := by kernel_rfl
theorem tf_54_5 : tfld Tryz.prog 54 5 = some (6, 1) := by kernel_rfl
theorem tf_54_6 : tfld Tryz.prog 54 6 = some (7, 1) := by kernel_rfl
theorem tf_54_7 : tfld Tryz.prog 54 7 = some (8, 1) := by kernel_rfl
theorem tf_54_8 : tfld Tryz.prog 54 8 = some (9, 1) := by kernel_rfl
theorem tf_54_9 : tfld Tryz.prog 54 9 = some (10, 3) := by kernel_rfl
theorem tf_54_10 : tfld Tryz.prog 54 10 = some (13, 4) := by kernel_rfl
theorem tf_54_11 : tfld Tryz.prog 54 11 = some (17, 3) := by kernel_rfl
theorem tf_54_12 : tfld Tryz.prog 54 12 = some (20, 1) := by kernel_rfl
theorem tf_54_13 : tfld Tryz.prog 54 13 = some (21, 1) := by kernel_rfl
theorem tf_54_14 : tfld Tryz.prog 54 14 = some (22, 1) := by kernel_rfl
theorem tf_54_15 : tfld Tryz.prog 54 15 = some (23, 1) := by kernel_rfl
theorem tf_54_16 : tfld Tryz.prog 54 16 = some (24, 1) := by kernel_rfl
theorem tl_55 : tload Tryz.prog 55 = some (some 25) := by kernel_rfl
theorem ts_55 : tst Tryz.prog 55 = some 25 := by kernel_rfl
theorem tz_55 : tz Tryz.prog 55 = some [.int .i64 0, .int .i64 0, .int .i64 0, .int .i64 0, .int .i64 0, .int .i64 0, .nil, .nil, .nil, .nil, .int .i64 0, .int .i64 0, .int .i64 0, .st [], .int .i64 0, .int .i64 0, .int .i64 0, .int .i64 0, .st [], .nil, .nil, .nil, .int .i64 0, .int .i64 0, .int .i64 0] := by kernel_rfl
theorem tsz_55 : tsz Tryz.prog 55 = 25 := by kernel_rfl
theorem tag_55 : tagg Tryz.prog 55 = true := by kernel_rfl
theorem tb_55 : tbuild Tryz.prog 55 = some [.int .i64 0, .int .i64 0, .int .i64 0, .int .i64 0, .int .i64 0, .int .i64 0, .nil, .nil, .nil, .nil, .int .i64 0, .int .i64 0, .int .i64 0, .st [], .int .i64 0, .int .i64 0, .int .i64 0, .int .i64 0, .st [], .nil, .nil, .nil, .int .i64 0, .int .i64 0, .int .i64 0] := by kernel_rfl
theorem tf_55_0 : tfld Tryz.prog 55 0 = some (0, 1) := by kernel_rfl
theorem tf_55_1 : tfld Tryz.prog 55 1 = some (1, 1) := by kernel_rfl
theorem tf_55_2 : tfld Tryz.prog 55 2 = some (2, 1) := by kernel_rfl
theorem tf_55_3 : tfld Tryz.prog 55 3 = some (3, 1) := by kernel_rfl
theorem tf_55_4 : tfld Tryz.prog 55 4 = some (4, 2) := by kernel_rfl
theorem tf_55_5 : tfld Tryz.prog 55 5 = some (6, 1) := by kernel_rfl
theorem tf_55_6 : tfld Tryz.prog 55 6 = some (7, 1) := by kernel_rfl
theorem tf_55_7 : tfld Tryz.prog 55 7 = some (8, 1) := by kernel_rfl
theorem tf_55_8 : tfld Tryz.prog 55 8 = some (9, 1) := by kernel_rfl
theorem tf_55_9 : tfld Tryz.prog 55 9 = some (10, 3) := by kernel_rfl
theorem tf_55_10 : tfld Tryz.prog 55 10 = some (13, 4) := by kernel_rfl
theorem tf_55_11 : tfld Tryz.prog 55 11 = some (17, 3) := by kernel_rfl
theorem tf_55_12 : tfld Tryz.prog 55 12 = some (20, 1) := by kernel_rfl
theorem tf_55_13 : tfld Tryz.prog 55 13 = some (21, 1) := by kernel_rfl
theorem tf_55_14 : tfld Tryz.prog 55 14 = some (22, 1) := by kernel_rfl
theorem tf_55_15 : tfld Tryz.prog 55 15 = some (23, 1) := by kernel_rfl
theorem tf_55_16 : tfld Tryz.prog 55 16 = some (24, 1) := by kernel_rfl
theorem tl_56 : tload Tryz.prog 56 = some none := by kernel_rfl
theorem ts_56 : tst Tryz.prog 56 = some 1 := by kernel_rfl
theorem tz_56 : tz Tryz.prog 56 = some [.nil] := by kernel_rfl
theorem tsl_56 : tsl Tryz.prog 56 = some (116, 19) := by kernel_rfl
theorem tl_57 : tload Tryz.prog 57 = some none := by kernel_rfl
theorem ts_57 : tst Tryz.prog 57 = some 1 := by kernel_rfl
theorem tz_57 : tz Tryz.prog 57 = some [.nil] := by kernel_rfl
theorem tsl_57 : tsl Tryz.prog 57 = some (114, 5) := by kernel_rfl
theorem tl_58 : tload Tryz.prog 58 = some (some 2) := by kernel_rfl
theorem ts_58 : tst Tryz.prog 58 = some 2 := by kernel_rfl
theorem tz_58 : tz Tryz.prog 58 = some [.nil, .nil] := by kernel_rfl
theorem tsz_58 : tsz Tryz.prog 58 = 2 := by kernel_rfl
theorem tag_58 : tagg Tryz.prog 58 = true := by kernel_rfl
theorem tb_58 : tbuild Tryz.prog 58 = some [.nil, .nil] := by kernel_rfl
theorem tf_58_0 : tfld Tryz.prog 58 0 = some (0, 1) := by kernel_rfl
theorem tf_58_1 : tfld Tryz.prog 58 1 = some (1, 1) := by kernel_rfl
theorem tl_59 : tload Tryz.prog 59 = some (some 2) := by kernel_rfl
theorem ts_59 : tst Tryz.prog 59 = some 2 := by kernel_rfl
theorem tz_59 : tz Tryz.prog 59 = some [.nil, .nil] := by kernel_rfl
theorem tsz_59 : tsz Tryz.prog 59 = 2 := by kernel_rfl
theorem tag_59 : tagg Tryz.prog 59 = true := by kernel_rfl
theorem tb_59 : tbuild Tryz.prog 59 = some [.nil, .nil] := by kernel_rfl
theorem tf_59_0 : tfld Tryz.prog 59 0 = some (0, 1) := by kernel_rfl
theorem tf_59_1 : tfld Tryz.prog 59 1 = some (1, 1) := by kernel_rfl
theorem tl_60 : tload Tryz.prog 60 = some (some 61) := by kernel_rfl
theorem ts_60 : tst Tryz.prog 60 = some 61 := by kernel_rfl
theorem tz_60 : tz Tryz.prog 60 = some [.int .i64 0, .int .i64 0, .int .i64 0, .int .i64 0, .int .i64 0, .int .i64 0, .nil, .nil, .nil, .nil, .int .i64 0, .int .i64 0, .int .i64 0, .st [], .int .i64 0, .int .i64 0, .int .i64 0, .int .i64 0, .st [], .nil, .nil, .nil, .int .i64 0, .int .i64 0, .int .i64 0, .int .i64 0, .int .i64 0, .int .i64 0, .int .i64 0, .int .i64 0, .int .i64 0, .nil, .nil, .nil, .nil, .int .i64 0, .int .i64 0, .int .i64 0, .st [], .int .i64 0, .int .i64 0, .int .i64 0, .int .i64 0, .st [], .nil, .nil, .nil, .int .i64 0, .int .i64 0, .int .i64 0, .nil, .nil, .st [], .st [], .st [], .st [], .nil, .nil, .nil, .nil, .nil] := by kernel_rfl
theorem tsz_60 : tsz Tryz.prog 60 = 61 := by kernel_rfl
theorem tag_60 : tagg Tryz.prog 60 = true := by kernel_rfl
theorem tb_60 : tbuild Tryz.prog 60 = some [.int .i64 0, .int .i64 0, .int .i64 0, .int .i64 0, .int .i64 0, .int .i64 0, .nil, .nil, .nil, .nil, .int .i64 0, .int .i64 0, .int .i64 0, .st [], .int .i64 0, .int .i64 0, .int .i64 0, .int .i64 0, .st [], .nil, .nil, .nil, .int .i64 0, .int .i64 0, .int .i64 0, .int .i64 0, .int .i64 0, .int .i64 0, .int .i64 0, .int .i64 0, .int .i64 0, .nil, .nil, .nil, .nil, .int .i64 0, .int .i64 0, .int .i64 0, .st [], .int .i64 0, .int .i64 0, .int .i64 0, .int .i64 0, .st [], .nil, .nil, .nil, .int .i64 0, .int .i64 0, .int .i64 0, .nil, .nil, .st [], .st [], .st [], .st [], .nil, .nil, .nil, .nil, .nil] := by kernel_rfl
theorem tf_60_0 : tfld Tryz.prog 60 0 = some (0, 25) := by kernel_rfl
theorem tf_60_1 : tfld Tryz.prog 60 1 = some (25, 25) := by kernel_rfl
theorem tf_60_2 : tfld Tryz.prog 60 2 = some (50, 1) := by kernel_rfl
theorem tf_60_3 : tfld Tryz.prog 60 3 = some (51, 1) := by kernel_rfl
theorem tf_60_4 : tfld Tryz.prog 60 4 = some (52, 1) := by kernel_rfl
theorem tf_60_5 : tfld Tryz.prog 60 5 = some (53, 1) := by kernel_rfl
theorem tf_60_6 : tfld Tryz.prog 60 6 = some (54, 1) := by kernel_rfl
theorem tf_60_7 : tfld Tryz.prog 60 7 = some (55, 1) := by kernel_rfl
theorem tf_60_8 : tfld Tryz.prog 60 8 = some (56, 2) := by kernel_rfl
theorem tf_60_9 : tfld Tryz.prog 60 9 = some (58, 1) := by kernel_rfl
theorem tf_60_10 : tfld Tryz.prog 60 10 = some (59, 1) := by kernel_rfl
theorem tf_60_11 : tfld Tryz.prog 60 11 = some (60, 1) := by kernel_rfl
theorem tl_61 : tload Tryz.prog 61 = some (some 61) := by kernel_rfl
theorem ts_61 : tst Tryz.prog 61 = some 61 := by kernel_rfl
theorem tz_61 : tz Tryz.prog 61 = some [.int .i64 0, .int .i64 0, .int .i64 0, .int .i64 0, .int .i64 0, .int .i64 0, .nil, .nil, .nil, .nil, .int .i64 0, .int .i64 0, .int .i64 0, .st [], .int .i64 0, .int .i64 0, .int .i64 0, .int .i64 0, .st [], .nil, .nil, .nil, .int .i64 0, .int .i64 0, .int .i64 0, .int .i64 0, .int .i64 0, .int .i64 0, .int .i64 0, .int .i64 0, .int .i64 0, .nil, .nil, .nil, .nil, .int .i64 0, .int .i64 0, .int .i64 0, .st [], .int .i64 0, .int .i64 0, .int .i64 0, .int .i64 0, .st [], .nil, .nil, .nil, .int .i64 0, .int .i64 0, .int .i64 0, .nil, .nil, .st [], .st [], .st [], .st [], .nil, .nil, .nil, .nil, .nil] := by kernel_rfl
theorem tsz_61 : tsz Tryz.prog 61 = 61 := by kernel_rfl
theorem tag_61 : tagg Tryz.prog 61 = true := by kernel_rfl
theorem tb_61 : tbuild Tryz.prog 61 = some [.int .i64 0, .int .i64 0, .int .i64 0, .int .i64 0, .int .i64 0, .int .i64 0, .nil, .nil, .nil, .nil, .int .i64 0, .int .i64 0, .int .i64 0, .st [], .int .i64 0, .int .i64 0, .int .i64 0, .int .i64 0, .st [], .nil, .nil, .nil, .int .i64 0, .int .i64 0, .int .i64 0, .int .i64 0, .int .i64 0, .int .i64 0, .int .i64 0, .int .i64 0, .int .i64 0, .nil, .nil, .nil, .nil, .int .i64 0, .int .i64 0, .int .i64 0, .st [], .int .i64 0, .int .i64 0, .int .i64 0, .int .i64 0, .st [], .nil, .nil, .nil, .int .i64 0, .int .i64 0, .int .i64 0, .nil, .nil, .st [], .st [], .st [], .st [], .nil, .nil, .nil, .nil, .nil] := by kernel_rfl
theorem tf_61_0 : tfld Tryz.prog 61 0 = some (0, 25) := by kernel_rfl
theorem tf_61_1 : tfld Tryz.prog 61 1 = some (25, 25) := by kernel_rfl
theorem tf_61_2 : tfld Tryz.prog 61 2 = some (50, 1) := by kernel_rfl
theorem tf_61_3 : tfld Tryz.prog 61 3 = some (51, 1) := by kernel_rfl
theorem tf_61_4 : tfld Tryz.prog 61 4 = some (52, 1) := by kernel_rfl
theorem tf_61_5 : tfld Tryz.prog 61 5 = some (53, 1) := by kernel_rfl
theorem tf_61_6 : tfld Tryz.prog 61 6 = some (54, 1) := by kernel_rfl
theorem tf_61_7 : tfld Tryz.prog 61 7 = some (55, 1) := by kernel_rfl
theorem tf_61_8 : tfld Tryz.prog 61 8 = some (56, 2) := by kernel_rfl
theorem tf_61_9 : tfld Tryz.prog 61 9 = some (58, 1) := by kernel_rfl
theorem tf_61_10 : tfld Tryz.prog 61 10 = some (59, 1) := by kernel_rfl
theorem tf_61_11 : tfld Tryz.prog 61 11 = some (60, 1) := by kernel_rfl
theorem tl_84 : tload Tryz.prog 84 = some (some 5) := by kernel_rfl
theorem ts_84 : tst Tryz.prog 84 = some 5 := by kernel_rfl
theorem tz_84 : tz Tryz.prog 84 = some [.int .i64 0, .int .i64 0, .int .i64 0, .int .i64 0, .int .i64 0] := by kernel_rfl
theorem tsz_84 : tsz Tryz.prog 84 = 5 := by kernel_rfl
theorem tag_84 : tagg Tryz.prog 84 = true := by kernel_rfl
theorem tb_84 : tbuild Tryz.prog 84 = some [.int .i64 0, .int .i64 0, .int .i64 0, .int .i64 0, .int .i64 0] := by kernel_rfl
theorem tf_84_0 : tfld Tryz.prog 84 0 = some (0, 1) := by kernel_rfl
theorem tf_84_1 : tfld Tryz.prog 84 1 = some (1, 1) := by kernel_rfl
theorem tf_84_2 : tfld Tryz.prog 84 2 = some (2, 1) := by kernel_rfl
theorem tf_84_3 : tfld Tryz.prog 84 3 = some (3, 1) := by kernel_rfl
theorem tf_84_4 : tfld Tryz.prog 84 4 = some (4, 1) := by kernel_rfl
theorem tl_85 : tload Tryz.prog 85 = some (some 5) := by kernel_rfl
theorem ts_85 : tst Tryz.prog 85 = some 5 := by kernel_rfl
theorem tz_85 : tz Tryz.prog 85 = some [.int .i64 0, .int .i64 0, .int .i64 0, .int .i64 0, .int .i64 0] := by kernel_rfl
theorem tsz_85 : tsz Tryz.prog 85 = 5 := by kernel_rfl
theorem tag_85 : tagg Tryz.prog 85 = true := by kernel_rfl
theorem tb_85 : tbuild Tryz.prog 85 = some [.int .i64 0, .int .i64 0, .int .i64 0, .int .i64 0, .int .i64 0] := by kernel_rfl
theorem tf_85_0 : tfld Tryz.prog 85 0 = some (0, 1) := by kernel_rfl
theorem tf_85_1 : tfld Tryz.prog 85 1 = some (1, 1) := by kernel_rfl
theorem tf_85_2 : tfld Tryz.prog 85 2 = some (2, 1) := by kernel_rfl
theorem tf_85_3 : tfld Tryz.prog 85 3 = some (3, 1) := by kernel_rfl
theorem tf_85_4 : tfld Tryz.prog 85 4 = some (4, 1) := by kernel_rfl
theorem tl_86 : tload Tryz.prog 86 = some (some 19) := by kernel_rfl
theorem ts_86 : tst Tryz.prog 86 = some 19 := by kernel_rfl
theorem tz_86 : tz Tryz.prog 86 = some [.int .i64 0, .int .i64 0, .int .i64 0, .int .i64 0, .int .i64 0, .int .i64 0, .int .i64 0, .int .i64 0, .int .i64 0, .int .i64 0, .int .i64 0, .int .i64 0, .int .i64 0, .int .i64 0, .int .i64 0, .int .i64 0, .bo false, .int .i64 0, .st []] := by kernel_rfl
theorem tsz_86 : tsz Tryz.prog 86 = 19 := by kernel_rfl
theorem tag_86 : tagg Tryz.prog 86 = true := by kernel_rfl
theorem tb_86 : tbuild Tryz.prog 86 = some [.int .i64 0, .int .i64 0, .int .i64 0, .int .i64 0, .int .i64 0, .int .i64 0, .int .i64 0, .int .i64 0, .int .i64 0, .int .i64 0, .int .i64 0, .int .i64 0, .int .i64 0, .int .i64 0, .int .i64 0, .int .i64 0, .bo false, .int .i64 0, .st []] := by kernel_rfl
theorem tf_86_0 : tfld Tryz.prog 86 0 = some (0, 1) := by kernel_rfl
theorem tf_86_1 : tfld Tryz.prog 86 1 = some (1, 1) := by kernel_rfl
theorem tf_86_2 : tfld Tryz.prog 86 2 = some (2, 1) := by kernel_rfl
theorem tf_86_3 : tfld Tryz.prog 86 3 = some (3, 1) := by kernel_rfl
theorem tf_86_4 : tfld Tryz.prog 86 4 = some (4, 1) := by kernel_rfl
theorem tf_86_5 : tfld Tryz.prog 86 5 = some (5, 1) := by kernel_rfl
theorem tf_86_6 : tfld Tryz.prog 86 6 = some (6, 1) := by kernel_rfl
theorem tf_86_7 : tfld Tryz.prog 86 7 = some (7, 1) := by kernel_rfl
theorem tf_86_8 : tfld Tryz.prog 86 8 = some (8, 1) := by kernel_rfl
theorem tf_86_9 : tfld Tryz.prog 86 9 = some (9, 5) := by kernel_rfl
theorem tf_86_10 : tfld Tryz.prog 86 10 = some (14, 1) := by kernel_rfl
theorem tf_86_11 : tfld Tryz.prog 86 11 = some (15, 1) := by kernel_rfl
theorem tf_86_12 : tfld Tryz.prog 86 12 = some (16, 1) := by kernel_rfl
theorem tf_86_13 : tfld Tryz.prog 86 13 = some (17, 1) := by kernel_rfl
theorem tf_86_14 : tfld Tryz.prog 86 14 = some (18, 1) := by kernel_rfl
theorem tl_87 : tload Tryz.prog 87 = some (some 19) := by kernel_rfl
theorem ts_87 : tst Tryz.prog 87 = some 19 := by kernel_rfl
theorem tz_87 : tz Tryz.prog 87 = some [.int .i64 0, .int .i64 0, .int .i64 0, .int .i64 0, .int .i64 0, .int .i64 0, .int .i64 0, .int .i64 0, .int .i64 0, .int .i64 0, .int .i64 0, .int .i64 0, .int .i64 0, .int .i64 0, .int .i64 0, .int .i64 0, .bo false, .int .i64 0, .st []] := by kernel_rfl
theorem tsz_87 : tsz Tryz.prog 87 = 19 := by kernel_rfl
theorem tag_87 : tagg Tryz.prog 87 = true := by kernel_rfl
theorem tb_87 : tbuild Tryz.prog 87 = some [.int .i64 0, .int .i64 0, .int .i64 0, .int .i64 0, .int .i64 0, .int .i64 0, .int .i64 0, .int .i64 0, .int .i64 0, .int .i64 0, .int .i64 0, .int .i64 0, .int .i64 0, .int .i64 0, .int .i64 0, .int .i64 0, .bo false, .int .i64 0, .st []] := by kernel_rfl
theorem tf_87_0 : tfld Tryz.prog 87 0 = some (0, 1) := by kernel_rfl
theorem tf_87_1 : tfld Tryz.prog 87 1 = some (1, 1) := by kernel_rfl
theorem tf_87_2 : tfld Tryz.prog 87 2 = some (2, 1) := by kernel_rfl
theorem tf_87_3 : tfld Tryz.prog 87 3 = some (3, 1) := by kernel_rfl
theorem tf_87_4 : tfld Tryz.prog 87 4 = some (4, 1) := by kernel_rfl
theorem tf_87_5 : tfld Tryz.prog 87 5 = some (5, 1) := by kernel_rfl
theorem tf_87_6 : tfld Tryz.prog 87 6 = some (6, 1) := by kernel_rfl
theorem tf_87_7 : tfld Tryz.prog 87 7 = some (7, 1) := by kernel_rfl
theorem tf_87_8 : tfld Tryz.prog 87 8 = some (8, 1) := by kernel_rfl
theorem tf_87_9 : tfld Tryz.prog 87 9 = some (9, 5) := by kernel_rfl
theorem tf_87_10 : tfld Tryz.prog 87 10 = some (14, 1) := by kernel_rfl
theorem tf_87_11 : tfld Tryz.prog 87 11 = some (15, 1) := by kernel_rfl
theorem tf_87_12 : tfld Tryz.prog 87 12 = some (16, 1) := by kernel_rfl
theorem tf_87_13 : tfld Tryz.prog 87 13 = some (17, 1) := by kernel_rfl
theorem tf_87_14 : tfld Tryz.prog 87 14 = some (18, 1) := by kernel_rfl
theorem tl_96 : tload Tryz.prog 96 = some (some 3) := by kernel_rfl
theorem ts_96 : tst Tryz.prog 96 = some 3 := by kernel_rfl
theorem tz_96 : tz Tryz.prog 96 = some [.int .i64 0, .int .i64 0, .int .i64 0] := by kernel_rfl
theorem tsz_96 : tsz Tryz.prog 96 = 3 := by kernel_rfl
theorem tag_96 : tagg Tryz.prog 96 = true := by kernel_rfl
theorem tb_96 : tbuild Tryz.prog 96 = some [.int .i64 0, .int .i64 0, .int .i64 0] := by kernel_rfl
theorem tf_96_0 : tfld Tryz.prog 96 0 = some (0, 1) := by kernel_rfl
theorem tf_96_1 : tfld Tryz.prog 96 1 = some (1, 1) := by kernel_rfl
theorem tf_96_2 : tfld Tryz.prog 96 2 = some (2, 1) := by kernel_rfl
theorem tl_97 : tload Tryz.prog 97 = some (some 3) := by kernel_rfl
theorem ts_97 : tst Tryz.prog 97 = some 3 := by kernel_rfl
theorem tz_97 : tz Tryz.prog 97 = some [.int .i64 0, .int .i64 0, .int .i64 0] := by kernel_rfl
theorem tsz_97 : tsz Tryz.prog 97 = 3 := by kernel_rfl
theorem tag_97 : tagg Tryz.prog 97 = true := by kernel_rfl
theorem tb_97 : tbuild Tryz.prog 97 = some [.int .i64 0, .int .i64 0, .int .i64 0] := by kernel_rfl
theorem tf_97_0 : tfld Tryz.prog 97 0 = some (0, 1) := by kernel_rfl
theorem tf_97_1 : tfld Tryz.prog 97 1 = some (1, 1) := by kernel_rfl
theorem tf_97_2 : tfld Tryz.prog 97 2 = some (2, 1) := by kernel_rfl
theorem tl_98 : tload Tryz.prog 98 = some (some 10) := by kernel_rfl
theorem ts_98 : tst Tryz.prog 98 = some 10 := by kernel_rfl
theorem tz_98 : tz Tryz.prog 98 = some [.int .i64 0, .int .i64 0, .int .i64 0, .int .i64 0, .bo false, .int .i64 0, .int .i64 0, .int .i64 0, .int .i64 0, .int .i64 0] := by kernel_rfl
theorem tsz_98 : tsz Tryz.prog 98 = 10 := by kernel_rfl
theorem tag_98 : tagg Tryz.prog 98 = true := by kernel_rfl
theorem tb_98 : tbuild Tryz.prog 98 = some [.int .i64 0, .int .i64 0, .int .i64 0, .int .i64 0, .bo false, .int .i64 0, .int .i64 0, .int .i64 0, .int .i64 0, .int .i64 0] := by kernel_rfl
theorem tf_98_0 : tfld Tryz.prog 98 0 = some (0, 3) := by kernel_rfl
theorem tf_98_1 : tfld Tryz.prog 98 1 = some (3, 1) := by kernel_rfl
theorem tf_98_2 : tfld Tryz.prog 98 2 = some (4, 1) := by kernel_rfl
theorem tf_98_3 : tfld Tryz.prog 98 3 = some (5, 1) := by kernel_rfl
theorem tf_98_4 : tfld Tryz.prog 98 4 = some (6, 1) := by kernel_rfl
theorem tf_98_5 : tfld Tryz.prog 98 5 = some (7, 1) := by kernel_rfl
theorem tf_98_6 : tfld Tryz.prog 98 6 = some (8, 1) := by kernel_rfl
theorem tf_98_7 : tfld Tryz.prog 98 7 = some (9, 1) := by kernel_rfl
theorem tl_99 : tload Tryz.prog 99 = some (some 10) := by kernel_rfl
theorem ts_99 : tst Tryz.prog 99 = some 10 := by kernel_rfl
theorem tz_99 : tz Tryz.prog 99 = some [.int .i64 0, .int .i64 0, .int .i64 0, .int .i64 0, .bo false, .int .i64 0, .int .i64 0, .int .i64 0, .int .i64 0, .int .i64 0] := by kernel_rfl
theorem tsz_99 : tsz Tryz.prog 99 = 10 := by kernel_rfl
theorem tag_99 : tagg Tryz.prog 99 = true := by kernel_rfl
theorem tb_99 : tbuild Tryz.prog 99 = some [.int .i64 0, .int .i64 0, .int .i64 0, .int .i64 0, .bo false, .int .i64 0, .int .i64 0, .int .i64 0, .int .i64 0, .int .i64 0] := by kernel_rfl
theorem tf_99_0 : tfld Tryz.prog 99 0 = some (0, 3) := by kernel_rfl
theorem tf_99_1 : tfld Tryz.prog 99 1 = some (3, 1) := by kernel_rfl
theorem tf_99_2 : tfld Tryz.prog 99 2 = some (4, 1) := by kernel_rfl
theorem tf_99_3 : tfld Tryz.prog 99 3 = some (5, 1) := by kernel_rfl
theorem tf_99_4 : tfld Tryz.prog 99 4 = some (6, 1) := by kernel_rfl
theorem tf_99_5 : tfld Tryz.prog 99 5 = some (7, 1) := by kernel_rfl
theorem tf_99_6 : tfld Tryz.prog 99 6 = some (8, 1) := by kernel_rfl
theorem tf_99_7 : tfld Tryz.prog 99 7 = some (9, 1) := by kernel_rfl
theorem tl_114 : tload Tryz.prog 114 = some (some 5) := by kernel_rfl
theorem ts_114 : tst Tryz.prog 114 = some 5 := by kernel_rfl
theorem tz_114 : tz Tryz.prog 114 = some [.int .i64 0, .int .i64 0, .int .i64 0, .int .i64 0, .int .i64 0] := by kernel_rfl
theorem tsz_114 : tsz Tryz.prog 114 = 5 := by kernel_rfl
theorem tag_114 : tagg Tryz.prog 114 = true := by kernel_rfl
theorem tb_114 : tbuild Tryz.prog 114 = some [.int .i64 0, .int .i64 0, .int .i64 0, .int .i64 0, .int .i64 0] := by kernel_rfl
theorem tf_114_0 : tfld Tryz.prog 114 0 = some (0, 1) := by kernel_rfl
theorem tf_114_1 : tfld Tryz.prog 114 1 = some (1, 1) := by kernel_rfl
theorem tf_114_2 : tfld Tryz.prog 114 2 = some (2, 1) := by kernel_rfl
theorem tf_114_3 : tfld Tryz.prog 114 3 = some (3, 1) := by kernel_rfl
theorem tf_114_4 : tfld Tryz.prog 114 4 = some (4, 1) := by kernel_rfl
theorem tl_115 : tload Tryz.prog 115 = some (some 19) := by kernel_rfl
theorem ts_115 : tst Tryz.prog 115 = some 19 := by kernel_rfl
theorem tz_115 : tz Tryz.prog 115 = some [.int .i64 0, .int .i64 0, .int .i64 0, .int .i64 0, .int .i64 0, .int .i64 0, .int .i64 0, .int .i64 0, .int .i64 0, .int .i64 0, .int .i64 0, .int .i64 0, .int .i64 0, .int .i64 0, .int .i64 0, .int .i64 0, .bo false, .int .i64 0, .st []] := by kernel_rfl
theorem tsz_115 : tsz Tryz.prog 115 = 19 := by kernel_rfl
theorem tag_115 : tagg Tryz.prog 115 = true := by kernel_rfl
theorem tb_115 : tbuild Tryz.prog 115 = some [.int .i64 0, .int .i64 0, .int .i64 0, .int .i64 0, .int .i64 0, .int .i64 0, .int .i64 0, .int .i64 0, .int .i64 0, .int .i64 0, .int .i64 0, .int .i64 0, .int .i64 0, .int .i64 0, .int .i64 0, .int .i64 0, .bo false, .int .i64 0, .st []] := by kernel_rfl
theorem tf_115_0 : tfld Tryz.prog 115 0 = some (0, 1) := by kernel_rfl
theorem tf_115_1 : tfld Tryz.prog 115 1 = some (1, 1) := by kernel_rfl
theorem tf_115_2 : tfld Tryz.prog 115 2 = some (2, 1) := by kernel_rfl
theorem tf_115_3 : tfld Tryz.prog 115 3 = some (3, 1) := by kernel_rfl
theorem tf_115_4 : tfld Tryz.prog 115 4 = some (4, 1) := by kernel_rfl
theorem tf_115_5 : tfld Tryz.prog 115 5 = some (5, 1) := by kernel_rfl
theorem tf_115_6 : tfld Tryz.prog 115 6 = some (6, 1) := by kernel_rfl
theorem tf_115_7 : tfld Tryz.prog 115 7 = some (7, 1) := by kernel_rfl
theorem tf_115_8 : tfld Tryz.prog 115 8 = some (8, 1) := by kernel_rfl
theorem tf_115_9 : tfld Tryz.prog 115 9 = some (9, 5) := by kernel_rfl
theorem tf_115_10 : tfld Tryz.prog 115 10 = some (14, 1) := by kernel_rfl
theorem tf_115_11 : tfld Tryz.prog 115 11 = some (15, 1) := by kernel_rfl
theorem tf_115_12 : tfld Tryz.prog 115 12 = some (16, 1) := by kernel_rfl
theorem tf_115_13 : tfld Tryz.prog 115 13 = some (17, 1) := by kernel_rfl
theorem tf_115_14 : tfld Tryz.prog 115 14 = some (18, 1) := by kernel_rfl
theorem tl_116 : tload Tryz.prog 116 = some (some 19) := by kernel_rfl
theorem ts_116 : tst Tryz.prog 116 = some 19 := by kernel_rfl
theorem tz_116 : tz Tryz.prog 116 = some [.int .i64 0, .int .i64 0, .int .i64 0, .int .i64 0, .int .i64 0, .int .i64 0, .int .i64 0, .int .i64 0, .int .i64 0, .int .i64 0, .int .i64 0, .int .i64 0, .int .i64 0, .int .i64 0, .int .i64 0, .int .i64 0, .bo false, .int .i64 0, .st []] := by kernel_rfl
theorem tsz_116 : tsz Tryz.prog 116 = 19 := by kernel_rfl
theorem tag_116 : tagg Tryz.prog 116 = true := by kernel_rfl
theorem tb_116 : tbuild Tryz.prog 116 = some [.int .i64 0, .int .i64 0, .int .i64 0, .int .i64 0, .int .i64 0, .int .i64 0, .int .i64 0, .int .i64 0, .int .i64 0, .int .i64 0, .int .i64 0, .int .i64 0, .int .i64 0, .int .i64 0, .int .i64 0, .int .i64 0, .bo false, .int .i64 0, .st []] := by kernel_rfl
theorem tf_116_0 : tfld Tryz.prog 116 0 = some (0, 1) := by kernel_rfl
theorem tf_116_1 : tfld Tryz.prog 116 1 = some (1, 1) := by kernel_rfl
theorem tf_116_2 : tfld Tryz.prog 116 2 = some (2, 1) := by kernel_rfl
theorem tf_116_3 : tfld Tryz.prog 116 3 = some (3, 1) := by kernel_rfl
theorem tf_116_4 : tfld Tryz.prog 116 4 = some (4, 1) := by kernel_rfl
theorem tf_116_5 : tfld Tryz.prog 116 5 = some (5, 1) := by kernel_rfl
theorem tf_116_6 : tfld Tryz.prog 116 6 = some (6, 1) := by kernel_rfl
theorem tf_116_7 : tfld Tryz.prog 116 7 = some (7, 1) := by kernel_rfl
theorem tf_116_8 : tfld Tryz.prog 116 8 = some (8, 1) := by kernel_rfl
theorem tf_116_9 : tfld Tryz.prog 116 9 = some (9, 5) := by kernel_rfl
theorem tf_116_10 : tfld Tryz.prog 116 10 = some (14, 1) := by kernel_rfl
theorem tf_116_11 : tfld Tryz.prog 116 11 = some (15, 1) := by kernel_rfl
theorem tf_116_12 : tfld Tryz.prog 116 12 = some (16, 1) := by kernel_rfl
theorem tf_116_13 : tfld Tryz.prog 116 13 = some (17, 1) := by kernel_rfl
theorem tf_116_14 : tfld Tryz.prog 116 14 = some (18, 1) := by kernel_rfl
theorem tl_132 : tload Tryz.prog 132 = some (some 4) := by kernel_rfl
theorem ts_132 : tst Tryz.prog 132 = some 4 := by kernel_rfl
theorem tz_132 : tz Tryz.prog 132 = some [.int .i64 0, .int .i64 0, .bo false, .bo false] := by kernel_rfl
theorem tsz_132 : tsz Tryz.prog 132 = 4 := by kernel_rfl
theorem tag_132 : tagg Tryz.prog 132 = true := by kernel_rfl
theorem tb_132 : tbuild Tryz.prog 132 = some [.int .i64 0, .int .i64 0, .bo false, .bo false] := by kernel_rfl
theorem tf_132_0 : tfld Tryz.prog 132 0 = some (0, 1) := by kernel_rfl
theorem tf_132_1 : tfld Tryz.prog 132 1 = some (1, 1) := by kernel_rfl
theorem tf_132_2 : tfld Tryz.prog 132 2 = some (2, 1) := by kernel_rfl
theorem tf_132_3 : tfld Tryz.prog 132 3 = some (3, 1) := by kernel_rfl
theorem tl_133 : tload Tryz.prog 133 = some (some 4) := by kernel_rfl
theorem ts_133 : tst Tryz.prog 133 = some 4 := by kernel_rfl
theorem tz_133 : tz Tryz.prog 133 = some [.int .i64 0, .int .i64 0, .bo false, .bo false] := by kernel_rfl
theorem tsz_133 : tsz Tryz.prog 133 = 4 := by kernel_rfl
theorem tag_133 : tagg Tryz.prog 133 = true := by kernel_rfl
theorem tb_133 : tbuild Tryz.prog 133 = some [.int .i64 0, .int .i64 0, .bo false, .bo false] := by kernel_rfl
theorem tf_133_0 : tfld Tryz.prog 133 0 = some (0, 1) := by kernel_rfl
theorem tf_133_1 : tfld Tryz.prog 133 1 = some (1, 1) := by kernel_rfl
theorem tf_133_2 : tfld Tryz.prog 133 2 = some (2, 1) := by kernel_rfl
theorem tf_133_3 : tfld Tryz.prog 133 3 = some (3, 1) := by kernel_rfl
theorem tl_134 : tload Tryz.prog 134 = some (some 8) := by kernel_rfl
theorem ts_134 : tst Tryz.prog 134 = some 8 := by kernel_rfl
theorem tz_134 : tz Tryz.prog 134 = some [.int .i64 0, .int .i64 0, .int .i64 0, .int .i64 0, .int .i64 0, .int .i64 0, .int .i64 0, .int .i64 0] := by kernel_rfl
theorem tsz_134 : tsz Tryz.prog 134 = 8 := by kernel_rfl
theorem tag_134 : tagg Tryz.prog 134 = true := by kernel_rfl
theorem tb_134 : tbuild Tryz.prog 134 = some [.int .i64 0, .int .i64 0, .int .i64 0, .int .i64 0, .int .i64 0, .int .i64 0, .int .i64 0, .int .i64 0] := by kernel_rfl
theorem tf_134_0 : tfld Tryz.prog 134 0 = some (0, 3) := by kernel_rfl
theorem tf_134_1 : tfld Tryz.prog 134 1 = some (3, 1) := by kernel_rfl
theorem tf_134_2 : tfld Tryz.prog 134 2 = some (4, 1) := by kernel_rfl
theorem tf_134_3 : tfld Tryz.prog 134 3 = some (5, 1) := by kernel_rfl
theorem tf_134_4 : tfld Tryz.prog 134 4 = some (6, 1) := by kernel_rfl
theorem tf_134_5 : tfld Tryz.prog 134 5 = some (7, 1) := by kernel_rfl
theorem tl_135 : tload Tryz.prog 135 = some (some 8) := by kernel_rfl
theorem ts_135 : tst Tryz.prog 135 = some 8 := by kernel_rfl
theorem tz_135 : tz Tryz.prog 135 = some [.int .i64 0, .int .i64 0, .int .i64 0, .int .i64 0, .int .i64 0, .int .i64 0, .int .i64 0, .int .i64 0] := by kernel_rfl
theorem tsz_135 : tsz Tryz.prog 135 = 8 := by kernel_rfl
theorem tag_135 : tagg Tryz.prog 135 = true := by kernel_rfl
theorem tb_135 : tbuild Tryz.prog 135 = some [.int .i64 0, .int .i64 0, .int .i64 0, .int .i64 0, .int .i64 0, .int .i64 0, .int .i64 0, .int .i64 0] := by kernel_rfl
theorem tf_135_0 : tfld Tryz.prog 135 0 = some (0, 3) := by kernel_rfl
theorem tf_135_1 : tfld Tryz.prog 135 1 = some (3, 1) := by kernel_rfl
theorem tf_135_2 : tfld Tryz.prog 135 2 = some (4, 1) := by kernel_rfl
theorem tf_135_3 : tfld Tryz.prog 135 3 = some (5, 1) := by kernel_rfl
theorem tf_135_4 : tfld Tryz.prog 135 4 = some (6, 1) := by kernel_rfl
theorem tf_135_5 : tfld Tryz.prog 135 5 = some (7, 1) := by kernel_rfl
theorem tl_138 : tload Tryz.prog 138 = some (some 2) := by kernel_rfl
theorem ts_138 : tst Tryz.prog 138 = some 2 := by kernel_rfl
theorem tz_138 : tz Tryz.prog 138 = some [.int .i64 0, .st []] := by kernel_rfl
theorem tsz_138 : tsz Tryz.prog 138 = 2 := by kernel_rfl
theorem tag_138 : tagg Tryz.prog 138 = true := by kernel_rfl
theorem tb_138 : tbuild Tryz.prog 138 = some [.int .i64 0, .st []] := by kernel_rfl
theorem tf_138_0 : tfld Tryz.prog 138 0 = some (0, 1) := by kernel_rfl
theorem tf_138_1 : tfld Tryz.prog 138 1 = some (1, 1) := by kernel_rfl
theorem tl_139 : tload Tryz.prog 139 = some (some 2) := by kernel_rfl
theorem ts_139 : tst Tryz.prog 139 = some 2 := by kernel_rfl
theorem tz_139 : tz Tryz.prog 139 = some [.int .i64 0, .st []] := by kernel_rfl
theorem tsz_139 : tsz Tryz.prog 139 = 2 := by kernel_rfl
theorem tag_139 : tagg Tryz.prog 139 = true := by kernel_rfl
theorem tb_139 : tbuild Tryz.prog 139 = some [.int .i64 0, .st []] := by kernel_rfl
theorem tf_139_0 : tfld Tryz.prog 139 0 = some (0, 1) := by kernel_rfl
theorem tf_139_1 : tfld Tryz.prog 139 1 = some (1, 1) := by kernel_rfl
theorem tl_144 : tload Tryz.prog 144 = some (some 4) := by kernel_rfl
theorem ts_144 : tst Tryz.prog 144 = some 4 := by kernel_rfl
theorem tz_144 : tz Tryz.prog 144 = some [.int .i64 0, .int .i64 0, .bo false, .bo false] := by kernel_rfl
theorem tsz_144 : tsz Tryz.prog 144 = 4 := by kernel_rfl
theorem tag_144 : tagg Tryz.prog 144 = true := by kernel_rfl
theorem tb_144 : tbuild Tryz.prog 144 = some [.int .i64 0, .int .i64 0, .bo false, .bo false] := by kernel_rfl
theorem tf_144_0 : tfld Tryz.prog 144 0 = some (0, 1) := by kernel_rfl
theorem tf_144_1 : tfld Tryz.prog 144 1 = some (1, 1) := by kernel_rfl
theorem tf_144_2 : tfld Tryz.prog 144 2 = some (2, 1) := by kernel_rfl
theorem tf_144_3 : tfld Tryz.prog 144 3 = some (3, 1) := by kernel_rfl
theorem tl_146 : tload Tryz.prog 146 = some (some 3) := by kernel_rfl
theorem ts_146 : tst Tryz.prog 146 = some 3 := by kernel_rfl
theorem tz_146 : tz Tryz.prog 146 = some [.int .i64 0, .int .i64 0, .int .i64 0] := by kernel_rfl
theorem tsz_146 : tsz Tryz.prog 146 = 3 := by kernel_rfl
theorem tag_146 : tagg Tryz.prog 146 = true := by kernel_rfl
theorem tb_146 : tbuild Tryz.prog 146 = some [.int .i64 0, .int .i64 0, .int .i64 0] := by kernel_rfl
theorem tf_146_0 : tfld Tryz.prog 146 0 = some (0, 1) := by kernel_rfl
theorem tf_146_1 : tfld Tryz.prog 146 1 = some (1, 1) := by kernel_rfl
theorem tf_146_2 : tfld Tryz.prog 146 2 = some (2, 1) := by kernel_rfl
theorem tl_147 : tload Tryz.prog 147 = some (some 10) := by kernel_rfl
theorem ts_147 : tst Tryz.prog 147 = some 10 := by kernel_rfl
theorem tz_147 : tz Tryz.prog 147 = some [.int .i64 0, .int .i64 0, .int .i64 0, .int .i64 0, .bo false, .int .i64 0, .int .i64 0, .int .i64 0, .int .i64 0, .int .i64 0] := by kernel_rfl
theorem tsz_147 : tsz Tryz.prog 147 = 10 := by kernel_rfl
theorem tag_147 : tagg Tryz.prog 147 = true := by kernel_rfl
theorem tb_147 : tbuild Tryz.prog 147 = some [.int .i64 0, .int .i64 0, .int .i64 0, .int .i64 0, .bo false, .int .i64 0, .int .i64 0, .int .i64 0, .int .i64 0, .int .i64 0] := by kernel_rfl
theorem tf_147_0 : tfld Tryz.prog 147 0 = some (0, 3) := by kernel_rfl
theorem tf_147_1 : tfld Tryz.prog 147 1 = some (3, 1) := by kernel_rfl
theorem tf_147_2 : tfld Tryz.prog 147 2 = some (4, 1) := by kernel_rfl
theorem tf_147_3 : tfld Tryz.prog 147 3 = some (5, 1) := by kernel_rfl
theorem tf_147_4 : tfld Tryz.prog 147 4 = some (6, 1) := by kernel_rfl
theorem tf_147_5 : tfld Tryz.prog 147 5 = some (7, 1) := by kernel_rfl
theorem tf_147_6 : tfld Tryz.prog 147 6 = some (8, 1) := by kernel_rfl
theorem tf_147_7 : tfld Tryz.prog 147 7 = some (9, 1) := by kernel_rfl
theorem tl_148 : tload Tryz.prog 148 = some (some 10) := by kernel_rfl
theorem ts_148 : tst Tryz.prog 148 = some 10 := by kernel_rfl
theorem tz_148 : tz Tryz.prog 148 = some [.int .i64 0, .int .i64 0, .int .i64 0, .int .i64 0, .bo false, .int .i64 0, .int .i64 0, .int .i64 0, .int .i64 0, .int .i64 0] := by kernel_rfl
theorem tsz_148 : tsz Tryz.prog 148 = 10 := by kernel_rfl
theorem tag_148 : tagg Tryz.prog 148 = true := by kernel_rfl
theorem tb_148 : tbuild Tryz.prog 148 = some [.int .i64 0, .int .i64 0, .int .i64 0, .int .i64 0, .bo false, .int .i64 0, .int .i64 0, .int .i64 0, .int .i64 0, .int .i64 0] := by kernel_rfl
theorem tf_148_0 : tfld Tryz.prog 148 0 = some (0, 3) := by kernel_rfl
theorem tf_148_1 : tfld Tryz.prog 148 1 = some (3, 1) := by kernel_rfl
theorem tf_148_2 : tfld Tryz.prog 148 2 = some (4, 1) := by kernel_rfl
theorem tf_148_3 : tfld Tryz.prog 148 3 = some (5, 1) := by kernel_rfl
theorem tf_148_4 : tfld Tryz.prog 148 4 = some (6, 1) := by kernel_rfl
theorem tf_148_5 : tfld Tryz.prog 148 5 = some (7, 1) := by kernel_rfl
theorem tf_148_6 : tfld Tryz.prog 148 6 = some (8, 1) := by kernel_rfl
theorem tf_148_7 : tfld Tryz.prog 148 7 = some (9, 1) := by kernel_rfl
theorem tl_150 : tload Tryz.prog 150 = some (some 8) := by kernel_rfl
theorem ts_150 : tst Tryz.prog 150 = some 8 := by kernel_rfl
theorem tz_150 : tz Tryz.prog 150 = some [.int .i64 0, .int .i64 0, .int .i64 0, .int .i64 0, .int .i64 0, .int .i64 0, .int .i64 0, .int .i64 0] := by kernel_rfl
theorem tsz_150 : tsz Tryz.prog 150 = 8 := by kernel_rfl
theorem tag_150 : tagg Tryz.prog 150 = true := by kernel_rfl
theorem tb_150 : tbuild Tryz.prog 150 = some [.int .i64 0, .int .i64 0, .int .i64 0, .int .i64 0, .int .i64 0, .int .i64 0, .int .i64 0, .int .i64 0] := by kernel_rfl
theorem tf_150_0 : tfld Tryz.prog 150 0 = some (0, 3) := by kernel_rfl
theorem tf_150_1 : tfld Tryz.prog 150 1 = some (3, 1) := by kernel_rfl
theorem tf_150_2 : tfld Tryz.prog 150 2 = some (4, 1) := by kernel_rfl
theorem tf_150_3 : tfld Tryz.prog 150 3 = some (5, 1) := by kernel_rfl
theorem tf_150_4 : tfld Tryz.prog 150 4 = some (6, 1) := by kernel_rfl
theorem tf_150_5 : tfld Tryz.prog 150 5 = some (7, 1) := by kernel_rfl
theorem tl_151 : tload Tryz.prog 151 = some (some 8) := by kernel_rfl
theorem ts_151 : tst Tryz.prog 151 = some 8 := by kernel_rfl
theorem tz_151 : tz Tryz.prog 151 = some [.int .i64 0, .int .i64 0, .int .i64 0, .int .i64 0, .int .i64 0, .int .i64 0, .int .i64 0, .int .i64 0] := by kernel_rfl
theorem tsz_151 : tsz Tryz.prog 151 = 8 := by kernel_rfl
theorem tag_151 : tagg Tryz.prog 151 = true := by kernel_rfl
theorem tb_151 : tbuild Tryz.prog 151 = some [.int .i64 0, .int .i64 0, .int .i64 0, .int .i64 0, .int .i64 0, .int .i64 0, .int .i64 0, .int .i64 0] := by kernel_rfl
theorem tf_151_0 : tfld Tryz.prog 151 0 = some (0, 3) := by kernel_rfl
theorem tf_151_1 : tfld Tryz.prog 151 1 = some (3, 1) := by kernel_rfl
theorem tf_151_2 : tfld Tryz.prog 151 2 = some (4, 1) := by kernel_rfl
theorem tf_151_3 : tfld Tryz.prog 151 3 = some (5, 1) := by kernel_rfl
theorem tf_151_4 : tfld Tryz.prog 151 4 = some (6, 1) := by kernel_rfl
theorem tf_151_5 : tfld Tryz.prog 151 5 = some (7, 1) := by kernel_rfl
theorem tl_161 : tload Tryz.prog 161 = some (some 2) := by kernel_rfl
theorem ts_161 : tst Tryz.prog 161 = some 2 := by kernel_rfl
theorem tz_161 : tz Tryz.prog 161 = some [.int .i64 0, .st []] := by kernel_rfl
theorem tsz_161 : tsz Tryz.prog 161 = 2 := by kernel_rfl
theorem tag_161 : tagg Tryz.prog 161 = true := by kernel_rfl
theorem tb_161 : tbuild Tryz.prog 161 = some [.int .i64 0, .st []] := by kernel_rfl
theorem tf_161_0 : tfld Tryz.prog 161 0 = some (0, 1) := by kernel_rfl
theorem tf_161_1 : tfld Tryz.prog 161 1 = some (1, 1) := by kernel_rfl
theorem tl_167 : tload Tryz.prog 167 = some (some 4) := by kernel_rfl
theorem ts_167 : tst Tryz.prog 167 = some 4 := by kernel_rfl
theorem tz_167 : tz Tryz.prog 167 = some [.un, .un, .un, .st []] := by kernel_rfl
theorem tsz_167 : tsz Tryz.prog 167 = 4 := by kernel_rfl
theorem tag_167 : tagg Tryz.prog 167 = true := by kernel_rfl
theorem tb_167 : tbuild Tryz.prog 167 = some [.un, .un, .un, .st []] := by kernel_rfl
theorem tf_167_0 : tfld Tryz.prog 167 0 = some (0, 1) := by kernel_rfl
theorem tf_167_1 : tfld Tryz.prog 167 1 = some (1, 1) := by kernel_rfl
theorem tf_167_2 : tfld Tryz.prog 167 2 = some (2, 1) := by kernel_rfl
theorem tf_167_3 : tfld Tryz.prog 167 3 = some (3, 1) := by kernel_rfl
theorem tl_169 : tload Tryz.prog 169 = some (some 0) := by kernel_rfl
theorem ts_169 : tst Tryz.prog 169 = some 0 := by kernel_rfl
theorem tl_170 : tload Tryz.prog 170 = some (some 0) := by kernel_rfl
theorem ts_170 : tst Tryz.prog 170 = some 0 := by kernel_rfl
theorem tsz_170 : tsz Tryz.prog 170 = 0 := by kernel_rfl
theorem tag_170 : tagg Tryz.prog 170 = true := by kernel_rfl
theorem tl_173 : tload Tryz.prog 173 = some none := by kernel_rfl
theorem ts_173 : tst Tryz.prog 173 = some 1 := by kernel_rfl
theorem tz_173 : tz Tryz.prog 173 = some [.int .u32 0] := by kernel_rfl
theorem tl_177 : tload Tryz.prog 177 = some none := by kernel_rfl
theorem ts_177 : tst Tryz.prog 177 = some 1 := by kernel_rfl
theorem tz_177 : tz Tryz.prog 177 = some [.un] := by kernel_rfl
theorem tl_180 : tload Tryz.prog 180 = some (some 11) := by kernel_rfl
theorem ts_180 : tst Tryz.prog 180 = some 11 := by kernel_rfl
theorem tsz_180 : tsz Tryz.prog 180 = 11 := by kernel_rfl
theorem tag_180 : tagg Tryz.prog 180 = true := by kernel_rfl
theorem tf_180_0 : tfld Tryz.prog 180 0 = some (0, 1) := by kernel_rfl
theorem tf_180_1 : tfld Tryz.prog 180 1 = some (1, 1) := by kernel_rfl
theorem tf_180_2 : tfld Tryz.prog 180 2 = some (2, 1) := by kernel_rfl
theorem tf_180_3 : tfld Tryz.prog 180 3 = some (3, 1) := by kernel_rfl
theorem tf_180_4 : tfld Tryz.prog 180 4 = some (4, 1) := by kernel_rfl
theorem tf_180_5 : tfld Tryz.prog 180 5 = some (5, 1) := by kernel_rfl
theorem tf_180_6 : tfld Tryz.prog 180 6 = some (6, 1) := by kernel_rfl
theorem tf_180_8 : tfld Tryz.prog 180 8 = some (8, 1) := by kernel_rfl
theorem tf_180_9 : tfld Tryz.prog 180 9 = some (9, 1) := by kernel_rfl
theorem tf_180_10 : tfld Tryz.prog 180 10 = some (10, 1) := by kernel_rfl
attribute [go_sem] tl_2 ts_2 tz_2 tl_3 ts_3 tz_3 tl_4 ts_4 tz_4 tbo_4 tl_5 ts_5 tz_5 tl_9 ts_9 tz_9 tstr_9 tl_12 ts_12 tz_12 tl_21 ts_21 tz_21 tl_22 ts_22 tz_22 tsz_22 tag_22 tb_22 tf_22_0 tf_22_1 tl_23 ts_23 tz_23 tsz_23 tag_23 tb_23 tf_23_0 tf_23_1 tl_24
attribute [go_sem] ts_24 tz_24 tsl_24 tl_25 ts_25 tz_25 tsl_25 tl_26 ts_26 tz_26 tsl_26 tl_27 ts_27 tz_27 tsz_27 tag_27 tb_27 tf_27_0 tf_27_1 tf_27_2 tl_28 ts_28 tz_28 tsz_28 tag_28 tb_28 tf_28_0 tf_28_1 tf_28_2 tl_29 ts_29 tz_29 tsz_29 tag_29 tb_29 tf_29_0 tf_29_1 tf_29_2 tf_29_3 tl_30
attribute [go_sem] ts_30 tz_30 tsz_30 tag_30 tb_30 tf_30_0 tf_30_1 tf_30_2 tf_30_3 tl_31 ts_31 tz_31 tsl_31 tl_32 ts_32 tz_32 tsz_32 tag_32 tb_32 tf_32_0 tf_32_1 tf_32_2 tl_33 ts_33 tz_33 tsz_33 tag_33 tb_33 tf_33_0 tf_33_1 tf_33_2 tl_34 ts_34 tz_34 tsl_34 tl_35 ts_35 tz_35 tsz_35 tag_35
attribute [go_sem] tb_35 tf_35_0 tf_35_1 tf_35_2 tf_35_3 tf_35_4 tf_35_5 tf_35_6 tf_35_7 tf_35_8 tf_35_9 tf_35_10 tf_35_11 tf_35_12 tf_35_13 tf_35_14 tf_35_15 tf_35_16 tl_36 ts_36 tz_36 tsz_36 tag_36 tb_36 tf_36_0 tf_36_1 tf_36_2 tf_36_3 tf_36_4 tf_36_5 tf_36_6 tf_36_7 tf_36_8 tf_36_9 tf_36_10 tf_36_11 tf_36_12 tf_36_13 tf_36_14 tf_36_15
attribute [go_sem] tf_36_16 tl_37 ts_37 tz_37 tsl_37 tl_38 ts_38 tz_38 tsl_38 tl_39 ts_39 tz_39 tsz_39 tag_39 tb_39 tf_39_0 tf_39_1 tl_40 ts_40 tz_40 tsz_40 tag_40 tb_40 tf_40_0 tf_40_1 tl_41 ts_41 tz_41 tsz_41 tag_41 tb_41 tf_41_0 tf_41_1 tf_41_2 tf_41_3 tf_41_4 tf_41_5 tf_41_6 tf_41_7 tf_41_8
attribute [go_sem] tf_41_9 tf_41_10 tf_41_11 tl_42 ts_42 tz_42 tsz_42 tag_42 tb_42 tf_42_0 tf_42_1 tf_42_2 tf_42_3 tf_42_4 tf_42_5 tf_42_6 tf_42_7 tf_42_8 tf_42_9 tf_42_10 tf_42_11 tl_45 ts_45 tz_45 tsz_45 tag_45 tb_45 tf_45_0 tf_45_1 tl_46 ts_46 tz_46 tsl_46 tl_47 ts_47 tz_47 tsl_47 tl_48 ts_48 tz_48
attribute [go_sem] tsl_48 tl_49 ts_49 tz_49 tsz_49 tag_49 tb_49 tf_49_0 tf_49_1 tf_49_2 tl_50 ts_50 tz_50 tsz_50 tag_50 tb_50 tf_50_0 tf_50_1 tf_50_2 tf_50_3 tl_51 ts_51 tz_51 tsl_51 tl_52 ts_52 tz_52 tsz_52 tag_52 tb_52 tf_52_0 tf_52_1 tf_52_2 tl_53 ts_53 tz_53 tsz_53 tag_53 tb_53 tf_53_0
attribute [go_sem] tf_53_1 tf_53_2 tl_54 ts_54 tz_54 tsz_54 tag_54 tb_54 tf_54_0 tf_54_1 tf_54_2 tf_54_3 tf_54_4 tf_54_5 tf_54_6 tf_54_7 tf_54_8 tf_54_9 tf_54_10 tf_54_11 tf_54_12 tf_54_13 tf_54_14 tf_54_15 tf_54_16 tl_55 ts_55 tz_55 tsz_55 tag_55 tb_55 tf_55_0 tf_55_1 tf_55_2 tf_55_3 tf_55_4 tf_55_5 tf_55_6 tf_55_7 tf_55_8
attribute [go_sem] tf_55_9 tf_55_10 tf_55_11 tf_55_12 tf_55_13 tf_55_14 tf_55_15 tf_55_16 tl_56 ts_56 tz_56 tsl_56 tl_57 ts_57 tz_57 tsl_57 tl_58 ts_58 tz_58 tsz_58 tag_58 tb_58 tf_58_0 tf_58_1 tl_59 ts_59 tz_59 tsz_59 tag_59 tb_59 tf_59_0 tf_59_1 tl_60 ts_60 tz_60 tsz_60 tag_60 tb_60 tf_60_0 tf_60_1
attribute [go_sem] tf_60_2 tf_60_3 tf_60_4 tf_60_5 tf_60_6 tf_60_7 tf_60_8 tf_60_9 tf_60_10 tf_60_11 tl_61 ts_61 tz_61 tsz_61 tag_61 tb_61 tf_61_0 tf_61_1 tf_61_2 tf_61_3 tf_61_4 tf_61_5 tf_61_6 tf_61_7 tf_61_8 tf_61_9 tf_61_10 tf_61_11 tl_84 ts_84 tz_84 tsz_84 tag_84 tb_84 tf_84_0 tf_84_1 tf_84_2 tf_84_3 tf_84_4 tl_85
attribute [go_sem] ts_85 tz_85 tsz_85 tag_85 tb_85 tf_85_0 tf_85_1 tf_85_2 tf_85_3 tf_85_4 tl_86 ts_86 tz_86 tsz_86 tag_86 tb_86 tf_86_0 tf_86_1 tf_86_2 tf_86_3 tf_86_4 tf_86_5 tf_86_6 tf_86_7 tf_86_8 tf_86_9 tf_86_10 tf_86_11 tf_86_12 tf_86_13 tf_86_14 tl_87 ts_87 tz_87 tsz_87 tag_87 tb_87 tf_87_0 tf_87_1 tf_87_2
attribute [go_sem] tf_87_3 tf_87_4 tf_87_5 tf_87_6 tf_87_7 tf_87_8 tf_87_9 tf_87_10 tf_87_11 tf_87_12 tf_87_13 tf_87_14 tl_96 ts_96 tz_96 tsz_96 tag_96 tb_96 tf_96_0 tf_96_1 tf_96_2 tl_97 ts_97 tz_97 tsz_97 tag_97 tb_97 tf_97_0 tf_97_1 tf_97_2 tl_98 ts_98 tz_98 tsz_98 tag_98 tb_98 tf_98_0 tf_98_1 tf_98_2 tf_98_3
attribute [go_sem] tf_98_4 tf_98_5 tf_98_6 tf_98_7 tl_99 ts_99 tz_99 tsz_99 tag_99 tb_99 tf_99_0 tf_99_1 tf_99_2 tf_99_3 tf_99_4 tf_99_5 tf_99_6 tf_99_7 tl_114 ts_114 tz_114 tsz_114 tag_114 tb_114 tf_114_0 tf_114_1 tf_114_2 tf_114_3 tf_114_4 tl_115 ts_115 tz_115 tsz_115 tag_115 tb_115 tf_115_0 tf_115_1 tf_115_2 tf_115_3 tf_115_4
attribute [go_sem] tf_115_5 tf_115_6 tf_115_7 tf_115_8 tf_115_9 tf_115_10 tf_115_11 tf_115_12 tf_115_13 tf_115_14 tl_116 ts_116 tz_116 tsz_116 tag_116 tb_116 tf_116_0 tf_116_1 tf_116_2 tf_116_3 tf_116_4 tf_116_5 tf_116_6 tf_116_7 tf_116_8 tf_116_9 tf_116_10 tf_116_11 tf_116_12 tf_116_13 tf_116_14 tl_132 ts_132 tz_132 tsz_132 tag_132 tb_132 tf_132_0 tf_132_1 tf_132_2
attribute [go_sem] tf_132_3 tl_133 ts_133 tz_133 tsz_133 tag_133 tb_133 tf_133_0 tf_133_1 tf_133_2 tf_133_3 tl_134 ts_134 tz_134 tsz_134 tag_134 tb_134 tf_134_0 tf_134_1 tf_134_2 tf_134_3 tf_134_4 tf_134_5 tl_135 ts_135 tz_135 tsz_135 tag_135 tb_135 tf_135_0 tf_135_1 tf_135_2 tf_135_3 tf_135_4 tf_135_5 tl_138 ts_138 tz_138 tsz_138 tag_138
attribute [go_sem] tb_138 tf_138_0 tf_138_1 tl_139 ts_139 tz_139 tsz_139 tag_139 tb_139 tf_139_0 tf_139_1 tl_144 ts_144 tz_144 tsz_144 tag_144 tb_144 tf_144_0 tf_144_1 tf_144_2 tf_144_3 tl_146 ts_146 tz_146 tsz_146 tag_146 tb_146 tf_146_0 tf_146_1 tf_146_2 tl_147 ts_147 tz_147 tsz_147 tag_147 tb_147 tf_147_0 tf_147_1 tf_147_2 tf_147_3
attribute [go_sem] tf_147_4 tf_147_5 tf_147_6 tf_147_7 tl_148 ts_148 tz_148 tsz_148 tag_148 tb_148 tf_148_0 tf_148_1 tf_148_2 tf_148_3 tf_148_4 tf_148_5 tf_148_6 tf_148_7 tl_150 ts_150 tz_150 tsz_150 tag_150 tb_150 tf_150_0 tf_150_1 tf_150_2 tf_150_3 tf_150_4 tf_150_5 tl_151 ts_151 tz_151 tsz_151 tag_151 tb_151 tf_151_0 tf_151_1 tf_151_2 tf_151_3
attribute [go_sem] tf_151_4 tf_151_5 tl_161 ts_161 tz_161 tsz_161 tag_161 tb_161 tf_161_0 tf_161_1 tl_167 ts_167 tz_167 tsz_167 tag_167 tb_167 tf_167_0 tf_167_1 tf_167_2 tf_167_3 tl_169 ts_169 tl_170 ts_170 tsz_170 tag_170 tl_173 ts_173 tz_173 tl_177 ts_177 tz_177 tl_180 ts_180 tsz_180 tag_180 tf_180_0 tf_180_1 tf_180_2 tf_180_3
attribute [go_sem] tf_180_4 tf_180_5 tf_180_6 tf_180_8 tf_180_9 tf_180_10
end Go.Proofs.YtoghbjbfldlfpaaGreat
