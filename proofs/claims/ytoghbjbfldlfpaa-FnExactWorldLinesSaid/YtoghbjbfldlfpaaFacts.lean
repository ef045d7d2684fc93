/-
  The facts on the types of this translation that the runs use. (Written by facts.py.)
-/
import Derived.Test.YtoghbjbfldlfpaaChecked
import Derived.Test.YtoghbjbfldlfpaaVx14
import Derived.KernelRfl
namespace Go.Proofs.Ytoghbjbfldlfpaa
theorem tl_2 : tload Try.prog 2 = some none := by kernel_rfl
theorem ts_2 : tst Try.prog 2 = some 1 := by kernel_rfl
theorem tz_2 : tz Try.prog 2 = some [.int .i64 0] := by kernel_rfl
theorem tl_3 : tload Try.prog 3 = some none := by kernel_rfl
theorem ts_3 : tst Try.prog 3 = some 1 := by kernel_rfl
theorem tz_3 : tz Try.prog 3 = some [.int .i64 0] := by kernel_rfl
theorem tl_4 : tload Try.prog 4 = some none := by kernel_rfl
theorem ts_4 : tst Try.prog 4 = some 1 := by kernel_rfl
theorem tz_4 : tz Try.prog 4 = some [.bo false] := by kernel_rfl
theorem tbo_4 : tbool Try.prog 4 = true := by kernel_rfl
theorem tl_5 : tload Try.prog 5 = some none := by kernel_rfl
theorem ts_5 : tst Try.prog 5 = some 1 := by kernel_rfl
theorem tz_5 : tz Try.prog 5 = some [.int .u8 0] := by kernel_rfl
theorem tl_9 : tload Try.prog 9 = some none := by kernel_rfl
theorem ts_9 : tst Try.prog 9 = some 1 := by kernel_rfl
theorem tz_9 : tz Try.prog 9 = some [.st []] := by kernel_rfl
theorem tstr_9 : tstr Try.prog 9 = true := by kernel_rfl
theorem tl_12 : tload Try.prog 12 = some none := by kernel_rfl
theorem ts_12 : tst Try.prog 12 = some 1 := by kernel_rfl
theorem tz_12 : tz Try.prog 12 = some [.int .u64 0] := by kernel_rfl
theorem tl_21 : tload Try.prog 21 = some none := by kernel_rfl
theorem ts_21 : tst Try.prog 21 = some 1 := by kernel_rfl
theorem tz_21 : tz Try.prog 21 = some [.int .i32 0] := by kernel_rfl
theorem tl_22 : tload Try.prog 22 = some (some 5) := by kernel_rfl
theorem ts_22 : tst Try.prog 22 = some 5 := by kernel_rfl
theorem tz_22 : tz Try.prog 22 = some [.int .i64 0, .int .i64 0, .int .i64 0, .int .i64 0, .int .i64 0] := by kernel_rfl
theorem tsz_22 : tsz Try.prog 22 = 5 := by kernel_rfl
theorem tag_22 : tagg Try.prog 22 = true := by kernel_rfl
theorem tb_22 : tbuild Try.prog 22 = some [.int .i64 0, .int .i64 0, .int .i64 0, .int .i64 0, .int .i64 0] := by kernel_rfl
theorem tf_22_0 : tfld Try.prog 22 0 = some (0, 1) := by kernel_rfl
theorem tf_22_1 : tfld Try.prog 22 1 = some (1, 1) := by kernel_rfl
theorem tf_22_2 : tfld Try.prog 22 2 = some (2, 1) := by kernel_rfl
theorem tf_22_3 : tfld Try.prog 22 3 = some (3, 1) := by kernel_rfl
theorem tf_22_4 : tfld Try.prog 22 4 = some (4, 1) := by kernel_rfl
theorem tl_23 : tload Try.prog 23 = some (some 5) := by kernel_rfl
theorem ts_23 : tst Try.prog 23 = some 5 := by kernel_rfl
theorem tz_23 : tz Try.prog 23 = some [.int .i64 0, .int .i64 0, .int .i64 0, .int .i64 0, .int .i64 0] := by kernel_rfl
theorem tsz_23 : tsz Try.prog 23 = 5 := by kernel_rfl
theorem tag_23 : tagg Try.prog 23 = true := by kernel_rfl
theorem tb_23 : tbuild Try.prog 23 = some [.int .i64 0, .int .i64 0, .int .i64 0, .int .i64 0, .int .i64 0] := by kernel_rfl
theorem tf_23_0 : tfld Try.prog 23 0 = some (0, 1) := by kernel_rfl
theorem tf_23_1 : tfld Try.prog 23 1 = some (1, 1) := by kernel_rfl
theorem tf_23_2 : tfld Try.prog 23 2 = some (2, 1) := by kernel_rfl
theorem tf_23_3 : tfld Try.prog 23 3 = some (3, 1) := by kernel_rfl
theorem tf_23_4 : tfld Try.prog 23 4 = some (4, 1) := by kernel_rfl
theorem tl_24 : tload Try.prog 24 = some (some 19) := by kernel_rfl
theorem ts_24 : tst Try.prog 24 = some 19 := by kernel_rfl
theorem tz_24 : tz Try.prog 24 = some [.int .i64 0, .int .i64 0, .int .i64 0, .int .i64 0, .int .i64 0, .int .i64 0, .int .i64 0, .int .i64 0, .int .i64 0, .int .i64 0, .int .i64 0, .int .i64 0, .int .i64 0, .int .i64 0, .int .i64 0, .int .i64 0, .bo false, .int .i64 0, .st []] := by kernel_rfl
theorem tsz_24 : tsz Try.prog 24 = 19 := by kernel_rfl
theorem tag_24 : tagg Try.prog 24 = true := by kernel_rfl
theorem tb_24 : tbuild Try.prog 24 = some [.int .i64 0, .int .i64 0, .int .i64 0, .int .i64 0, .int .i64 0, .int .i64 0, .int .i64 0, .int .i64 0, .int .i64 0, .int .i64 0, .int .i64 0, .int .i64 0, .int .i64 0, .int .i64 0, .int .i64 0, .int .i64 0, .bo false, .int .i64 0, .st []] := by kernel_rfl
theorem tf_24_0 : tfld Try.prog 24 0 = some (0, 1) := by kernel_rfl
theorem tf_24_1 : tfld Try.prog 24 1 = some (1, 1) := by kernel_rfl
theorem tf_24_2 : tfld Try.prog 24 2 = some (2, 1) := by kernel_rfl
theorem tf_24_3 : tfld Try.prog 24 3 = some (3, 1) := by kernel_rfl
theorem tf_24_4 : tfld Try.prog 24 4 = some (4, 1) := by kernel_rfl
theorem tf_24_5 : tfld Try.prog 24 5 = some (5, 1) := by kernel_rfl
theorem tf_24_6 : tfld Try.prog 24 6 = some (6, 1) := by kernel_rfl
theorem tf_24_7 : tfld Try.prog 24 7 = some (7, 1) := by kernel_rfl
theorem tf_24_8 : tfld Try.prog 24 8 = some (8, 1) := by kernel_rfl
theorem tf_24_9 : tfld Try.prog 24 9 = some (9, 5) := by kernel_rfl
theorem tf_24_10 : tfld Try.prog 24 10 = some (14, 1) := by kernel_rfl
theorem tf_24_11 : tfld Try.prog 24 11 = some (15, 1) := by kernel_rfl
theorem tf_24_12 : tfld Try.prog 24 12 = some (16, 1) := by kernel_rfl
theorem tf_24_13 : tfld Try.prog 24 13 = some (17, 1) := by kernel_rfl
theorem tf_24_14 : tfld Try.prog 24 14 = some (18, 1) := by kernel_rfl
theorem tl_25 : tload Try.prog 25 = some (some 19) := by kernel_rfl
theorem ts_25 : tst Try.prog 25 = some 19 := by kernel_rfl
theorem tz_25 : tz Try.prog 25 = some [.int .i64 0, .int .i64 0, .int .i64 0, .int .i64 0, .int .i64 0, .int .i64 0, .int .i64 0, .int .i64 0, .int .i64 0, .int .i64 0, .int .i64 0, .int .i64 0, .int .i64 0, .int .i64 0, .int .i64 0, .int .i64 0, .bo false, .int .i64 0, .st []] := by kernel_rfl
theorem tsz_25 : tsz Try.prog 25 = 19 := by kernel_rfl
theorem tag_25 : tagg Try.prog 25 = true := by kernel_rfl
theorem tb_25 : tbuild Try.prog 25 = some [.int .i64 0, .int .i64 0, .int .i64 0, .int .i64 0, .int .i64 0, .int .i64 0, .int .i64 0, .int .i64 0, .int .i64 0, .int .i64 0, .int .i64 0, .int .i64 0, .int .i64 0, .int .i64 0, .int .i64 0, .int .i64 0, .bo false, .int .i64 0, .st []] := by kernel_rfl
theorem tf_25_0 : tfld Try.prog 25 0 = some (0, 1) := by kernel_rfl
theorem tf_25_1 : tfld Try.prog 25 1 = some (1, 1) := by kernel_rfl
theorem tf_25_2 : tfld Try.prog 25 2 = some (2, 1) := by kernel_rfl
theorem tf_25_3 : tfld Try.prog 25 3 = some (3, 1) := by kernel_rfl
theorem tf_25_4 : tfld Try.prog 25 4 = some (4, 1) := by kernel_rfl
theorem tf_25_5 : tfld Try.prog 25 5 = some (5, 1) := by kernel_rfl
theorem tf_25_6 : tfld Try.prog 25 6 = some (6, 1) := by kernel_rfl
theorem tf_25_7 : tfld Try.prog 25 7 = some (7, 1) := by kernel_rfl
theorem tf_25_8 : tfld Try.prog 25 8 = some (8, 1) := by kernel_rfl
theorem tf_25_9 : tfld Try.prog 25 9 = some (9, 5) := by kernel_rfl
theorem tf_25_10 : tfld Try.prog 25 10 = some (14, 1) := by kernel_rfl
theorem tf_25_11 : tfld Try.prog 25 11 = some (15, 1) := by kernel_rfl
theorem tf_25_12 : tfld Try.prog 25 12 = some (16, 1) := by kernel_rfl
theorem tf_25_13 : tfld Try.prog 25 13 = some (17, 1) := by kernel_rfl
theorem tf_25_14 : tfld Try.prog 25 14 = some (18, 1) := by kernel_rfl
theorem tl_28 : tload Try.prog 28 = some (some 5) := by kernel_rfl
theorem ts_28 : tst Try.prog 28 = some 5 := by kernel_rfl
theorem tz_28 : tz Try.prog 28 = some [.int .i64 0, .int .i64 0, .int .i64 0, .int .i64 0, .int .i64 0] := by kernel_rfl
theorem tsz_28 : tsz Try.prog 28 = 5 := by kernel_rfl
theorem tag_28 : tagg Try.prog 28 = true := by kernel_rfl
theorem tb_28 : tbuild Try.prog 28 = some [.int .i64 0, .int .i64 0, .int .i64 0, .int .i64 0, .int .i64 0] := by kernel_rfl
theorem tf_28_0 : tfld Try.prog 28 0 = some (0, 1) := by kernel_rfl
theorem tf_28_1 : tfld Try.prog 28 1 = some (1, 1) := by kernel_rfl
theorem tf_28_2 : tfld Try.prog 28 2 = some (2, 1) := by kernel_rfl
theorem tf_28_3 : tfld Try.prog 28 3 = some (3, 1) := by kernel_rfl
theorem tf_28_4 : tfld Try.prog 28 4 = some (4, 1) := by kernel_rfl
theorem tl_29 : tload Try.prog 29 = some (some 19) := by kernel_rfl
theorem ts_29 : tst Try.prog 29 = some 19 := by kernel_rfl
theorem tz_29 : tz Try.prog 29 = some [.int .i64 0, .int .i64 0, .int .i64 0, .int .i64 0, .int .i64 0, .int .i64 0, .int .i64 0, .int .i64 0, .int .i64 0, .int .i64 0, .int .i64 0, .int .i64 0, .int .i64 0, .int .i64 0, .int .i64 0, .int .i64 0, .bo false, .int .i64 0, .st []] := by kernel_rfl
theorem tsz_29 : tsz Try.prog 29 = 19 := by kernel_rfl
theorem tag_29 : tagg Try.prog 29 = true := by kernel_rfl
theorem tb_29 : tbuild Try.prog 29 = some [.int .i64 0, .int .i64 0, .int .i64 0, .int .i64 0, .int .i64 0, .int .i64 0, .int .i64 0, .int .i64 0, .int .i64 0, .int .i64 0, .int .i64 0, .int .i64 0, .int .i64 0, .int .i64 0, .int .i64 0, .int .i64 0, .bo false, .int .i64 0, .st []] := by kernel_rfl
theorem tf_29_0 : tfld Try.prog 29 0 = some (0, 1) := by kernel_rfl
theorem tf_29_1 : tfld Try.prog 29 1 = some (1, 1) := by kernel_rfl
theorem tf_29_2 : tfld Try.prog 29 2 = some (2, 1) := by kernel_rfl
theorem tf_29_3 : tfld Try.prog 29 3 = some (3, 1) := by kernel_rfl
theorem tf_29_4 : tfld Try.prog 29 4 = some (4, 1) := by kernel_rfl
theorem tf_29_5 : tfld Try.prog 29 5 = some (5, 1) := by kernel_rfl
theorem tf_29_6 : tfld Try.prog 29 6 = some (6, 1) := by kernel_rfl
theorem tf_29_7 : tfld Try.prog 29 7 = some (7, 1) := by kernel_rfl
theorem tf_29_8 : tfld Try.prog 29 8 = some (8, 1) := by kernel_rfl
theorem tf_29_9 : tfld Try.prog 29 9 = some (9, 5) := by kernel_rfl
theorem tf_29_10 : tfld Try.prog 29 10 = some (14, 1) := by kernel_rfl
theorem tf_29_11 : tfld Try.prog 29 11 = some (15, 1) := by kernel_rfl
theorem tf_29_12 : tfld Try.prog 29 12 = some (16, 1) := by kernel_rfl
theorem tf_29_13 : tfld Try.prog 29 13 = some (17, 1) := by kernel_rfl
theorem tf_29_14 : tfld Try.prog 29 14 = some (18, 1) := by kernel_rfl
theorem tl_30 : tload Try.prog 30 = some (some 19) := by kernel_rfl
theorem ts_30 : tst Try.prog 30 = some 19 := by kernel_rfl
theorem tz_30 : tz Try.prog 30 = some [.int .i64 0, .int .i64 0, .int .i64 0, .int .i64 0, .int .i64 0, .int .i64 0, .int .i64 0, .int .i64 0, .int .i64 0, .int .i64 0, .int .i64 0, .int .i64 0, .int .i64 0, .int .i64 0, .int .i64 0, .int .i64 0, .bo false, .int .i64 0, .st []] := by kernel_rfl
theorem tsz_30 : tsz Try.prog 30 = 19 := by kernel_rfl
theorem tag_30 : tagg Try.prog 30 = true := by kernel_rfl
theorem tb_30 : tbuild Try.prog 30 = some [.int .i64 0, .int .i64 0, .int .i64 0, .int .i64 0, .int .i64 0, .int .i64 0, .int .i64 0, .int .i64 0, .int .i64 0, .int .i64 0, .int .i64 0, .int .i64 0, .int .i64 0, .int .i64 0, .int .i64 0, .int .i64 0, .bo false, .int .i64 0, .st []] := by kernel_rfl
theorem tf_30_0 : tfld Try.prog 30 0 = some (0, 1) := by kernel_rfl
theorem tf_30_1 : tfld Try.prog 30 1 = some (1, 1) := by kernel_rfl
theorem tf_30_2 : tfld Try.prog 30 2 = some (2, 1) := by kernel_rfl
theorem tf_30_3 : tfld Try.prog 30 3 = some (3, 1) := by kernel_rfl
theorem tf_30_4 : tfld Try.prog 30 4 = some (4, 1) := by kernel_rfl
theorem tf_30_5 : tfld Try.prog 30 5 = some (5, 1) := by kernel_rfl
theorem tf_30_6 : tfld Try.prog 30 6 = some (6, 1) := by kernel_rfl
theorem tf_30_7 : tfld Try.prog 30 7 = some (7, 1) := by kernel_rfl
theorem tf_30_8 : tfld Try.prog 30 8 = some (8, 1) := by kernel_rfl
theorem tf_30_9 : tfld Try.prog 30 9 = some (9, 5) := by kernel_rfl
theorem tf_30_10 : tfld Try.prog 30 10 = some (14, 1) := by kernel_rfl
theorem tf_30_11 : tfld Try.prog 30 11 = some (15, 1) := by kernel_rfl
theorem tf_30_12 : tfld Try.prog 30 12 = some (16, 1) := by kernel_rfl
theorem tf_30_13 : tfld Try.prog 30 13 = some (17, 1) := by kernel_rfl
theorem tf_30_14 : tfld Try.prog 30 14 = some (18, 1) := by kernel_rfl
theorem tl_33 : tload Try.prog 33 = some (some 2) := by kernel_rfl
theorem ts_33 : tst Try.prog 33 = some 2 := by kernel_rfl
theorem tz_33 : tz Try.prog 33 = some [.int .i64 0, .int .i64 0] := by kernel_rfl
theorem tsz_33 : tsz Try.prog 33 = 2 := by kernel_rfl
theorem tag_33 : tagg Try.prog 33 = true := by kernel_rfl
theorem tb_33 : tbuild Try.prog 33 = some [.int .i64 0, .int .i64 0] := by kernel_rfl
theorem tf_33_0 : tfld Try.prog 33 0 = some (0, 1) := by kernel_rfl
theorem tf_33_1 : tfld Try.prog 33 1 = some (1, 1) := by kernel_rfl
theorem tl_34 : tload Try.prog 34 = some (some 2) := by kernel_rfl
theorem ts_34 : tst Try.prog 34 = some 2 := by kernel_rfl
theorem tz_34 : tz Try.prog 34 = some [.int .i64 0, .int .i64 0] := by kernel_rfl
theorem tsz_34 : tsz Try.prog 34 = 2 := by kernel_rfl
theorem tag_34 : tagg Try.prog 34 = true := by kernel_rfl
theorem tb_34 : tbuild Try.prog 34 = some [.int .i64 0, .int .i64 0] := by kernel_rfl
theorem tf_34_0 : tfld Try.prog 34 0 = some (0, 1) := by kernel_rfl
theorem tf_34_1 : tfld Try.prog 34 1 = some (1, 1) := by kernel_rfl
theorem tl_42 : tload Try.prog 42 = some (some 2) := by kernel_rfl
theorem ts_42 : tst Try.prog 42 = some 2 := by kernel_rfl
theorem tz_42 : tz Try.prog 42 = some [.int .i64 0, .int .i64 0] := by kernel_rfl
theorem tsz_42 : tsz Try.prog 42 = 2 := by kernel_rfl
theorem tag_42 : tagg Try.prog 42 = true := by kernel_rfl
theorem tb_42 : tbuild Try.prog 42 = some [.int .i64 0, .int .i64 0] := by kernel_rfl
theorem tf_42_0 : tfld Try.prog 42 0 = some (0, 1) := by kernel_rfl
theorem tf_42_1 : tfld Try.prog 42 1 = some (1, 1) := by kernel_rfl
theorem tl_43 : tload Try.prog 43 = some none := by kernel_rfl
theorem ts_43 : tst Try.prog 43 = some 1 := by kernel_rfl
theorem tz_43 : tz Try.prog 43 = some [.nil] := by kernel_rfl
theorem tsl_43 : tsl Try.prog 43 = some (195, 4) := by kernel_rfl
theorem tl_44 : tload Try.prog 44 = some none := by kernel_rfl
theorem ts_44 : tst Try.prog 44 = some 1 := by kernel_rfl
theorem tz_44 : tz Try.prog 44 = some [.nil] := by kernel_rfl
theorem tsl_44 : tsl Try.prog 44 = some (199, 10) := by kernel_rfl
theorem tl_45 : tload Try.prog 45 = some none := by kernel_rfl
theorem ts_45 : tst Try.prog 45 = some 1 := by kernel_rfl
theorem tz_45 : tz Try.prog 45 = some [.nil] := by kernel_rfl
theorem tsl_45 : tsl Try.prog 45 = some (202, 8) := by kernel_rfl
theorem tl_46 : tload Try.prog 46 = some (some 3) := by kernel_rfl
theorem ts_46 : tst Try.prog 46 = some 3 := by kernel_rfl
theorem tz_46 : tz Try.prog 46 = some [.int .i64 0, .int .i64 0, .int .i64 0] := by kernel_rfl
theorem tsz_46 : tsz Try.prog 46 = 3 := by kernel_rfl
theorem tag_46 : tagg Try.prog 46 = true := by kernel_rfl
theorem tb_46 : tbuild Try.prog 46 = some [.int .i64 0, .int .i64 0, .int .i64 0] := by kernel_rfl
theorem tf_46_0 : tfld Try.prog 46 0 = some (0, 1) := by kernel_rfl
theorem tf_46_1 : tfld Try.prog 46 1 = some (1, 1) := by kernel_rfl
theorem tf_46_2 : tfld Try.prog 46 2 = some (2, 1) := by kernel_rfl
theorem tl_47 : tload Try.prog 47 = some (some 3) := by kernel_rfl
theorem ts_47 : tst Try.prog 47 = some 3 := by kernel_rfl
theorem tz_47 : tz Try.prog 47 = some [.int .i64 0, .int .i64 0, .int .i64 0] := by kernel_rfl
theorem tsz_47 : tsz Try.prog 47 = 3 := by kernel_rfl
theorem tag_47 : tagg Try.prog 47 = true := by kernel_rfl
theorem tb_47 : tbuild Try.prog 47 = some [.int .i64 0, .int .i64 0, .int .i64 0] := by kernel_rfl
theorem tf_47_0 : tfld Try.prog 47 0 = some (0, 1) := by kernel_rfl
theorem tf_47_1 : tfld Try.prog 47 1 = some (1, 1) := by kernel_rfl
theorem tf_47_2 : tfld Try.prog 47 2 = some (2, 1) := by kernel_rfl
theorem tl_48 : tload Try.prog 48 = some (some 4) := by kernel_rfl
theorem ts_48 : tst Try.prog 48 = some 4 := by kernel_rfl
theorem tz_48 : tz Try.prog 48 = some [.st [], .int .i64 0, .int .i64 0, .int .i64 0] := by kernel_rfl
theorem tsz_48 : tsz Try.prog 48 = 4 := by kernel_rfl
theorem tag_48 : tagg Try.prog 48 = true := by kernel_rfl
theorem tb_48 : tbuild Try.prog 48 = some [.st [], .int .i64 0, .int .i64 0, .int .i64 0] := by kernel_rfl
theorem tf_48_0 : tfld Try.prog 48 0 = some (0, 1) := by kernel_rfl
theorem tf_48_1 : tfld Try.prog 48 1 = some (1, 1) := by kernel_rfl
theorem tf_48_2 : tfld Try.prog 48 2 = some (2, 1) := by kernel_rfl
theorem tf_48_3 : tfld Try.prog 48 3 = some (3, 1) := by kernel_rfl
theorem tl_49 : tload Try.prog 49 = some (some 4) := by kernel_rfl
theorem ts_49 : tst Try.prog 49 = some 4 := by kernel_rfl
theorem tz_49 : tz Try.prog 49 = some [.st [], .int .i64 0, .int .i64 0, .int .i64 0] := by kernel_rfl
theorem tsz_49 : tsz Try.prog 49 = 4 := by kernel_rfl
theorem tag_49 : tagg Try.prog 49 = true := by kernel_rfl
theorem tb_49 : tbuild Try.prog 49 = some [.st [], .int .i64 0, .int .i64 0, .int .i64 0] := by kernel_rfl
theorem tf_49_0 : tfld Try.prog 49 0 = some (0, 1) := by kernel_rfl
theorem tf_49_1 : tfld Try.prog 49 1 = some (1, 1) := by kernel_rfl
theorem tf_49_2 : tfld Try.prog 49 2 = some (2, 1) := by kernel_rfl
theorem tf_49_3 : tfld Try.prog 49 3 = some (3, 1) := by kernel_rfl
theorem tl_50 : tload Try.prog 50 = some none := by kernel_rfl
theorem ts_50 : tst Try.prog 50 = some 1 := by kernel_rfl
theorem tz_50 : tz Try.prog 50 = some [.nil] := by kernel_rfl
theorem tsl_50 : tsl Try.prog 50 = some (229, 2) := by kernel_rfl
theorem tl_51 : tload Try.prog 51 = some (some 3) := by kernel_rfl
theorem ts_51 : tst Try.prog 51 = some 3 := by kernel_rfl
theorem tz_51 : tz Try.prog 51 = some [.int .i64 0, .st [], .nil] := by kernel_rfl
theorem tsz_51 : tsz Try.prog 51 = 3 := by kernel_rfl
theorem tag_51 : tagg Try.prog 51 = true := by kernel_rfl
theorem tb_51 : tbuild Try.prog 51 = some [.int .i64 0, .st [], .nil] := by kernel_rfl
theorem tf_51_0 : tfld Try.prog 51 0 = some (0, 1) := by kernel_rfl
theorem tf_51_1 : tfld Try.prog 51 1 = some (1, 1) := by kernel_rfl
theorem tf_51_2 : tfld Try.prog 51 2 = some (2, 1) := by kernel_rfl
theorem tl_52 : tload Try.prog 52 = some (some 3) := by kernel_rfl
theorem ts_52 : tst Try.prog 52 = some 3 := by kernel_rfl
theorem tz_52 : tz Try.prog 52 = some [.int .i64 0, .st [], .nil] := by kernel_rfl
theorem tsz_52 : tsz Try.prog 52 = 3 := by kernel_rfl
theorem tag_52 : tagg Try.prog 52 = true := by kernel_rfl
theorem tb_52 : tbuild Try.prog 52 = some [.int .i64 0, .st [], .nil] := by kernel_rfl
theorem tf_52_0 : tfld Try.prog 52 0 = some (0, 1) := by kernel_rfl
theorem tf_52_1 : tfld Try.prog 52 1 = some (1, 1) := by kernel_rfl
theorem tf_52_2 : tfld Try.prog 52 2 = some (2, 1) := by kernel_rfl
theorem tl_53 : tload Try.prog 53 = some none := by kernel_rfl
theorem ts_53 : tst Try.prog 53 = some 1 := by kernel_rfl
theorem tz_53 : tz Try.prog 53 = some [.nil] := by kernel_rfl
theorem tsl_53 : tsl Try.prog 53 = some (3, 1) := by kernel_rfl
theorem tl_54 : tload Try.prog 54 = some (some 25) := by kernel_rfl
theorem ts_54 : tst Try.prog 54 = some 25 := by kernel_rfl
theorem tz_54 : tz Try.prog 54 = some [.int .i64 0, .int .i64 0, .int .i64 0, .int .i64 0, .int .i64 0, .int .i64 0, .nil, .nil, .nil, .nil, .int .i64 0, .int .i64 0, .int .i64 0, .st [], .int .i64 0, .int .i64 0, .int .i64 0, .int .i64 0, .st [], .nil, .nil, .nil, .int .i64 0, .int .i64 0, .int .i64 0] := by kernel_rfl
theorem tsz_54 : tsz Try.prog 54 = 25 := by kernel_rfl
theorem tag_54 : tagg Try.prog 54 = true := by kernel_rfl
theorem tb_54 : tbuild Try.prog 54 = some [.int .i64 0, .int .i64 0, .int .i64 0, .int .i64 0, .int .i64 0, .int .i64 0, .nil, .nil, .nil, .nil, .int .i64 0, .int .i64 0, .int .i64 0, .st [], .int .i64 0, .int .i64 0, .int .i64 0, .int .i64 0, .st [], .nil, .nil, .nil, .int .i64 0, .int .i64 0, .int .i64 0] := by kernel_rfl
theorem tf_54_0 : tfld Try.prog 54 0 = some (0, 1) := by kernel_rfl
theorem tf_54_1 : tfld Try.prog 54 1 = some (1, 1) := by kernel_rfl
theorem tf_54_2 : tfld Try.prog 54 2 = some (2, 1) := by kernel_rfl
theorem tf_54_3 : tfld Try.prog 54 3 = some (3, 1) := by kernel_rfl
theorem tf_54_4 : tfld Try.prog 54 4 = some (4, 2) := by kernel_rfl
theorem tf_54_5 : tfld Try.prog 54 5 = some (6, 1) := by kernel_rfl
theorem tf_54_6 : tfld Try.prog 54 6 = some (7, 1) := by kernel_rfl
theorem tf_54_7 : tfld Try.prog 54 7 = some (8, 1) := by kernel_rfl
theorem tf_54_8 : tfld Try.prog 54 8 = some (9, 1) := by kernel_rfl
theorem tf_54_9 : tfld Try.prog 54 9 = some (10, 3) := by kernel_rfl
theorem tf_54_10 : tfld Try.prog 54 10 = some (13, 4) := by kernel_rfl
theorem tf_54_11 : tfld Try.prog 54 11 = some (17, 3) := by kernel_rfl
theorem tf_54_12 : tfld Try.prog 54 12 = some (20, 1) := by kernel_rfl
theorem tf_54_13 : tfld Try.prog 54 13 = some (21, 1) := by kernel_rfl
theorem tf_54_14 : tfld Try.prog 54 14 = some (22, 1) := by kernel_rfl
theorem tf_54_15 : tfld Try.prog 54 15 = some (23, 1) := by kernel_rfl
theorem tf_54_16 : tfld Try.prog 54 16 = some (24, 1) := by kernel_rfl
theorem tl_55 : tload Try.prog 55 = some (some 25) := by kernel_rfl
theorem ts_55 : tst Try.prog 55 = some 25 := by kernel_rfl
theorem tz_55 : tz Try.prog 55 = some [.int .i64 0, .int .i64 0, .int .i64 0, .int .i64 0, .int .i64 0, .int .i64 0, .nil, .nil, .nil, .nil, .int .i64 0, .int .i64 0, .int .i64 0, .st [], .int .i64 0, .int .i64 0, .int .i64 0, .int .i64 0, .st [], .nil, .nil, .nil, .int .i64 0, .int .i64 0, .int .i64 0] := by kernel_rfl
theorem tsz_55 : tsz Try.prog 55 = 25 := by kernel_rfl
theorem tag_55 : tagg Try.prog 55 = true := by kernel_rfl
theorem tb_55 : tbuild Try.prog 55 = some [.int .i64 0, .int .i64 0, .int .i64 0, .int .i64 0, .int .i64 0, .int .i64 0, .nil, .nil, .nil, .nil, .int .i64 0, .int .i64 0, .int .i64 0, .st [], .int .i64 0, .int .i64 0, .int .i64 0, .int .i64 0, .st [], .nil, .nil, .nil, .int .i64 0, .int .i64 0, .int .i64 0] := by kernel_rfl
theorem tf_55_0 : tfld Try.prog 55 0 = some (0, 1) := by kernel_rfl
theorem tf_55_1 : tfld Try.prog 55 1 = some (1, 1) := by kernel_rfl
theorem tf_55_2 : tfld Try.prog 55 2 = some (2, 1) := by kernel_rfl
theorem tf_55_3 : tfld Try.prog 55 3 = some (3, 1) := by kernel_rfl
theorem tf_55_4 : tfld Try.prog 55 4 = some (4, 2) := by kernel_rfl
theorem tf_55_5 : tfld Try.prog 55 5 = some (6, 1) := by kernel_rfl
theorem tf_55_6 : tfld Try.prog 55 6 = some (7, 1) := by kernel_rfl
theorem tf_55_7 : tfld Try.prog 55 7 = some (8, 1) := by kernel_rfl
theorem tf_55_8 : tfld Try.prog 55 8 = some (9, 1) := by kernel_rfl
theorem tf_55_9 : tfld Try.prog 55 9 = some (10, 3) := by kernel_rfl
theorem tf_55_10 : tfld Try.prog 55 10 = some (13, 4) := by kernel_rfl
theorem tf_55_11 : tfld Try.prog 55 11 = some (17, 3) := by kernel_rfl
theorem tf_55_12 : tfld Try.prog 55 12 = some (20, 1) := by kernel_rfl
theorem tf_55_13 : tfld Try.prog 55 13 = some (21, 1) := by kernel_rfl
theorem tf_55_14 : tfld Try.prog 55 14 = some (22, 1) := by kernel_rfl
theorem tf_55_15 : tfld Try.prog 55 15 = some (23, 1) := by kernel_rfl
theorem tf_55_16 : tfld Try.prog 55 16 = some (24, 1) := by kernel_rfl
theorem tl_58 : tload Try.prog 58 = some none := by kernel_rfl
theorem ts_58 : tst Try.prog 58 = some 1 := by kernel_rfl
theorem tz_58 : tz Try.prog 58 = some [.nil] := by kernel_rfl
theorem tsl_58 : tsl Try.prog 58 = some (167, 4) := by kernel_rfl
theorem tl_59 : tload Try.prog 59 = some none := by kernel_rfl
theorem ts_59 : tst Try.prog 59 = some 1 := by kernel_rfl
theorem tz_59 : tz Try.prog 59 = some [.nil] := by kernel_rfl
theorem tsl_59 : tsl Try.prog 59 = some (155, 10) := by kernel_rfl
theorem tl_60 : tload Try.prog 60 = some none := by kernel_rfl
theorem ts_60 : tst Try.prog 60 = some 1 := by kernel_rfl
theorem tz_60 : tz Try.prog 60 = some [.nil] := by kernel_rfl
theorem tsl_60 : tsl Try.prog 60 = some (139, 8) := by kernel_rfl
theorem tl_61 : tload Try.prog 61 = some (some 3) := by kernel_rfl
theorem ts_61 : tst Try.prog 61 = some 3 := by kernel_rfl
theorem tz_61 : tz Try.prog 61 = some [.int .i64 0, .int .i64 0, .int .i64 0] := by kernel_rfl
theorem tsz_61 : tsz Try.prog 61 = 3 := by kernel_rfl
theorem tag_61 : tagg Try.prog 61 = true := by kernel_rfl
theorem tb_61 : tbuild Try.prog 61 = some [.int .i64 0, .int .i64 0, .int .i64 0] := by kernel_rfl
theorem tf_61_0 : tfld Try.prog 61 0 = some (0, 1) := by kernel_rfl
theorem tf_61_1 : tfld Try.prog 61 1 = some (1, 1) := by kernel_rfl
theorem tf_61_2 : tfld Try.prog 61 2 = some (2, 1) := by kernel_rfl
theorem tl_62 : tload Try.prog 62 = some (some 4) := by kernel_rfl
theorem ts_62 : tst Try.prog 62 = some 4 := by kernel_rfl
theorem tz_62 : tz Try.prog 62 = some [.st [], .int .i64 0, .int .i64 0, .int .i64 0] := by kernel_rfl
theorem tsz_62 : tsz Try.prog 62 = 4 := by kernel_rfl
theorem tag_62 : tagg Try.prog 62 = true := by kernel_rfl
theorem tb_62 : tbuild Try.prog 62 = some [.st [], .int .i64 0, .int .i64 0, .int .i64 0] := by kernel_rfl
theorem tf_62_0 : tfld Try.prog 62 0 = some (0, 1) := by kernel_rfl
theorem tf_62_1 : tfld Try.prog 62 1 = some (1, 1) := by kernel_rfl
theorem tf_62_2 : tfld Try.prog 62 2 = some (2, 1) := by kernel_rfl
theorem tf_62_3 : tfld Try.prog 62 3 = some (3, 1) := by kernel_rfl
theorem tl_63 : tload Try.prog 63 = some none := by kernel_rfl
theorem ts_63 : tst Try.prog 63 = some 1 := by kernel_rfl
theorem tz_63 : tz Try.prog 63 = some [.nil] := by kernel_rfl
theorem tsl_63 : tsl Try.prog 63 = some (231, 2) := by kernel_rfl
theorem tl_64 : tload Try.prog 64 = some (some 3) := by kernel_rfl
theorem ts_64 : tst Try.prog 64 = some 3 := by kernel_rfl
theorem tz_64 : tz Try.prog 64 = some [.int .i64 0, .st [], .nil] := by kernel_rfl
theorem tsz_64 : tsz Try.prog 64 = 3 := by kernel_rfl
theorem tag_64 : tagg Try.prog 64 = true := by kernel_rfl
theorem tb_64 : tbuild Try.prog 64 = some [.int .i64 0, .st [], .nil] := by kernel_rfl
theorem tf_64_0 : tfld Try.prog 64 0 = some (0, 1) := by kernel_rfl
theorem tf_64_1 : tfld Try.prog 64 1 = some (1, 1) := by kernel_rfl
theorem tf_64_2 : tfld Try.prog 64 2 = some (2, 1) := by kernel_rfl
theorem tl_65 : tload Try.prog 65 = some (some 3) := by kernel_rfl
theorem ts_65 : tst Try.prog 65 = some 3 := by kernel_rfl
theorem tz_65 : tz Try.prog 65 = some [.int .i64 0, .st [], .nil] := by kernel_rfl
theorem tsz_65 : tsz Try.prog 65 = 3 := by kernel_rfl
theorem tag_65 : tagg Try.prog 65 = true := by kernel_rfl
theorem tb_65 : tbuild Try.prog 65 = some [.int .i64 0, .st [], .nil] := by kernel_rfl
theorem tf_65_0 : tfld Try.prog 65 0 = some (0, 1) := by kernel_rfl
theorem tf_65_1 : tfld Try.prog 65 1 = some (1, 1) := by kernel_rfl
theorem tf_65_2 : tfld Try.prog 65 2 = some (2, 1) := by kernel_rfl
theorem tl_66 : tload Try.prog 66 = some (some 25) := by kernel_rfl
theorem ts_66 : tst Try.prog 66 = some 25 := by kernel_rfl
theorem tz_66 : tz Try.prog 66 = some [.int .i64 0, .int .i64 0, .int .i64 0, .int .i64 0, .int .i64 0, .int .i64 0, .nil, .nil, .nil, .nil, .int .i64 0, .int .i64 0, .int .i64 0, .st [], .int .i64 0, .int .i64 0, .int .i64 0, .int .i64 0, .st [], .nil, .nil, .nil, .int .i64 0, .int .i64 0, .int .i64 0] := by kernel_rfl
theorem tsz_66 : tsz Try.prog 66 = 25 := by kernel_rfl
theorem tag_66 : tagg Try.prog 66 = true := by kernel_rfl
theorem tb_66 : tbuild Try.prog 66 = some [.int .i64 0, .int .i64 0, .int .i64 0, .int .i64 0, .int .i64 0, .int .i64 0, .nil, .nil, .nil, .nil, .int .i64 0, .int .i64 0, .int .i64 0, .st [], .int .i64 0, .int .i64 0, .int .i64 0, .int .i64 0, .st [], .nil, .nil, .nil, .int .i64 0, .int .i64 0, .int .i64 0] := by kernel_rfl
theorem tf_66_0 : tfld Try.prog 66 0 = some (0, 1) := by kernel_rfl
theorem tf_66_1 : tfld Try.prog 66 1 = some (1, 1) := by kernel_rfl
theorem tf_66_2 : tfld Try.prog 66 2 = some (2, 1) := by kernel_rfl
theorem tf_66_3 : tfld Try.prog 66 3 = some (3, 1) := by kernel_rfl
theorem tf_66_4 : tfld Try.prog 66 4 = some (4, 2) := by kernel_rfl
theorem tf_66_5 : tfld Try.prog 66 5 = some (6, 1) := by kernel_rfl
theorem tf_66_6 : tfld Try.prog 66 6 = some (7, 1) := by kernel_rfl
theorem tf_66_7 : tfld Try.prog 66 7 = some (8, 1) := by kernel_rfl
theorem tf_66_8 : tfld Try.prog 66 8 = some (9, 1) := by kernel_rfl
theorem tf_66_9 : tfld Try.prog 66 9 = some (10, 3) := by kernel_rfl
theorem tf_66_10 : tfld Try.prog 66 10 = some (13, 4) := by kernel_rfl
theorem tf_66_11 : tfld Try.prog 66 11 = some (17, 3) := by kernel_rfl
theorem tf_66_12 : tfld Try.prog 66 12 = some (20, 1) := by kernel_rfl
theorem tf_66_13 : tfld Try.prog 66 13 = some (21, 1) := by kernel_rfl
theorem tf_66_14 : tfld Try.prog 66 14 = some (22, 1) := by kernel_rfl
theorem tf_66_15 : tfld Try.prog 66 15 = some (23, 1) := by kernel_rfl
theorem tf_66_16 : tfld Try.prog 66 16 = some (24, 1) := by kernel_rfl
theorem tl_67 : tload Try.prog 67 = some (some 25) := by kernel_rfl
theorem ts_67 : tst Try.prog 67 = some 25 := by kernel_rfl
theorem tz_67 : tz Try.prog 67 = some [.int .i64 0, .int .i64 0, .int .i64 0, .int .i64 0, .int .i64 0, .int .i64 0, .nil, .nil, .nil, .nil, .int .i64 0, .int .i64 0, .int .i64 0, .st [], .int .i64 0, .int .i64 0, .int .i64 0, .int .i64 0, .st [], .nil, .nil, .nil, .int .i64 0, .int .i64 0, .int .i64 0] := by kernel_rfl
theorem tsz_67 : tsz Try.prog 67 = 25 := by kernel_rfl
theorem tag_67 : tagg Try.prog 67 = true := by kernel_rfl
theorem tb_67 : tbuild Try.prog 67 = some [.int .i64 0, .int .i64 0, .int .i64 0, .int .i64 0, .int .i64 0, .int .i64 0, .nil, .nil, .nil, .nil, .int .i64 0, .int .i64 0, .int .i64 0, .st [], .int .i64 0, .int .i64 0, .int .i64 0, .int .i64 0, .st [], .nil, .nil, .nil, .int .i64 0, .int .i64 0, .int .i64 0] := by kernel_rfl
theorem tf_67_0 : tfld Try.prog 67 0 = some (0, 1) := by kernel_rfl
theorem tf_67_1 : tfld Try.prog 67 1 = some (1, 1) := by kernel_rfl
theorem tf_67_2 : tfld Try.prog 67 2 = some (2, 1) := by kernel_rfl
theorem tf_67_3 : tfld Try.prog 67 3 = some (3, 1) := by kernel_rfl
theorem tf_67_4 : tfld Try.prog 67 4 = some (4, 2) := by kernel_rfl
theorem tf_67_5 : tfld Try.prog 67 5 = some (6, 1) := by kernel_rfl
theorem tf_67_6 : tfld Try.prog 67 6 = some (7, 1) := by kernel_rfl
theorem tf_67_7 : tfld Try.prog 67 7 = some (8, 1) := by kernel_rfl
theorem tf_67_8 : tfld Try.prog 67 8 = some (9, 1) := by kernel_rfl
theorem tf_67_9 : tfld Try.prog 67 9 = some (10, 3) := by kernel_rfl
theorem tf_67_10 : tfld Try.prog 67 10 = some (13, 4) := by kernel_rfl
theorem tf_67_11 : tfld Try.prog 67 11 = some (17, 3) := by kernel_rfl
theorem tf_67_12 : tfld Try.prog 67 12 = some (20, 1) := by kernel_rfl
theorem tf_67_13 : tfld Try.prog 67 13 = some (21, 1) := by kernel_rfl
theorem tf_67_14 : tfld Try.prog 67 14 = some (22, 1) := by kernel_rfl
theorem tf_67_15 : tfld Try.prog 67 15 = some (23, 1) := by kernel_rfl
theorem tf_67_16 : tfld Try.prog 67 16 = some (24, 1) := by kernel_rfl
theorem tl_76 : tload Try.prog 76 = some none := by kernel_rfl
theorem ts_76 : tst Try.prog 76 = some 1 := by kernel_rfl
theorem tz_76 : tz Try.prog 76 = some [.nil] := by kernel_rfl
theorem tsl_76 : tsl Try.prog 76 = some (137, 3) := by kernel_rfl
theorem tl_81 : tload Try.prog 81 = some none := by kernel_rfl
theorem ts_81 : tst Try.prog 81 = some 1 := by kernel_rfl
theorem tz_81 : tz Try.prog 81 = some [.nil] := by kernel_rfl
theorem tsl_81 : tsl Try.prog 81 = some (9, 1) := by kernel_rfl
theorem tl_85 : tload Try.prog 85 = some none := by kernel_rfl
theorem ts_85 : tst Try.prog 85 = some 1 := by kernel_rfl
theorem tz_85 : tz Try.prog 85 = some [.nil] := by kernel_rfl
theorem tsl_85 : tsl Try.prog 85 = some (25, 19) := by kernel_rfl
theorem tl_86 : tload Try.prog 86 = some none := by kernel_rfl
theorem ts_86 : tst Try.prog 86 = some 1 := by kernel_rfl
theorem tz_86 : tz Try.prog 86 = some [.nil] := by kernel_rfl
theorem tsl_86 : tsl Try.prog 86 = some (23, 5) := by kernel_rfl
theorem tl_87 : tload Try.prog 87 = some (some 2) := by kernel_rfl
theorem ts_87 : tst Try.prog 87 = some 2 := by kernel_rfl
theorem tz_87 : tz Try.prog 87 = some [.nil, .nil] := by kernel_rfl
theorem tsz_87 : tsz Try.prog 87 = 2 := by kernel_rfl
theorem tag_87 : tagg Try.prog 87 = true := by kernel_rfl
theorem tb_87 : tbuild Try.prog 87 = some [.nil, .nil] := by kernel_rfl
theorem tf_87_0 : tfld Try.prog 87 0 = some (0, 1) := by kernel_rfl
theorem tf_87_1 : tfld Try.prog 87 1 = some (1, 1) := by kernel_rfl
theorem tl_88 : tload Try.prog 88 = some (some 2) := by kernel_rfl
theorem ts_88 : tst Try.prog 88 = some 2 := by kernel_rfl
theorem tz_88 : tz Try.prog 88 = some [.nil, .nil] := by kernel_rfl
theorem tsz_88 : tsz Try.prog 88 = 2 := by kernel_rfl
theorem tag_88 : tagg Try.prog 88 = true := by kernel_rfl
theorem tb_88 : tbuild Try.prog 88 = some [.nil, .nil] := by kernel_rfl
theorem tf_88_0 : tfld Try.prog 88 0 = some (0, 1) := by kernel_rfl
theorem tf_88_1 : tfld Try.prog 88 1 = some (1, 1) := by kernel_rfl
theorem tl_89 : tload Try.prog 89 = some (some 61) := by kernel_rfl
theorem ts_89 : tst Try.prog 89 = some 61 := by kernel_rfl
theorem tz_89 : tz Try.prog 89 = some [.int .i64 0, .int .i64 0, .int .i64 0, .int .i64 0, .int .i64 0, .int .i64 0, .nil, .nil, .nil, .nil, .int .i64 0, .int .i64 0, .int .i64 0, .st [], .int .i64 0, .int .i64 0, .int .i64 0, .int .i64 0, .st [], .nil, .nil, .nil, .int .i64 0, .int .i64 0, .int .i64 0, .int .i64 0, .int .i64 0, .int .i64 0, .int .i64 0, .int .i64 0, .int .i64 0, .nil, .nil, .nil, .nil, .int .i64 0, .int .i64 0, .int .i64 0, .st [], .int .i64 0, .int .i64 0, .int .i64 0, .int .i64 0, .st [], .nil, .nil, .nil, .int .i64 0, .int .i64 0, .int .i64 0, .nil, .nil, .st [], .st [], .st [], .st [], .nil, .nil, .nil, .nil, .nil] := by kernel_rfl
theorem tsz_89 : tsz Try.prog 89 = 61 := by kernel_rfl
theorem tag_89 : tagg Try.prog 89 = true := by kernel_rfl
theorem tb_89 : tbuild Try.prog 89 = some [.int .i64 0, .int .i64 0, .int .i64 0, .int .i64 0, .int .i64 0, .int .i64 0, .nil, .nil, .nil, .nil, .int .i64 0, .int .i64 0, .int .i64 0, .st [], .int .i64 0, .int .i64 0, .int .i64 0, .int .i64 0, .st [], .nil, .nil, .nil, .int .i64 0, .int .i64 0, .int .i64 0, .int .i64 0, .int .i64 0, .int .i64 0, .int .i64 0, .int .i64 0, .int .i64 0, .nil, .nil, .nil, .nil, .int .i64 0, .int .i64 0, .int .i64 0, .st [], .int .i64 0, .int .i64 0, .int .i64 0, .int .i64 0, .st [], .nil, .nil, .nil, .int .i64 0, .int .i64 0, .int .i64 0, .nil, .nil, .st [], .st [], .st [], .st [], .nil, .nil, .nil, .nil, .nil] := by kernel_rfl
theorem tf_89_0 : tfld Try.prog 89 0 = some (0, 25) := by kernel_rfl
theorem tf_89_1 : tfld Try.prog 89 1 = some (25, 25) := by kernel_rfl
theorem tf_89_2 : tfld Try.prog 89 2 = some (50, 1) := by kernel_rfl
theorem tf_89_3 : tfld Try.prog 89 3 = some (51, 1) := by kernel_rfl
theorem tf_89_4 : tfld Try.prog 89 4 = some (52, 1) := by kernel_rfl
theorem tf_89_5 : tfld Try.prog 89 5 = some (53, 1) := by kernel_rfl
theorem tf_89_6 : tfld Try.prog 89 6 = some (54, 1) := by kernel_rfl
theorem tf_89_7 : tfld Try.prog 89 7 = some (55, 1) := by kernel_rfl
theorem tf_89_8 : tfld Try.prog 89 8 = some (56, 2) := by kernel_rfl
theorem tf_89_9 : tfld Try.prog 89 9 = some (58, 1) := by kernel_rfl
theorem tf_89_10 : tfld Try.prog 89 10 = some (59, 1) := by kernel_rfl
theorem tf_89_11 : tfld Try.prog 89 11 = some (60, 1) := by kernel_rfl
theorem tl_90 : tload Try.prog 90 = some (some 61) := by kernel_rfl
theorem ts_90 : tst Try.prog 90 = some 61 := by kernel_rfl
theorem tz_90 : tz Try.prog 90 = some [.int .i64 0, .int .i64 0, .int .i64 0, .int .i64 0, .int .i64 0, .int .i64 0, .nil, .nil, .nil, .nil, .int .i64 0, .int .i64 0, .int .i64 0, .st [], .int .i64 0, .int .i64 0, .int .i64 0, .int .i64 0, .st [], .nil, .nil, .nil, .int .i64 0, .int .i64 0, .int .i64 0, .int .i64 0, .int .i64 0, .int .i64 0, .int .i64 0, .int .i64 0, .int .i64 0, .nil, .nil, .nil, .nil, .int .i64 0, .int .i64 0, .int .i64 0, .st [], .int .i64 0, .int .i64 0, .int .i64 0, .int .i64 0, .st [], .nil, .nil, .nil, .int .i64 0, .int .i64 0, .int .i64 0, .nil, .nil, .st [], .st [], .st [], .st [], .nil, .nil, .nil, .nil, .nil] := by kernel_rfl
theorem tsz_90 : tsz Try.prog 90 = 61 := by kernel_rfl
theorem tag_90 : tagg Try.prog 90 = true := by kernel_rfl
theorem tb_90 : tbuild Try.prog 90 = some [.int .i64 0, .int .i64 0, .int .i64 0, .int .i64 0, .int .i64 0, .int .i64 0, .nil, .nil, .nil, .nil, .int .i64 0, .int .i64 0, .int .i64 0, .st [], .int .i64 0, .int .i64 0, .int .i64 0, .int .i64 0, .st [], .nil, .nil, .nil, .int .i64 0, .int .i64 0, .int .i64 0, .int .i64 0, .int .i64 0, .int .i64 0, .int .i64 0, .int .i64 0, .int .i64 0, .nil, .nil, .nil, .nil, .int .i64 0, .int .i64 0, .int .i64 0, .st [], .int .i64 0, .int .i64 0, .int .i64 0, .int .i64 0, .st [], .nil, .nil, .nil, .int .i64 0, .int .i64 0, .int .i64 0, .nil, .nil, .st [], .st [], .st [], .st [], .nil, .nil, .nil, .nil, .nil] := by kernel_rfl
theorem tf_90_0 : tfld Try.prog 90 0 = some (0, 25) := by kernel_rfl
theorem tf_90_1 : tfld Try.prog 90 1 = some (25, 25) := by kernel_rfl
theorem tf_90_2 : tfld Try.prog 90 2 = some (50, 1) := by kernel_rfl
theorem tf_90_3 : tfld Try.prog 90 3 = some (51, 1) := by kernel_rfl
theorem tf_90_4 : tfld Try.prog 90 4 = some (52, 1) := by kernel_rfl
theorem tf_90_5 : tfld Try.prog 90 5 = some (53, 1) := by kernel_rfl
theorem tf_90_6 : tfld Try.prog 90 6 = some (54, 1) := by kernel_rfl
theorem tf_90_7 : tfld Try.prog 90 7 = some (55, 1) := by kernel_rfl
theorem tf_90_8 : tfld Try.prog 90 8 = some (56, 2) := by kernel_rfl
theorem tf_90_9 : tfld Try.prog 90 9 = some (58, 1) := by kernel_rfl
theorem tf_90_10 : tfld Try.prog 90 10 = some (59, 1) := by kernel_rfl
theorem tf_90_11 : tfld Try.prog 90 11 = some (60, 1) := by kernel_rfl
theorem tl_93 : tload Try.prog 93 = some none := by kernel_rfl
theorem ts_93 : tst Try.prog 93 = some 1 := by kernel_rfl
theorem tz_93 : tz Try.prog 93 = some [.nil] := by kernel_rfl
theorem tsl_93 : tsl Try.prog 93 = some (30, 19) := by kernel_rfl
theorem tl_94 : tload Try.prog 94 = some none := by kernel_rfl
theorem ts_94 : tst Try.prog 94 = some 1 := by kernel_rfl
theorem tz_94 : tz Try.prog 94 = some [.nil] := by kernel_rfl
theorem tsl_94 : tsl Try.prog 94 = some (28, 5) := by kernel_rfl
theorem tl_95 : tload Try.prog 95 = some (some 2) := by kernel_rfl
theorem ts_95 : tst Try.prog 95 = some 2 := by kernel_rfl
theorem tz_95 : tz Try.prog 95 = some [.nil, .nil] := by kernel_rfl
theorem tsz_95 : tsz Try.prog 95 = 2 := by kernel_rfl
theorem tag_95 : tagg Try.prog 95 = true := by kernel_rfl
theorem tb_95 : tbuild Try.prog 95 = some [.nil, .nil] := by kernel_rfl
theorem tf_95_0 : tfld Try.prog 95 0 = some (0, 1) := by kernel_rfl
theorem tf_95_1 : tfld Try.prog 95 1 = some (1, 1) := by kernel_rfl
theorem tl_96 : tload Try.prog 96 = some (some 2) := by kernel_rfl
theorem ts_96 : tst Try.prog 96 = some 2 := by kernel_rfl
theorem tz_96 : tz Try.prog 96 = some [.nil, .nil] := by kernel_rfl
theorem tsz_96 : tsz Try.prog 96 = 2 := by kernel_rfl
theorem tag_96 : tagg Try.prog 96 = true := by kernel_rfl
theorem tb_96 : tbuild Try.prog 96 = some [.nil, .nil] := by kernel_rfl
theorem tf_96_0 : tfld Try.prog 96 0 = some (0, 1) := by kernel_rfl
theorem tf_96_1 : tfld Try.prog 96 1 = some (1, 1) := by kernel_rfl
theorem tl_97 : tload Try.prog 97 = some (some 61) := by kernel_rfl
theorem ts_97 : tst Try.prog 97 = some 61 := by kernel_rfl
theorem tz_97 : tz Try.prog 97 = some [.int .i64 0, .int .i64 0, .int .i64 0, .int .i64 0, .int .i64 0, .int .i64 0, .nil, .nil, .nil, .nil, .int .i64 0, .int .i64 0, .int .i64 0, .st [], .int .i64 0, .int .i64 0, .int .i64 0, .int .i64 0, .st [], .nil, .nil, .nil, .int .i64 0, .int .i64 0, .int .i64 0, .int .i64 0, .int .i64 0, .int .i64 0, .int .i64 0, .int .i64 0, .int .i64 0, .nil, .nil, .nil, .nil, .int .i64 0, .int .i64 0, .int .i64 0, .st [], .int .i64 0, .int .i64 0, .int .i64 0, .int .i64 0, .st [], .nil, .nil, .nil, .int .i64 0, .int .i64 0, .int .i64 0, .nil, .nil, .st [], .st [], .st [], .st [], .nil, .nil, .nil, .nil, .nil] := by kernel_rfl
theorem tsz_97 : tsz Try.prog 97 = 61 := by kernel_rfl
theorem tag_97 : tagg Try.prog 97 = true := by kernel_rfl
theorem tb_97 : tbuild Try.prog 97 = some [.int .i64 0, .int .i64 0, .int .i64 0, .int .i64 0, .int .i64 0, .int .i64 0, .nil, .nil, .nil, .nil, .int .i64 0, .int .i64 0, .int .i64 0, .st [], .int .i64 0, .int .i64 0, .int .i64 0, .int .i64 0, .st [], .nil, .nil, .nil, .int .i64 0, .int .i64 0, .int .i64 0, .int .i64 0, .int .i64 0, .int .i64 0, .int .i64 0, .int .i64 0, .int .i64 0, .nil, .nil, .nil, .nil, .int .i64 0, .int .i64 0, .int .i64 0, .st [], .int .i64 0, .int .i64 0, .int .i64 0, .int .i64 0, .st [], .nil, .nil, .nil, .int .i64 0, .int .i64 0, .int .i64 0, .nil, .nil, .st [], .st [], .st [], .st [], .nil, .nil, .nil, .nil, .nil] := by kernel_rfl
theorem tf_97_0 : tfld Try.prog 97 0 = some (0, 25) := by kernel_rfl
theorem tf_97_1 : tfld Try.prog 97 1 = some (25, 25) := by kernel_rfl
theorem tf_97_2 : tfld Try.prog 97 2 = some (50, 1) := by kernel_rfl
theorem tf_97_3 : tfld Try.prog 97 3 = some (51, 1) := by kernel_rfl
theorem tf_97_4 : tfld Try.prog 97 4 = some (52, 1) := by kernel_rfl
theorem tf_97_5 : tfld Try.prog 97 5 = some (53, 1) := by kernel_rfl
theorem tf_97_6 : tfld Try.prog 97 6 = some (54, 1) := by kernel_rfl
theorem tf_97_7 : tfld Try.prog 97 7 = some (55, 1) := by kernel_rfl
theorem tf_97_8 : tfld Try.prog 97 8 = some (56, 2) := by kernel_rfl
theorem tf_97_9 : tfld Try.prog 97 9 = some (58, 1) := by kernel_rfl
theorem tf_97_10 : tfld Try.prog 97 10 = some (59, 1) := by kernel_rfl
theorem tf_97_11 : tfld Try.prog 97 11 = some (60, 1) := by kernel_rfl
theorem tl_98 : tload Try.prog 98 = some (some 61) := by kernel_rfl
theorem ts_98 : tst Try.prog 98 = some 61 := by kernel_rfl
theorem tz_98 : tz Try.prog 98 = some [.int .i64 0, .int .i64 0, .int .i64 0, .int .i64 0, .int .i64 0, .int .i64 0, .nil, .nil, .nil, .nil, .int .i64 0, .int .i64 0, .int .i64 0, .st [], .int .i64 0, .int .i64 0, .int .i64 0, .int .i64 0, .st [], .nil, .nil, .nil, .int .i64 0, .int .i64 0, .int .i64 0, .int .i64 0, .int .i64 0, .int .i64 0, .int .i64 0, .int .i64 0, .int .i64 0, .nil, .nil, .nil, .nil, .int .i64 0, .int .i64 0, .int .i64 0, .st [], .int .i64 0, .int .i64 0, .int .i64 0, .int .i64 0, .st [], .nil, .nil, .nil, .int .i64 0, .int .i64 0, .int .i64 0, .nil, .nil, .st [], .st [], .st [], .st [], .nil, .nil, .nil, .nil, .nil] := by kernel_rfl
theorem tsz_98 : tsz Try.prog 98 = 61 := by kernel_rfl
theorem tag_98 : tagg Try.prog 98 = true := by kernel_rfl
theorem tb_98 : tbuild Try.prog 98 = some [.int .i64 0, .int .i64 0, .int .i64 0, .int .i64 0, .int .i64 0, .int .i64 0, .nil, .nil, .nil, .nil, .int .i64 0, .int .i64 0, .int .i64 0, .st [], .int .i64 0, .int .i64 0, .int .i64 0, .int .i64 0, .st [], .nil, .nil, .nil, .int .i64 0, .int .i64 0, .int .i64 0, .int .i64 0, .int .i64 0, .int .i64 0, .int .i64 0, .int .i64 0, .int .i64 0, .nil, .nil, .nil, .nil, .int .i64 0, .int .i64 0, .int .i64 0, .st [], .int .i64 0, .int .i64 0, .int .i64 0, .int .i64 0, .st [], .nil, .nil, .nil, .int .i64 0, .int .i64 0, .int .i64 0, .nil, .nil, .st [], .st [], .st [], .st [], .nil, .nil, .nil, .nil, .nil] := by kernel_rfl
theorem tf_98_0 : tfld Try.prog 98 0 = some (0, 25) := by kernel_rfl
theorem tf_98_1 : tfld Try.prog 98 1 = some (25, 25) := by kernel_rfl
theorem tf_98_2 : tfld Try.prog 98 2 = some (50, 1) := by kernel_rfl
theorem tf_98_3 : tfld Try.prog 98 3 = some (51, 1) := by kernel_rfl
theorem tf_98_4 : tfld Try.prog 98 4 = some (52, 1) := by kernel_rfl
theorem tf_98_5 : tfld Try.prog 98 5 = some (53, 1) := by kernel_rfl
theorem tf_98_6 : tfld Try.prog 98 6 = some (54, 1) := by kernel_rfl
theorem tf_98_7 : tfld Try.prog 98 7 = some (55, 1) := by kernel_rfl
theorem tf_98_8 : tfld Try.prog 98 8 = some (56, 2) := by kernel_rfl
theorem tf_98_9 : tfld Try.prog 98 9 = some (58, 1) := by kernel_rfl
theorem tf_98_10 : tfld Try.prog 98 10 = some (59, 1) := by kernel_rfl
theorem tf_98_11 : tfld Try.prog 98 11 = some (60, 1) := by kernel_rfl
theorem tl_116 : tload Try.prog 116 = some none := by kernel_rfl
theorem ts_116 : tst Try.prog 116 = some 1 := by kernel_rfl
theorem tz_116 : tz Try.prog 116 = some [.nil] := by kernel_rfl
theorem tsl_116 : tsl Try.prog 116 = some (119, 1) := by kernel_rfl
theorem tl_118 : tload Try.prog 118 = some none := by kernel_rfl
theorem ts_118 : tst Try.prog 118 = some 1 := by kernel_rfl
theorem tz_118 : tz Try.prog 118 = some [.un] := by kernel_rfl
theorem tl_119 : tload Try.prog 119 = some none := by kernel_rfl
theorem ts_119 : tst Try.prog 119 = some 1 := by kernel_rfl
theorem tz_119 : tz Try.prog 119 = some [.un] := by kernel_rfl
theorem tl_124 : tload Try.prog 124 = some none := by kernel_rfl
theorem ts_124 : tst Try.prog 124 = some 1 := by kernel_rfl
theorem tz_124 : tz Try.prog 124 = some [.nil] := by kernel_rfl
theorem tsl_124 : tsl Try.prog 124 = some (34, 2) := by kernel_rfl
theorem tl_136 : tload Try.prog 136 = some (some 3) := by kernel_rfl
theorem ts_136 : tst Try.prog 136 = some 3 := by kernel_rfl
theorem tz_136 : tz Try.prog 136 = some [.int .i64 0, .int .i64 0, .int .i64 0] := by kernel_rfl
theorem tsz_136 : tsz Try.prog 136 = 3 := by kernel_rfl
theorem tag_136 : tagg Try.prog 136 = true := by kernel_rfl
theorem tb_136 : tbuild Try.prog 136 = some [.int .i64 0, .int .i64 0, .int .i64 0] := by kernel_rfl
theorem tf_136_0 : tfld Try.prog 136 0 = some (0, 1) := by kernel_rfl
theorem tf_136_1 : tfld Try.prog 136 1 = some (1, 1) := by kernel_rfl
theorem tf_136_2 : tfld Try.prog 136 2 = some (2, 1) := by kernel_rfl
theorem tl_137 : tload Try.prog 137 = some (some 3) := by kernel_rfl
theorem ts_137 : tst Try.prog 137 = some 3 := by kernel_rfl
theorem tz_137 : tz Try.prog 137 = some [.int .i64 0, .int .i64 0, .int .i64 0] := by kernel_rfl
theorem tsz_137 : tsz Try.prog 137 = 3 := by kernel_rfl
theorem tag_137 : tagg Try.prog 137 = true := by kernel_rfl
theorem tb_137 : tbuild Try.prog 137 = some [.int .i64 0, .int .i64 0, .int .i64 0] := by kernel_rfl
theorem tf_137_0 : tfld Try.prog 137 0 = some (0, 1) := by kernel_rfl
theorem tf_137_1 : tfld Try.prog 137 1 = some (1, 1) := by kernel_rfl
theorem tf_137_2 : tfld Try.prog 137 2 = some (2, 1) := by kernel_rfl
theorem tl_138 : tload Try.prog 138 = some (some 8) := by kernel_rfl
theorem ts_138 : tst Try.prog 138 = some 8 := by kernel_rfl
theorem tz_138 : tz Try.prog 138 = some [.int .i64 0, .int .i64 0, .int .i64 0, .int .i64 0, .int .i64 0, .int .i64 0, .int .i64 0, .int .i64 0] := by kernel_rfl
theorem tsz_138 : tsz Try.prog 138 = 8 := by kernel_rfl
theorem tag_138 : tagg Try.prog 138 = true := by kernel_rfl
theorem tb_138 : tbuild Try.prog 138 = some [.int .i64 0, .int .i64 0, .int .i64 0, .int .i64 0, .int .i64 0, .int .i64 0, .int .i64 0, .int .i64 0] := by kernel_rfl
theorem tf_138_0 : tfld Try.prog 138 0 = some (0, 3) := by kernel_rfl
theorem tf_138_1 : tfld Try.prog 138 1 = some (3, 1) := by kernel_rfl
theorem tf_138_2 : tfld Try.prog 138 2 = some (4, 1) := by kernel_rfl
theorem tf_138_3 : tfld Try.prog 138 3 = some (5, 1) := by kernel_rfl
theorem tf_138_4 : tfld Try.prog 138 4 = some (6, 1) := by kernel_rfl
theorem tf_138_5 : tfld Try.prog 138 5 = some (7, 1) := by kernel_rfl
theorem tl_139 : tload Try.prog 139 = some (some 8) := by kernel_rfl
theorem ts_139 : tst Try.prog 139 = some 8 := by kernel_rfl
theorem tz_139 : tz Try.prog 139 = some [.int .i64 0, .int .i64 0, .int .i64 0, .int .i64 0, .int .i64 0, .int .i64 0, .int .i64 0, .int .i64 0] := by kernel_rfl
theorem tsz_139 : tsz Try.prog 139 = 8 := by kernel_rfl
theorem tag_139 : tagg Try.prog 139 = true := by kernel_rfl
theorem tb_139 : tbuild Try.prog 139 = some [.int .i64 0, .int .i64 0, .int .i64 0, .int .i64 0, .int .i64 0, .int .i64 0, .int .i64 0, .int .i64 0] := by kernel_rfl
theorem tf_139_0 : tfld Try.prog 139 0 = some (0, 3) := by kernel_rfl
theorem tf_139_1 : tfld Try.prog 139 1 = some (3, 1) := by kernel_rfl
theorem tf_139_2 : tfld Try.prog 139 2 = some (4, 1) := by kernel_rfl
theorem tf_139_3 : tfld Try.prog 139 3 = some (5, 1) := by kernel_rfl
theorem tf_139_4 : tfld Try.prog 139 4 = some (6, 1) := by kernel_rfl
theorem tf_139_5 : tfld Try.prog 139 5 = some (7, 1) := by kernel_rfl
theorem tl_140 : tload Try.prog 140 = some none := by kernel_rfl
theorem ts_140 : tst Try.prog 140 = some 1 := by kernel_rfl
theorem tz_140 : tz Try.prog 140 = some [.int .u64 0] := by kernel_rfl
theorem tl_154 : tload Try.prog 154 = some (some 10) := by kernel_rfl
theorem ts_154 : tst Try.prog 154 = some 10 := by kernel_rfl
theorem tz_154 : tz Try.prog 154 = some [.int .i64 0, .int .i64 0, .int .i64 0, .int .i64 0, .bo false, .int .i64 0, .int .i64 0, .int .i64 0, .int .i64 0, .int .i64 0] := by kernel_rfl
theorem tsz_154 : tsz Try.prog 154 = 10 := by kernel_rfl
theorem tag_154 : tagg Try.prog 154 = true := by kernel_rfl
theorem tb_154 : tbuild Try.prog 154 = some [.int .i64 0, .int .i64 0, .int .i64 0, .int .i64 0, .bo false, .int .i64 0, .int .i64 0, .int .i64 0, .int .i64 0, .int .i64 0] := by kernel_rfl
theorem tf_154_0 : tfld Try.prog 154 0 = some (0, 3) := by kernel_rfl
theorem tf_154_1 : tfld Try.prog 154 1 = some (3, 1) := by kernel_rfl
theorem tf_154_2 : tfld Try.prog 154 2 = some (4, 1) := by kernel_rfl
theorem tf_154_3 : tfld Try.prog 154 3 = some (5, 1) := by kernel_rfl
theorem tf_154_4 : tfld Try.prog 154 4 = some (6, 1) := by kernel_rfl
theorem tf_154_5 : tfld Try.prog 154 5 = some (7, 1) := by kernel_rfl
theorem tf_154_6 : tfld Try.prog 154 6 = some (8, 1) := by kernel_rfl
theorem tf_154_7 : tfld Try.prog 154 7 = some (9, 1) := by kernel_rfl
theorem tl_155 : tload Try.prog 155 = some (some 10) := by kernel_rfl
theorem ts_155 : tst Try.prog 155 = some 10 := by kernel_rfl
theorem tz_155 : tz Try.prog 155 = some [.int .i64 0, .int .i64 0, .int .i64 0, .int .i64 0, .bo false, .int .i64 0, .int .i64 0, .int .i64 0, .int .i64 0, .int .i64 0] := by kernel_rfl
theorem tsz_155 : tsz Try.prog 155 = 10 := by kernel_rfl
theorem tag_155 : tagg Try.prog 155 = true := by kernel_rfl
theorem tb_155 : tbuild Try.prog 155 = some [.int .i64 0, .int .i64 0, .int .i64 0, .int .i64 0, .bo false, .int .i64 0, .int .i64 0, .int .i64 0, .int .i64 0, .int .i64 0] := by kernel_rfl
theorem tf_155_0 : tfld Try.prog 155 0 = some (0, 3) := by kernel_rfl
theorem tf_155_1 : tfld Try.prog 155 1 = some (3, 1) := by kernel_rfl
theorem tf_155_2 : tfld Try.prog 155 2 = some (4, 1) := by kernel_rfl
theorem tf_155_3 : tfld Try.prog 155 3 = some (5, 1) := by kernel_rfl
theorem tf_155_4 : tfld Try.prog 155 4 = some (6, 1) := by kernel_rfl
theorem tf_155_5 : tfld Try.prog 155 5 = some (7, 1) := by kernel_rfl
theorem tf_155_6 : tfld Try.prog 155 6 = some (8, 1) := by kernel_rfl
theorem tf_155_7 : tfld Try.prog 155 7 = some (9, 1) := by kernel_rfl
theorem tl_166 : tload Try.prog 166 = some (some 4) := by kernel_rfl
theorem ts_166 : tst Try.prog 166 = some 4 := by kernel_rfl
theorem tz_166 : tz Try.prog 166 = some [.int .i64 0, .int .i64 0, .bo false, .bo false] := by kernel_rfl
theorem tsz_166 : tsz Try.prog 166 = 4 := by kernel_rfl
theorem tag_166 : tagg Try.prog 166 = true := by kernel_rfl
theorem tb_166 : tbuild Try.prog 166 = some [.int .i64 0, .int .i64 0, .bo false, .bo false] := by kernel_rfl
theorem tf_166_0 : tfld Try.prog 166 0 = some (0, 1) := by kernel_rfl
theorem tf_166_1 : tfld Try.prog 166 1 = some (1, 1) := by kernel_rfl
theorem tf_166_2 : tfld Try.prog 166 2 = some (2, 1) := by kernel_rfl
theorem tf_166_3 : tfld Try.prog 166 3 = some (3, 1) := by kernel_rfl
theorem tl_167 : tload Try.prog 167 = some (some 4) := by kernel_rfl
theorem ts_167 : tst Try.prog 167 = some 4 := by kernel_rfl
theorem tz_167 : tz Try.prog 167 = some [.int .i64 0, .int .i64 0, .bo false, .bo false] := by kernel_rfl
theorem tsz_167 : tsz Try.prog 167 = 4 := by kernel_rfl
theorem tag_167 : tagg Try.prog 167 = true := by kernel_rfl
theorem tb_167 : tbuild Try.prog 167 = some [.int .i64 0, .int .i64 0, .bo false, .bo false] := by kernel_rfl
theorem tf_167_0 : tfld Try.prog 167 0 = some (0, 1) := by kernel_rfl
theorem tf_167_1 : tfld Try.prog 167 1 = some (1, 1) := by kernel_rfl
theorem tf_167_2 : tfld Try.prog 167 2 = some (2, 1) := by kernel_rfl
theorem tf_167_3 : tfld Try.prog 167 3 = some (3, 1) := by kernel_rfl
theorem tl_187 : tload Try.prog 187 = some none := by kernel_rfl
theorem ts_187 : tst Try.prog 187 = some 1 := by kernel_rfl
theorem tz_187 : tz Try.prog 187 = some [.nil] := by kernel_rfl
theorem tsl_187 : tsl Try.prog 187 = some (5, 1) := by kernel_rfl
theorem tl_189 : tload Try.prog 189 = some none := by kernel_rfl
theorem ts_189 : tst Try.prog 189 = some 1 := by kernel_rfl
theorem tz_189 : tz Try.prog 189 = some [.int .u64 0] := by kernel_rfl
theorem tl_195 : tload Try.prog 195 = some (some 4) := by kernel_rfl
theorem ts_195 : tst Try.prog 195 = some 4 := by kernel_rfl
theorem tz_195 : tz Try.prog 195 = some [.int .i64 0, .int .i64 0, .bo false, .bo false] := by kernel_rfl
theorem tsz_195 : tsz Try.prog 195 = 4 := by kernel_rfl
theorem tag_195 : tagg Try.prog 195 = true := by kernel_rfl
theorem tb_195 : tbuild Try.prog 195 = some [.int .i64 0, .int .i64 0, .bo false, .bo false] := by kernel_rfl
theorem tf_195_0 : tfld Try.prog 195 0 = some (0, 1) := by kernel_rfl
theorem tf_195_1 : tfld Try.prog 195 1 = some (1, 1) := by kernel_rfl
theorem tf_195_2 : tfld Try.prog 195 2 = some (2, 1) := by kernel_rfl
theorem tf_195_3 : tfld Try.prog 195 3 = some (3, 1) := by kernel_rfl
theorem tl_197 : tload Try.prog 197 = some (some 3) := by kernel_rfl
theorem ts_197 : tst Try.prog 197 = some 3 := by kernel_rfl
theorem tz_197 : tz Try.prog 197 = some [.int .i64 0, .int .i64 0, .int .i64 0] := by kernel_rfl
theorem tsz_197 : tsz Try.prog 197 = 3 := by kernel_rfl
theorem tag_197 : tagg Try.prog 197 = true := by kernel_rfl
theorem tb_197 : tbuild Try.prog 197 = some [.int .i64 0, .int .i64 0, .int .i64 0] := by kernel_rfl
theorem tf_197_0 : tfld Try.prog 197 0 = some (0, 1) := by kernel_rfl
theorem tf_197_1 : tfld Try.prog 197 1 = some (1, 1) := by kernel_rfl
theorem tf_197_2 : tfld Try.prog 197 2 = some (2, 1) := by kernel_rfl
theorem tl_198 : tload Try.prog 198 = some (some 10) := by kernel_rfl
theorem ts_198 : tst Try.prog 198 = some 10 := by kernel_rfl
theorem tz_198 : tz Try.prog 198 = some [.int .i64 0, .int .i64 0, .int .i64 0, .int .i64 0, .bo false, .int .i64 0, .int .i64 0, .int .i64 0, .int .i64 0, .int .i64 0] := by kernel_rfl
theorem tsz_198 : tsz Try.prog 198 = 10 := by kernel_rfl
theorem tag_198 : tagg Try.prog 198 = true := by kernel_rfl
theorem tb_198 : tbuild Try.prog 198 = some [.int .i64 0, .int .i64 0, .int .i64 0, .int .i64 0, .bo false, .int .i64 0, .int .i64 0, .int .i64 0, .int .i64 0, .int .i64 0] := by kernel_rfl
theorem tf_198_0 : tfld Try.prog 198 0 = some (0, 3) := by kernel_rfl
theorem tf_198_1 : tfld Try.prog 198 1 = some (3, 1) := by kernel_rfl
theorem tf_198_2 : tfld Try.prog 198 2 = some (4, 1) := by kernel_rfl
theorem tf_198_3 : tfld Try.prog 198 3 = some (5, 1) := by kernel_rfl
theorem tf_198_4 : tfld Try.prog 198 4 = some (6, 1) := by kernel_rfl
theorem tf_198_5 : tfld Try.prog 198 5 = some (7, 1) := by kernel_rfl
theorem tf_198_6 : tfld Try.prog 198 6 = some (8, 1) := by kernel_rfl
theorem tf_198_7 : tfld Try.prog 198 7 = some (9, 1) := by kernel_rfl
theorem tl_199 : tload Try.prog 199 = some (some 10) := by kernel_rfl
theorem ts_199 : tst Try.prog 199 = some 10 := by kernel_rfl
theorem tz_199 : tz Try.prog 199 = some [.int .i64 0, .int .i64 0, .int .i64 0, .int .i64 0, .bo false, .int .i64 0, .int .i64 0, .int .i64 0, .int .i64 0, .int .i64 0] := by kernel_rfl
theorem tsz_199 : tsz Try.prog 199 = 10 := by kernel_rfl
theorem tag_199 : tagg Try.prog 199 = true := by kernel_rfl
theorem tb_199 : tbuild Try.prog 199 = some [.int .i64 0, .int .i64 0, .int .i64 0, .int .i64 0, .bo false, .int .i64 0, .int .i64 0, .int .i64 0, .int .i64 0, .int .i64 0] := by kernel_rfl
theorem tf_199_0 : tfld Try.prog 199 0 = some (0, 3) := by kernel_rfl
theorem tf_199_1 : tfld Try.prog 199 1 = some (3, 1) := by kernel_rfl
theorem tf_199_2 : tfld Try.prog 199 2 = some (4, 1) := by kernel_rfl
theorem tf_199_3 : tfld Try.prog 199 3 = some (5, 1) := by kernel_rfl
theorem tf_199_4 : tfld Try.prog 199 4 = some (6, 1) := by kernel_rfl
theorem tf_199_5 : tfld Try.prog 199 5 = some (7, 1) := by kernel_rfl
theorem tf_199_6 : tfld Try.prog 199 6 = some (8, 1) := by kernel_rfl
theorem tf_199_7 : tfld Try.prog 199 7 = some (9, 1) := by kernel_rfl
theorem tl_201 : tload Try.prog 201 = some (some 8) := by kernel_rfl
theorem ts_201 : tst Try.prog 201 = some 8 := by kernel_rfl
theorem tz_201 : tz Try.prog 201 = some [.int .i64 0, .int .i64 0, .int .i64 0, .int .i64 0, .int .i64 0, .int .i64 0, .int .i64 0, .int .i64 0] := by kernel_rfl
theorem tsz_201 : tsz Try.prog 201 = 8 := by kernel_rfl
theorem tag_201 : tagg Try.prog 201 = true := by kernel_rfl
theorem tb_201 : tbuild Try.prog 201 = some [.int .i64 0, .int .i64 0, .int .i64 0, .int .i64 0, .int .i64 0, .int .i64 0, .int .i64 0, .int .i64 0] := by kernel_rfl
theorem tf_201_0 : tfld Try.prog 201 0 = some (0, 3) := by kernel_rfl
theorem tf_201_1 : tfld Try.prog 201 1 = some (3, 1) := by kernel_rfl
theorem tf_201_2 : tfld Try.prog 201 2 = some (4, 1) := by kernel_rfl
theorem tf_201_3 : tfld Try.prog 201 3 = some (5, 1) := by kernel_rfl
theorem tf_201_4 : tfld Try.prog 201 4 = some (6, 1) := by kernel_rfl
theorem tf_201_5 : tfld Try.prog 201 5 = some (7, 1) := by kernel_rfl
theorem tl_202 : tload Try.prog 202 = some (some 8) := by kernel_rfl
theorem ts_202 : tst Try.prog 202 = some 8 := by kernel_rfl
theorem tz_202 : tz Try.prog 202 = some [.int .i64 0, .int .i64 0, .int .i64 0, .int .i64 0, .int .i64 0, .int .i64 0, .int .i64 0, .int .i64 0] := by kernel_rfl
theorem tsz_202 : tsz Try.prog 202 = 8 := by kernel_rfl
theorem tag_202 : tagg Try.prog 202 = true := by kernel_rfl
theorem tb_202 : tbuild Try.prog 202 = some [.int .i64 0, .int .i64 0, .int .i64 0, .int .i64 0, .int .i64 0, .int .i64 0, .int .i64 0, .int .i64 0] := by kernel_rfl
theorem tf_202_0 : tfld Try.prog 202 0 = some (0, 3) := by kernel_rfl
theorem tf_202_1 : tfld Try.prog 202 1 = some (3, 1) := by kernel_rfl
theorem tf_202_2 : tfld Try.prog 202 2 = some (4, 1) := by kernel_rfl
theorem tf_202_3 : tfld Try.prog 202 3 = some (5, 1) := by kernel_rfl
theorem tf_202_4 : tfld Try.prog 202 4 = some (6, 1) := by kernel_rfl
theorem tf_202_5 : tfld Try.prog 202 5 = some (7, 1) := by kernel_rfl
theorem tl_228 : tload Try.prog 228 = some (some 2) := by kernel_rfl
theorem ts_228 : tst Try.prog 228 = some 2 := by kernel_rfl
theorem tz_228 : tz Try.prog 228 = some [.int .i64 0, .st []] := by kernel_rfl
theorem tsz_228 : tsz Try.prog 228 = 2 := by kernel_rfl
theorem tag_228 : tagg Try.prog 228 = true := by kernel_rfl
theorem tb_228 : tbuild Try.prog 228 = some [.int .i64 0, .st []] := by kernel_rfl
theorem tf_228_0 : tfld Try.prog 228 0 = some (0, 1) := by kernel_rfl
theorem tf_228_1 : tfld Try.prog 228 1 = some (1, 1) := by kernel_rfl
theorem tl_229 : tload Try.prog 229 = some (some 2) := by kernel_rfl
theorem ts_229 : tst Try.prog 229 = some 2 := by kernel_rfl
theorem tz_229 : tz Try.prog 229 = some [.int .i64 0, .st []] := by kernel_rfl
theorem tsz_229 : tsz Try.prog 229 = 2 := by kernel_rfl
theorem tag_229 : tagg Try.prog 229 = true := by kernel_rfl
theorem tb_229 : tbuild Try.prog 229 = some [.int .i64 0, .st []] := by kernel_rfl
theorem tf_229_0 : tfld Try.prog 229 0 = some (0, 1) := by kernel_rfl
theorem tf_229_1 : tfld Try.prog 229 1 = some (1, 1) := by kernel_rfl
theorem tl_231 : tload Try.prog 231 = some (some 2) := by kernel_rfl
theorem ts_231 : tst Try.prog 231 = some 2 := by kernel_rfl
theorem tz_231 : tz Try.prog 231 = some [.int .i64 0, .st []] := by kernel_rfl
theorem tsz_231 : tsz Try.prog 231 = 2 := by kernel_rfl
theorem tag_231 : tagg Try.prog 231 = true := by kernel_rfl
theorem tb_231 : tbuild Try.prog 231 = some [.int .i64 0, .st []] := by kernel_rfl
theorem tf_231_0 : tfld Try.prog 231 0 = some (0, 1) := by kernel_rfl
theorem tf_231_1 : tfld Try.prog 231 1 = some (1, 1) := by kernel_rfl
theorem tl_240 : tload Try.prog 240 = some (some 4) := by kernel_rfl
theorem ts_240 : tst Try.prog 240 = some 4 := by kernel_rfl
theorem tz_240 : tz Try.prog 240 = some [.un, .un, .un, .st []] := by kernel_rfl
theorem tsz_240 : tsz Try.prog 240 = 4 := by kernel_rfl
theorem tag_240 : tagg Try.prog 240 = true := by kernel_rfl
theorem tb_240 : tbuild Try.prog 240 = some [.un, .un, .un, .st []] := by kernel_rfl
theorem tf_240_0 : tfld Try.prog 240 0 = some (0, 1) := by kernel_rfl
theorem tf_240_1 : tfld Try.prog 240 1 = some (1, 1) := by kernel_rfl
theorem tf_240_2 : tfld Try.prog 240 2 = some (2, 1) := by kernel_rfl
theorem tf_240_3 : tfld Try.prog 240 3 = some (3, 1) := by kernel_rfl
theorem tl_242 : tload Try.prog 242 = some (some 0) := by kernel_rfl
theorem ts_242 : tst Try.prog 242 = some 0 := by kernel_rfl
theorem tl_243 : tload Try.prog 243 = some (some 0) := by kernel_rfl
theorem ts_243 : tst Try.prog 243 = some 0 := by kernel_rfl
theorem tsz_243 : tsz Try.prog 243 = 0 := by kernel_rfl
theorem tag_243 : tagg Try.prog 243 = true := by kernel_rfl
theorem tl_246 : tload Try.prog 246 = some none := by kernel_rfl
theorem ts_246 : tst Try.prog 246 = some 1 := by kernel_rfl
theorem tz_246 : tz Try.prog 246 = some [.int .u32 0] := by kernel_rfl
theorem tl_250 : tload Try.prog 250 = some none := by kernel_rfl
theorem ts_250 : tst Try.prog 250 = some 1 := by kernel_rfl
theorem tz_250 : tz Try.prog 250 = some [.un] := by kernel_rfl
theorem tl_253 : tload Try.prog 253 = some (some 11) := by kernel_rfl
theorem ts_253 : tst Try.prog 253 = some 11 := by kernel_rfl
theorem tsz_253 : tsz Try.prog 253 = 11 := by kernel_rfl
theorem tag_253 : tagg Try.prog 253 = true := by kernel_rfl
theorem tf_253_0 : tfld Try.prog 253 0 = some (0, 1) := by kernel_rfl
theorem tf_253_1 : tfld Try.prog 253 1 = some (1, 1) := by kernel_rfl
theorem tf_253_2 : tfld Try.prog 253 2 = some (2, 1) := by kernel_rfl
theorem tf_253_3 : tfld Try.prog 253 3 = some (3, 1) := by kernel_rfl
theorem tf_253_4 : tfld Try.prog 253 4 = some (4, 1) := by kernel_rfl
theorem tf_253_5 : tfld Try.prog 253 5 = some (5, 1) := by kernel_rfl
theorem tf_253_6 : tfld Try.prog 253 6 = some (6, 1) := by kernel_rfl
theorem tf_253_8 : tfld Try.prog 253 8 = some (8, 1) := by kernel_rfl
theorem tf_253_9 : tfld Try.prog 253 9 = some (9, 1) := by kernel_rfl
theorem tf_253_10 : tfld Try.prog 253 10 = some (10, 1) := by kernel_rfl
theorem tcv_3_5 : tcv Try.prog 3 5 = some (.int .u8) := by kernel_rfl
theorem tcv_3_140 : tcv Try.prog 3 140 = some (.int .u64) := by kernel_rfl
theorem tcv_5_3 : tcv Try.prog 5 3 = some (.int .i64) := by kernel_rfl
theorem tcv_187_9 : tcv Try.prog 187 9 = some .b2s := by kernel_rfl
attribute [go_sem] tl_2 ts_2 tz_2 tl_3 ts_3 tz_3 tl_4 ts_4 tz_4 tbo_4 tl_5 ts_5 tz_5 tl_9 ts_9 tz_9 tstr_9 tl_12 ts_12 tz_12 tl_21 ts_21 tz_21 tl_22 ts_22 tz_22 tsz_22 tag_22 tb_22 tf_22_0 tf_22_1 tf_22_2 tf_22_3 tf_22_4 tl_23 ts_23 tz_23 tsz_23 tag_23 tb_23
attribute [go_sem] tf_23_0 tf_23_1 tf_23_2 tf_23_3 tf_23_4 tl_24 ts_24 tz_24 tsz_24 tag_24 tb_24 tf_24_0 tf_24_1 tf_24_2 tf_24_3 tf_24_4 tf_24_5 tf_24_6 tf_24_7 tf_24_8 tf_24_9 tf_24_10 tf_24_11 tf_24_12 tf_24_13 tf_24_14 tl_25 ts_25 tz_25 tsz_25 tag_25 tb_25 tf_25_0 tf_25_1 tf_25_2 tf_25_3 tf_25_4 tf_25_5 tf_25_6 tf_25_7
attribute [go_sem] tf_25_8 tf_25_9 tf_25_10 tf_25_11 tf_25_12 tf_25_13 tf_25_14 tl_28 ts_28 tz_28 tsz_28 tag_28 tb_28 tf_28_0 tf_28_1 tf_28_2 tf_28_3 tf_28_4 tl_29 ts_29 tz_29 tsz_29 tag_29 tb_29 tf_29_0 tf_29_1 tf_29_2 tf_29_3 tf_29_4 tf_29_5 tf_29_6 tf_29_7 tf_29_8 tf_29_9 tf_29_10 tf_29_11 tf_29_12 tf_29_13 tf_29_14 tl_30
attribute [go_sem] ts_30 tz_30 tsz_30 tag_30 tb_30 tf_30_0 tf_30_1 tf_30_2 tf_30_3 tf_30_4 tf_30_5 tf_30_6 tf_30_7 tf_30_8 tf_30_9 tf_30_10 tf_30_11 tf_30_12 tf_30_13 tf_30_14 tl_33 ts_33 tz_33 tsz_33 tag_33 tb_33 tf_33_0 tf_33_1 tl_34 ts_34 tz_34 tsz_34 tag_34 tb_34 tf_34_0 tf_34_1 tl_42 ts_42 tz_42 tsz_42
attribute [go_sem] tag_42 tb_42 tf_42_0 tf_42_1 tl_43 ts_43 tz_43 tsl_43 tl_44 ts_44 tz_44 tsl_44 tl_45 ts_45 tz_45 tsl_45 tl_46 ts_46 tz_46 tsz_46 tag_46 tb_46 tf_46_0 tf_46_1 tf_46_2 tl_47 ts_47 tz_47 tsz_47 tag_47 tb_47 tf_47_0 tf_47_1 tf_47_2 tl_48 ts_48 tz_48 tsz_48 tag_48 tb_48
attribute [go_sem] tf_48_0 tf_48_1 tf_48_2 tf_48_3 tl_49 ts_49 tz_49 tsz_49 tag_49 tb_49 tf_49_0 tf_49_1 tf_49_2 tf_49_3 tl_50 ts_50 tz_50 tsl_50 tl_51 ts_51 tz_51 tsz_51 tag_51 tb_51 tf_51_0 tf_51_1 tf_51_2 tl_52 ts_52 tz_52 tsz_52 tag_52 tb_52 tf_52_0 tf_52_1 tf_52_2 tl_53 ts_53 tz_53 tsl_53
attribute [go_sem] tl_54 ts_54 tz_54 tsz_54 tag_54 tb_54 tf_54_0 tf_54_1 tf_54_2 tf_54_3 tf_54_4 tf_54_5 tf_54_6 tf_54_7 tf_54_8 tf_54_9 tf_54_10 tf_54_11 tf_54_12 tf_54_13 tf_54_14 tf_54_15 tf_54_16 tl_55 ts_55 tz_55 tsz_55 tag_55 tb_55 tf_55_0 tf_55_1 tf_55_2 tf_55_3 tf_55_4 tf_55_5 tf_55_6 tf_55_7 tf_55_8 tf_55_9 tf_55_10
attribute [go_sem] tf_55_11 tf_55_12 tf_55_13 tf_55_14 tf_55_15 tf_55_16 tl_58 ts_58 tz_58 tsl_58 tl_59 ts_59 tz_59 tsl_59 tl_60 ts_60 tz_60 tsl_60 tl_61 ts_61 tz_61 tsz_61 tag_61 tb_61 tf_61_0 tf_61_1 tf_61_2 tl_62 ts_62 tz_62 tsz_62 tag_62 tb_62 tf_62_0 tf_62_1 tf_62_2 tf_62_3 tl_63 ts_63 tz_63
attribute [go_sem] tsl_63 tl_64 ts_64 tz_64 tsz_64 tag_64 tb_64 tf_64_0 tf_64_1 tf_64_2 tl_65 ts_65 tz_65 tsz_65 tag_65 tb_65 tf_65_0 tf_65_1 tf_65_2 tl_66 ts_66 tz_66 tsz_66 tag_66 tb_66 tf_66_0 tf_66_1 tf_66_2 tf_66_3 tf_66_4 tf_66_5 tf_66_6 tf_66_7 tf_66_8 tf_66_9 tf_66_10 tf_66_11 tf_66_12 tf_66_13 tf_66_14
attribute [go_sem] tf_66_15 tf_66_16 tl_67 ts_67 tz_67 tsz_67 tag_67 tb_67 tf_67_0 tf_67_1 tf_67_2 tf_67_3 tf_67_4 tf_67_5 tf_67_6 tf_67_7 tf_67_8 tf_67_9 tf_67_10 tf_67_11 tf_67_12 tf_67_13 tf_67_14 tf_67_15 tf_67_16 tl_76 ts_76 tz_76 tsl_76 tl_81 ts_81 tz_81 tsl_81 tl_85 ts_85 tz_85 tsl_85 tl_86 ts_86 tz_86
attribute [go_sem] tsl_86 tl_87 ts_87 tz_87 tsz_87 tag_87 tb_87 tf_87_0 tf_87_1 tl_88 ts_88 tz_88 tsz_88 tag_88 tb_88 tf_88_0 tf_88_1 tl_89 ts_89 tz_89 tsz_89 tag_89 tb_89 tf_89_0 tf_89_1 tf_89_2 tf_89_3 tf_89_4 tf_89_5 tf_89_6 tf_89_7 tf_89_8 tf_89_9 tf_89_10 tf_89_11 tl_90 ts_90 tz_90 tsz_90 tag_90
attribute [go_sem] tb_90 tf_90_0 tf_90_1 tf_90_2 tf_90_3 tf_90_4 tf_90_5 tf_90_6 tf_90_7 tf_90_8 tf_90_9 tf_90_10 tf_90_11 tl_93 ts_93 tz_93 tsl_93 tl_94 ts_94 tz_94 tsl_94 tl_95 ts_95 tz_95 tsz_95 tag_95 tb_95 tf_95_0 tf_95_1 tl_96 ts_96 tz_96 tsz_96 tag_96 tb_96 tf_96_0 tf_96_1 tl_97 ts_97 tz_97
attribute [go_sem] tsz_97 tag_97 tb_97 tf_97_0 tf_97_1 tf_97_2 tf_97_3 tf_97_4 tf_97_5 tf_97_6 tf_97_7 tf_97_8 tf_97_9 tf_97_10 tf_97_11 tl_98 ts_98 tz_98 tsz_98 tag_98 tb_98 tf_98_0 tf_98_1 tf_98_2 tf_98_3 tf_98_4 tf_98_5 tf_98_6 tf_98_7 tf_98_8 tf_98_9 tf_98_10 tf_98_11 tl_116 ts_116 tz_116 tsl_116 tl_118 ts_118 tz_118
attribute [go_sem] tl_119 ts_119 tz_119 tl_124 ts_124 tz_124 tsl_124 tl_136 ts_136 tz_136 tsz_136 tag_136 tb_136 tf_136_0 tf_136_1 tf_136_2 tl_137 ts_137 tz_137 tsz_137 tag_137 tb_137 tf_137_0 tf_137_1 tf_137_2 tl_138 ts_138 tz_138 tsz_138 tag_138 tb_138 tf_138_0 tf_138_1 tf_138_2 tf_138_3 tf_138_4 tf_138_5 tl_139 ts_139 tz_139
attribute [go_sem] tsz_139 tag_139 tb_139 tf_139_0 tf_139_1 tf_139_2 tf_139_3 tf_139_4 tf_139_5 tl_140 ts_140 tz_140 tl_154 ts_154 tz_154 tsz_154 tag_154 tb_154 tf_154_0 tf_154_1 tf_154_2 tf_154_3 tf_154_4 tf_154_5 tf_154_6 tf_154_7 tl_155 ts_155 tz_155 tsz_155 tag_155 tb_155 tf_155_0 tf_155_1 tf_155_2 tf_155_3 tf_155_4 tf_155_5 tf_155_6 tf_155_7
attribute [go_sem] tl_166 ts_166 tz_166 tsz_166 tag_166 tb_166 tf_166_0 tf_166_1 tf_166_2 tf_166_3 tl_167 ts_167 tz_167 tsz_167 tag_167 tb_167 tf_167_0 tf_167_1 tf_167_2 tf_167_3 tl_187 ts_187 tz_187 tsl_187 tl_189 ts_189 tz_189 tl_195 ts_195 tz_195 tsz_195 tag_195 tb_195 tf_195_0 tf_195_1 tf_195_2 tf_195_3 tl_197 ts_197 tz_197
attribute [go_sem] tsz_197 tag_197 tb_197 tf_197_0 tf_197_1 tf_197_2 tl_198 ts_198 tz_198 tsz_198 tag_198 tb_198 tf_198_0 tf_198_1 tf_198_2 tf_198_3 tf_198_4 tf_198_5 tf_198_6 tf_198_7 tl_199 ts_199 tz_199 tsz_199 tag_199 tb_199 tf_199_0 tf_199_1 tf_199_2 tf_199_3 tf_199_4 tf_199_5 tf_199_6 tf_199_7 tl_201 ts_201 tz_201 tsz_201 tag_201 tb_201
attribute [go_sem] tf_201_0 tf_201_1 tf_201_2 tf_201_3 tf_201_4 tf_201_5 tl_202 ts_202 tz_202 tsz_202 tag_202 tb_202 tf_202_0 tf_202_1 tf_202_2 tf_202_3 tf_202_4 tf_202_5 tl_228 ts_228 tz_228 tsz_228 tag_228 tb_228 tf_228_0 tf_228_1 tl_229 ts_229 tz_229 tsz_229 tag_229 tb_229 tf_229_0 tf_229_1 tl_231 ts_231 tz_231 tsz_231 tag_231 tb_231
attribute [go_sem] tf_231_0 tf_231_1 tl_240 ts_240 tz_240 tsz_240 tag_240 tb_240 tf_240_0 tf_240_1 tf_240_2 tf_240_3 tl_242 ts_242 tl_243 ts_243 tsz_243 tag_243 tl_246 ts_246 tz_246 tl_250 ts_250 tz_250 tl_253 ts_253 tsz_253 tag_253 tf_253_0 tf_253_1 tf_253_2 tf_253_3 tf_253_4 tf_253_5 tf_253_6 tf_253_8 tf_253_9 tf_253_10 tcv_3_5 tcv_3_140
attribute [go_sem] tcv_5_3 tcv_187_9
end Go.Proofs.Ytoghbjbfldlfpaa
