/-
  The facts on the types of this translation that the runs use. (Written by facts.py.)
-/
import Derived.Test.YtjbpnmbmgkibdaaChecked
import Derived.Test.YtjbpnmbmgkibdaaVx14
import Derived.KernelRfl
namespace Go.Proofs.Ytjbpnmbmgkibdaa
theorem tl_2 : tload Try.prog 2 = some none := by kernel_rfl
theorem ts_2 : tst Try.prog 2 = some 1 := by kernel_rfl
theorem tz_2 : tz Try.prog 2 = some [.int .i64 0] := by kernel_rfl
theorem tl_3 : tload Try.prog 3 = some none := by kernel_rfl
theorem ts_3 : tst Try.prog 3 = some 1 := by kernel_rfl
theorem tz_3 : tz Try.prog 3 = some [.int .i64 0] := by kernel_rfl
theorem tl_4 : tload Try.prog 4 = some none := by kernel_rfl
theorem ts_4 : tst Try.prog 4 = some 1 := by kernel_rfl
theorem tz_4 : tz Try.prog 4 = some [.bo false] := by kernel_rfl
theorem tbo_4 : tbool Try.prog 4 = true := by kernel_rfl
theorem tl_5 : tload Try.prog 5 = some none := by kernel_rfl
theorem ts_5 : tst Try.prog 5 = some 1 := by kernel_rfl
theorem tz_5 : tz Try.prog 5 = some [.int .u8 0] := by kernel_rfl
theorem tl_9 : tload Try.prog 9 = some none := by kernel_rfl
theorem ts_9 : tst Try.prog 9 = some 1 := by kernel_rfl
theorem tz_9 : tz Try.prog 9 = some [.st []] := by kernel_rfl
theorem tstr_9 : tstr Try.prog 9 = true := by kernel_rfl
theorem tl_12 : tload Try.prog 12 = some none := by kernel_rfl
theorem ts_12 : tst Try.prog 12 = some 1 := by kernel_rfl
theorem tz_12 : tz Try.prog 12 = some [.int .u64 0] := by kernel_rfl
theorem tl_21 : tload Try.prog 21 = some none := by kernel_rfl
theorem ts_21 : tst Try.prog 21 = some 1 := by kernel_rfl
theorem tz_21 : tz Try.prog 21 = some [.int .i32 0] := by kernel_rfl
theorem tl_22 : tload Try.prog 22 = some none := by kernel_rfl
theorem ts_22 : tst Try.prog 22 = some 1 := by kernel_rfl
theorem tz_22 : tz Try.prog 22 = some [.nil] := by kernel_rfl
theorem tsl_22 : tsl Try.prog 22 = some (3, 1) := by kernel_rfl
theorem tl_26 : tload Try.prog 26 = some none := by kernel_rfl
theorem ts_26 : tst Try.prog 26 = some 1 := by kernel_rfl
theorem tz_26 : tz Try.prog 26 = some [.nil] := by kernel_rfl
theorem tsl_26 : tsl Try.prog 26 = some (36, 19) := by kernel_rfl
theorem tl_29 : tload Try.prog 29 = some none := by kernel_rfl
theorem ts_29 : tst Try.prog 29 = some 1 := by kernel_rfl
theorem tz_29 : tz Try.prog 29 = some [.nil] := by kernel_rfl
theorem tsl_29 : tsl Try.prog 29 = some (41, 19) := by kernel_rfl
theorem tl_33 : tload Try.prog 33 = some (some 5) := by kernel_rfl
theorem ts_33 : tst Try.prog 33 = some 5 := by kernel_rfl
theorem tz_33 : tz Try.prog 33 = some [.int .i64 0, .int .i64 0, .int .i64 0, .int .i64 0, .int .i64 0] := by kernel_rfl
theorem tsz_33 : tsz Try.prog 33 = 5 := by kernel_rfl
theorem tag_33 : tagg Try.prog 33 = true := by kernel_rfl
theorem tb_33 : tbuild Try.prog 33 = some [.int .i64 0, .int .i64 0, .int .i64 0, .int .i64 0, .int .i64 0] := by kernel_rfl
theorem tf_33_0 : tfld Try.prog 33 0 = some (0, 1) := by kernel_rfl
theorem tf_33_1 : tfld Try.prog 33 1 = some (1, 1) := by kernel_rfl
theorem tf_33_2 : tfld Try.prog 33 2 = some (2, 1) := by kernel_rfl
theorem tf_33_3 : tfld Try.prog 33 3 = some (3, 1) := by kernel_rfl
theorem tf_33_4 : tfld Try.prog 33 4 = some (4, 1) := by kernel_rfl
theorem tl_34 : tload Try.prog 34 = some (some 5) := by kernel_rfl
theorem ts_34 : tst Try.prog 34 = some 5 := by kernel_rfl
theorem tz_34 : tz Try.prog 34 = some [.int .i64 0, .int .i64 0, .int .i64 0, .int .i64 0, .int .i64 0] := by kernel_rfl
theorem tsz_34 : tsz Try.prog 34 = 5 := by kernel_rfl
theorem tag_34 : tagg Try.prog 34 = true := by kernel_rfl
theorem tb_34 : tbuild Try.prog 34 = some [.int .i64 0, .int .i64 0, .int .i64 0, .int .i64 0, .int .i64 0] := by kernel_rfl
theorem tf_34_0 : tfld Try.prog 34 0 = some (0, 1) := by kernel_rfl
theorem tf_34_1 : tfld Try.prog 34 1 = some (1, 1) := by kernel_rfl
theorem tf_34_2 : tfld Try.prog 34 2 = some (2, 1) := by kernel_rfl
theorem tf_34_3 : tfld Try.prog 34 3 = some (3, 1) := by kernel_rfl
theorem tf_34_4 : tfld Try.prog 34 4 = some (4, 1) := by kernel_rfl
theorem tl_35 : tload Try.prog 35 = some (some 19) := by kernel_rfl
theorem ts_35 : tst Try.prog 35 = some 19 := by kernel_rfl
theorem tz_35 : tz Try.prog 35 = some [.int .i64 0, .int .i64 0, .int .i64 0, .int .i64 0, .int .i64 0, .int .i64 0, .int .i64 0, .int .i64 0, .int .i64 0, .int .i64 0, .int .i64 0, .int .i64 0, .int .i64 0, .int .i64 0, .int .i64 0, .int .i64 0, .bo false, .int .i64 0, .st []] := by kernel_rfl
theorem tsz_35 : tsz Try.prog 35 = 19 := by kernel_rfl
theorem tag_35 : tagg Try.prog 35 = true := by kernel_rfl
theorem tb_35 : tbuild Try.prog 35 = some [.int .i64 0, .int .i64 0, .int .i64 0, .int .i64 0, .int .i64 0, .int .i64 0, .int .i64 0, .int .i64 0, .int .i64 0, .int .i64 0, .int .i64 0, .int .i64 0, .int .i64 0, .int .i64 0, .int .i64 0, .int .i64 0, .bo false, .int .i64 0, .st []] := by kernel_rfl
theorem tf_35_0 : tfld Try.prog 35 0 = some (0, 1) := by kernel_rfl
theorem tf_35_1 : tfld Try.prog 35 1 = some (1, 1) := by kernel_rfl
theorem tf_35_2 : tfld Try.prog 35 2 = some (2, 1) := by kernel_rfl
theorem tf_35_3 : tfld Try.prog 35 3 = some (3, 1) := by kernel_rfl
theorem tf_35_4 : tfld Try.prog 35 4 = some (4, 1) := by kernel_rfl
theorem tf_35_5 : tfld Try.prog 35 5 = some (5, 1) := by kernel_rfl
theorem tf_35_6 : tfld Try.prog 35 6 = some (6, 1) := by kernel_rfl
theorem tf_35_7 : tfld Try.prog 35 7 = some (7, 1) := by kernel_rfl
theorem tf_35_8 : tfld Try.prog 35 8 = some (8, 1) := by kernel_rfl
theorem tf_35_9 : tfld Try.prog 35 9 = some (9, 5) := by kernel_rfl
theorem tf_35_10 : tfld Try.prog 35 10 = some (14, 1) := by kernel_rfl
theorem tf_35_11 : tfld Try.prog 35 11 = some (15, 1) := by kernel_rfl
theorem tf_35_12 : tfld Try.prog 35 12 = some (16, 1) := by kernel_rfl
theorem tf_35_13 : tfld Try.prog 35 13 = some (17, 1) := by kernel_rfl
theorem tf_35_14 : tfld Try.prog 35 14 = some (18, 1) := by kernel_rfl
theorem tl_36 : tload Try.prog 36 = some (some 19) := by kernel_rfl
theorem ts_36 : tst Try.prog 36 = some 19 := by kernel_rfl
theorem tz_36 : tz Try.prog 36 = some [.int .i64 0, .int .i64 0, .int .i64 0, .int .i64 0, .int .i64 0, .int .i64 0, .int .i64 0, .int .i64 0, .int .i64 0, .int .i64 0, .int .i64 0, .int .i64 0, .int .i64 0, .int .i64 0, .int .i64 0, .int .i64 0, .bo false, .int .i64 0, .st []] := by kernel_rfl
theorem tsz_36 : tsz Try.prog 36 = 19 := by kernel_rfl
theorem tag_36 : tagg Try.prog 36 = true := by kernel_rfl
theorem tb_36 : tbuild Try.prog 36 = some [.int .i64 0, .int .i64 0, .int .i64 0, .int .i64 0, .int .i64 0, .int .i64 0, .int .i64 0, .int .i64 0, .int .i64 0, .int .i64 0, .int .i64 0, .int .i64 0, .int .i64 0, .int .i64 0, .int .i64 0, .int .i64 0, .bo false, .int .i64 0, .st []] := by kernel_rfl
theorem tf_36_0 : tfld Try.prog 36 0 = some (0, 1) := by kernel_rfl
theorem tf_36_1 : tfld Try.prog 36 1 = some (1, 1) := by kernel_rfl
theorem tf_36_2 : tfld Try.prog 36 2 = some (2, 1) := by kernel_rfl
theorem tf_36_3 : tfld Try.prog 36 3 = some (3, 1) := by kernel_rfl
theorem tf_36_4 : tfld Try.prog 36 4 = some (4, 1) := by kernel_rfl
theorem tf_36_5 : tfld Try.prog 36 5 = some (5, 1) := by kernel_rfl
theorem tf_36_6 : tfld Try.prog 36 6 = some (6, 1) := by kernel_rfl
theorem tf_36_7 : tfld Try.prog 36 7 = some (7, 1) := by kernel_rfl
theorem tf_36_8 : tfld Try.prog 36 8 = some (8, 1) := by kernel_rfl
theorem tf_36_9 : tfld Try.prog 36 9 = some (9, 5) := by kernel_rfl
theorem tf_36_10 : tfld Try.prog 36 10 = some (14, 1) := by kernel_rfl
theorem tf_36_11 : tfld Try.prog 36 11 = some (15, 1) := by kernel_rfl
theorem tf_36_12 : tfld Try.prog 36 12 = some (16, 1) := by kernel_rfl
theorem tf_36_13 : tfld Try.prog 36 13 = some (17, 1) := by kernel_rfl
theorem tf_36_14 : tfld Try.prog 36 14 = some (18, 1) := by kernel_rfl
theorem tl_39 : tload Try.prog 39 = some (some 5) := by kernel_rfl
theorem ts_39 : tst Try.prog 39 = some 5 := by kernel_rfl
theorem tz_39 : tz Try.prog 39 = some [.int .i64 0, .int .i64 0, .int .i64 0, .int .i64 0, .int .i64 0] := by kernel_rfl
theorem tsz_39 : tsz Try.prog 39 = 5 := by kernel_rfl
theorem tag_39 : tagg Try.prog 39 = true := by kernel_rfl
theorem tb_39 : tbuild Try.prog 39 = some [.int .i64 0, .int .i64 0, .int .i64 0, .int .i64 0, .int .i64 0] := by kernel_rfl
theorem tf_39_0 : tfld Try.prog 39 0 = some (0, 1) := by kernel_rfl
theorem tf_39_1 : tfld Try.prog 39 1 = some (1, 1) := by kernel_rfl
theorem tf_39_2 : tfld Try.prog 39 2 = some (2, 1) := by kernel_rfl
theorem tf_39_3 : tfld Try.prog 39 3 = some (3, 1) := by kernel_rfl
theorem tf_39_4 : tfld Try.prog 39 4 = some (4, 1) := by kernel_rfl
theorem tl_40 : tload Try.prog 40 = some (some 19) := by kernel_rfl
theorem ts_40 : tst Try.prog 40 = some 19 := by kernel_rfl
theorem tz_40 : tz Try.prog 40 = some [.int .i64 0, .int .i64 0, .int .i64 0, .int .i64 0, .int .i64 0, .int .i64 0, .int .i64 0, .int .i64 0, .int .i64 0, .int .i64 0, .int .i64 0, .int .i64 0, .int .i64 0, .int .i64 0, .int .i64 0, .int .i64 0, .bo false, .int .i64 0, .st []] := by kernel_rfl
theorem tsz_40 : tsz Try.prog 40 = 19 := by kernel_rfl
theorem tag_40 : tagg Try.prog 40 = true := by kernel_rfl
theorem tb_40 : tbuild Try.prog 40 = some [.int .i64 0, .int .i64 0, .int .i64 0, .int .i64 0, .int .i64 0, .int .i64 0, .int .i64 0, .int .i64 0, .int .i64 0, .int .i64 0, .int .i64 0, .int .i64 0, .int .i64 0, .int .i64 0, .int .i64 0, .int .i64 0, .bo false, .int .i64 0, .st []] := by kernel_rfl
theorem tf_40_0 : tfld Try.prog 40 0 = some (0, 1) := by kernel_rfl
theorem tf_40_1 : tfld Try.prog 40 1 = some (1, 1) := by kernel_rfl
theorem tf_40_2 : tfld Try.prog 40 2 = some (2, 1) := by kernel_rfl
theorem tf_40_3 : tfld Try.prog 40 3 = some (3, 1) := by kernel_rfl
theorem tf_40_4 : tfld Try.prog 40 4 = some (4, 1) := by kernel_rfl
theorem tf_40_5 : tfld Try.prog 40 5 = some (5, 1) := by kernel_rfl
theorem tf_40_6 : tfld Try.prog 40 6 = some (6, 1) := by kernel_rfl
theorem tf_40_7 : tfld Try.prog 40 7 = some (7, 1) := by kernel_rfl
theorem tf_40_8 : tfld Try.prog 40 8 = some (8, 1) := by kernel_rfl
theorem tf_40_9 : tfld Try.prog 40 9 = some (9, 5) := by kernel_rfl
theorem tf_40_10 : tfld Try.prog 40 10 = some (14, 1) := by kernel_rfl
theorem tf_40_11 : tfld Try.prog 40 11 = some (15, 1) := by kernel_rfl
theorem tf_40_12 : tfld Try.prog 40 12 = some (16, 1) := by kernel_rfl
theorem tf_40_13 : tfld Try.prog 40 13 = some (17, 1) := by kernel_rfl
theorem tf_40_14 : tfld Try.prog 40 14 = some (18, 1) := by kernel_rfl
theorem tl_41 : tload Try.prog 41 = some (some 19) := by kernel_rfl
theorem ts_41 : tst Try.prog 41 = some 19 := by kernel_rfl
theorem tz_41 : tz Try.prog 41 = some [.int .i64 0, .int .i64 0, .int .i64 0, .int .i64 0, .int .i64 0, .int .i64 0, .int .i64 0, .int .i64 0, .int .i64 0, .int .i64 0, .int .i64 0, .int .i64 0, .int .i64 0, .int .i64 0, .int .i64 0, .int .i64 0, .bo false, .int .i64 0, .st []] := by kernel_rfl
theorem tsz_41 : tsz Try.prog 41 = 19 := by kernel_rfl
theorem tag_41 : tagg Try.prog 41 = true := by kernel_rfl
theorem tb_41 : tbuild Try.prog 41 = some [.int .i64 0, .int .i64 0, .int .i64 0, .int .i64 0, .int .i64 0, .int .i64 0, .int .i64 0, .int .i64 0, .int .i64 0, .int .i64 0, .int .i64 0, .int .i64 0, .int .i64 0, .int .i64 0, .int .i64 0, .int .i64 0, .bo false, .int .i64 0, .st []] := by kernel_rfl
theorem tf_41_0 : tfld Try.prog 41 0 = some (0, 1) := by kernel_rfl
theorem tf_41_1 : tfld Try.prog 41 1 = some (1, 1) := by kernel_rfl
theorem tf_41_2 : tfld Try.prog 41 2 = some (2, 1) := by kernel_rfl
theorem tf_41_3 : tfld Try.prog 41 3 = some (3, 1) := by kernel_rfl
theorem tf_41_4 : tfld Try.prog 41 4 = some (4, 1) := by kernel_rfl
theorem tf_41_5 : tfld Try.prog 41 5 = some (5, 1) := by kernel_rfl
theorem tf_41_6 : tfld Try.prog 41 6 = some (6, 1) := by kernel_rfl
theorem tf_41_7 : tfld Try.prog 41 7 = some (7, 1) := by kernel_rfl
theorem tf_41_8 : tfld Try.prog 41 8 = some (8, 1) := by kernel_rfl
theorem tf_41_9 : tfld Try.prog 41 9 = some (9, 5) := by kernel_rfl
theorem tf_41_10 : tfld Try.prog 41 10 = some (14, 1) := by kernel_rfl
theorem tf_41_11 : tfld Try.prog 41 11 = some (15, 1) := by kernel_rfl
theorem tf_41_12 : tfld Try.prog 41 12 = some (16, 1) := by kernel_rfl
theorem tf_41_13 : tfld Try.prog 41 13 = some (17, 1) := by kernel_rfl
theorem tf_41_14 : tfld Try.prog 41 14 = some (18, 1) := by kernel_rfl
theorem tl_44 : tload Try.prog 44 = some (some 2) := by kernel_rfl
theorem ts_44 : tst Try.prog 44 = some 2 := by kernel_rfl
theorem tz_44 : tz Try.prog 44 = some [.int .i64 0, .int .i64 0] := by kernel_rfl
theorem tsz_44 : tsz Try.prog 44 = 2 := by kernel_rfl
theorem tag_44 : tagg Try.prog 44 = true := by kernel_rfl
theorem tb_44 : tbuild Try.prog 44 = some [.int .i64 0, .int .i64 0] := by kernel_rfl
theorem tf_44_0 : tfld Try.prog 44 0 = some (0, 1) := by kernel_rfl
theorem tf_44_1 : tfld Try.prog 44 1 = some (1, 1) := by kernel_rfl
theorem tl_45 : tload Try.prog 45 = some (some 2) := by kernel_rfl
theorem ts_45 : tst Try.prog 45 = some 2 := by kernel_rfl
theorem tz_45 : tz Try.prog 45 = some [.int .i64 0, .int .i64 0] := by kernel_rfl
theorem tsz_45 : tsz Try.prog 45 = 2 := by kernel_rfl
theorem tag_45 : tagg Try.prog 45 = true := by kernel_rfl
theorem tb_45 : tbuild Try.prog 45 = some [.int .i64 0, .int .i64 0] := by kernel_rfl
theorem tf_45_0 : tfld Try.prog 45 0 = some (0, 1) := by kernel_rfl
theorem tf_45_1 : tfld Try.prog 45 1 = some (1, 1) := by kernel_rfl
theorem tl_56 : tload Try.prog 56 = some (some 3) := by kernel_rfl
theorem ts_56 : tst Try.prog 56 = some 3 := by kernel_rfl
theorem tz_56 : tz Try.prog 56 = some [.int .i64 0, .int .i64 0, .int .i64 0] := by kernel_rfl
theorem tsz_56 : tsz Try.prog 56 = 3 := by kernel_rfl
theorem tag_56 : tagg Try.prog 56 = true := by kernel_rfl
theorem tb_56 : tbuild Try.prog 56 = some [.int .i64 0, .int .i64 0, .int .i64 0] := by kernel_rfl
theorem tf_56_0 : tfld Try.prog 56 0 = some (0, 1) := by kernel_rfl
theorem tf_56_1 : tfld Try.prog 56 1 = some (1, 1) := by kernel_rfl
theorem tf_56_2 : tfld Try.prog 56 2 = some (2, 1) := by kernel_rfl
theorem tl_57 : tload Try.prog 57 = some (some 3) := by kernel_rfl
theorem ts_57 : tst Try.prog 57 = some 3 := by kernel_rfl
theorem tz_57 : tz Try.prog 57 = some [.int .i64 0, .int .i64 0, .int .i64 0] := by kernel_rfl
theorem tsz_57 : tsz Try.prog 57 = 3 := by kernel_rfl
theorem tag_57 : tagg Try.prog 57 = true := by kernel_rfl
theorem tb_57 : tbuild Try.prog 57 = some [.int .i64 0, .int .i64 0, .int .i64 0] := by kernel_rfl
theorem tf_57_0 : tfld Try.prog 57 0 = some (0, 1) := by kernel_rfl
theorem tf_57_1 : tfld Try.prog 57 1 = some (1, 1) := by kernel_rfl
theorem tf_57_2 : tfld Try.prog 57 2 = some (2, 1) := by kernel_rfl
theorem tl_66 : tload Try.prog 66 = some none := by kernel_rfl
theorem ts_66 : tst Try.prog 66 = some 1 := by kernel_rfl
theorem tz_66 : tz Try.prog 66 = some [.nil] := by kernel_rfl
theorem tsl_66 : tsl Try.prog 66 = some (69, 1) := by kernel_rfl
theorem tl_68 : tload Try.prog 68 = some none := by kernel_rfl
theorem ts_68 : tst Try.prog 68 = some 1 := by kernel_rfl
theorem tz_68 : tz Try.prog 68 = some [.un] := by kernel_rfl
theorem tl_69 : tload Try.prog 69 = some none := by kernel_rfl
theorem ts_69 : tst Try.prog 69 = some 1 := by kernel_rfl
theorem tz_69 : tz Try.prog 69 = some [.un] := by kernel_rfl
theorem tl_70 : tload Try.prog 70 = some none := by kernel_rfl
theorem ts_70 : tst Try.prog 70 = some 1 := by kernel_rfl
theorem tz_70 : tz Try.prog 70 = some [.nil] := by kernel_rfl
theorem tsl_70 : tsl Try.prog 70 = some (9, 1) := by kernel_rfl
theorem tl_76 : tload Try.prog 76 = some none := by kernel_rfl
theorem ts_76 : tst Try.prog 76 = some 1 := by kernel_rfl
theorem tz_76 : tz Try.prog 76 = some [.nil] := by kernel_rfl
theorem tsl_76 : tsl Try.prog 76 = some (45, 2) := by kernel_rfl
theorem tl_83 : tload Try.prog 83 = some none := by kernel_rfl
theorem ts_83 : tst Try.prog 83 = some 1 := by kernel_rfl
theorem tz_83 : tz Try.prog 83 = some [.int .u64 0] := by kernel_rfl
theorem tl_87 : tload Try.prog 87 = some none := by kernel_rfl
theorem ts_87 : tst Try.prog 87 = some 1 := by kernel_rfl
theorem tz_87 : tz Try.prog 87 = some [.nil] := by kernel_rfl
theorem tsl_87 : tsl Try.prog 87 = some (5, 1) := by kernel_rfl
theorem tl_89 : tload Try.prog 89 = some none := by kernel_rfl
theorem ts_89 : tst Try.prog 89 = some 1 := by kernel_rfl
theorem tz_89 : tz Try.prog 89 = some [.int .u64 0] := by kernel_rfl
theorem tl_94 : tload Try.prog 94 = some (some 4) := by kernel_rfl
theorem ts_94 : tst Try.prog 94 = some 4 := by kernel_rfl
theorem tz_94 : tz Try.prog 94 = some [.un, .un, .un, .st []] := by kernel_rfl
theorem tsz_94 : tsz Try.prog 94 = 4 := by kernel_rfl
theorem tag_94 : tagg Try.prog 94 = true := by kernel_rfl
theorem tb_94 : tbuild Try.prog 94 = some [.un, .un, .un, .st []] := by kernel_rfl
theorem tf_94_0 : tfld Try.prog 94 0 = some (0, 1) := by kernel_rfl
theorem tf_94_1 : tfld Try.prog 94 1 = some (1, 1) := by kernel_rfl
theorem tf_94_2 : tfld Try.prog 94 2 = some (2, 1) := by kernel_rfl
theorem tf_94_3 : tfld Try.prog 94 3 = some (3, 1) := by kernel_rfl
theorem tl_96 : tload Try.prog 96 = some (some 0) := by kernel_rfl
theorem ts_96 : tst Try.prog 96 = some 0 := by kernel_rfl
theorem tl_97 : tload Try.prog 97 = some (some 0) := by kernel_rfl
theorem ts_97 : tst Try.prog 97 = some 0 := by kernel_rfl
theorem tsz_97 : tsz Try.prog 97 = 0 := by kernel_rfl
theorem tag_97 : tagg Try.prog 97 = true := by kernel_rfl
theorem tl_100 : tload Try.prog 100 = some none := by kernel_rfl
theorem ts_100 : tst Try.prog 100 = some 1 := by kernel_rfl
theorem tz_100 : tz Try.prog 100 = some [.int .u32 0] := by kernel_rfl
theorem tl_104 : tload Try.prog 104 = some none := by kernel_rfl
theorem ts_104 : tst Try.prog 104 = some 1 := by kernel_rfl
theorem tz_104 : tz Try.prog 104 = some [.un] := by kernel_rfl
theorem tl_107 : tload Try.prog 107 = some (some 11) := by kernel_rfl
theorem ts_107 : tst Try.prog 107 = some 11 := by kernel_rfl
theorem tsz_107 : tsz Try.prog 107 = 11 := by kernel_rfl
theorem tag_107 : tagg Try.prog 107 = true := by kernel_rfl
theorem tf_107_0 : tfld Try.prog 107 0 = some (0, 1) := by kernel_rfl
theorem tf_107_1 : tfld Try.prog 107 1 = some (1, 1) := by kernel_rfl
theorem tf_107_2 : tfld Try.prog 107 2 = some (2, 1) := by kernel_rfl
theorem tf_107_3 : tfld Try.prog 107 3 = some (3, 1) := by kernel_rfl
theorem tf_107_4 : tfld Try.prog 107 4 = some (4, 1) := by kernel_rfl
theorem tf_107_5 : tfld Try.prog 107 5 = some (5, 1) := by kernel_rfl
theorem tf_107_6 : tfld Try.prog 107 6 = some (6, 1) := by kernel_rfl
theorem tf_107_8 : tfld Try.prog 107 8 = some (8, 1) := by kernel_rfl
theorem tf_107_9 : tfld Try.prog 107 9 = some (9, 1) := by kernel_rfl
theorem tf_107_10 : tfld Try.prog 107 10 = some (10, 1) := by kernel_rfl
theorem tcv_3_5 : tcv Try.prog 3 5 = some (.int .u8) := by kernel_rfl
theorem tcv_3_83 : tcv Try.prog 3 83 = some (.int .u64) := by kernel_rfl
theorem tcv_5_3 : tcv Try.prog 5 3 = some (.int .i64) := by kernel_rfl
theorem tcv_87_9 : tcv Try.prog 87 9 = some .b2s := by kernel_rfl
attribute [go_sem] tl_2 ts_2 tz_2 tl_3 ts_3 tz_3 tl_4 ts_4 tz_4 tbo_4 tl_5 ts_5 tz_5 tl_9 ts_9 tz_9 tstr_9 tl_12 ts_12 tz_12 tl_21 ts_21 tz_21 tl_22 ts_22 tz_22 tsl_22 tl_26 ts_26 tz_26 tsl_26 tl_29 ts_29 tz_29 tsl_29 tl_33 ts_33 tz_33 tsz_33 tag_33
attribute [go_sem] tb_33 tf_33_0 tf_33_1 tf_33_2 tf_33_3 tf_33_4 tl_34 ts_34 tz_34 tsz_34 tag_34 tb_34 tf_34_0 tf_34_1 tf_34_2 tf_34_3 tf_34_4 tl_35 ts_35 tz_35 tsz_35 tag_35 tb_35 tf_35_0 tf_35_1 tf_35_2 tf_35_3 tf_35_4 tf_35_5 tf_35_6 tf_35_7 tf_35_8 tf_35_9 tf_35_10 tf_35_11 tf_35_12 tf_35_13 tf_35_14 tl_36 ts_36
attribute [go_sem] tz_36 tsz_36 tag_36 tb_36 tf_36_0 tf_36_1 tf_36_2 tf_36_3 tf_36_4 tf_36_5 tf_36_6 tf_36_7 tf_36_8 tf_36_9 tf_36_10 tf_36_11 tf_36_12 tf_36_13 tf_36_14 tl_39 ts_39 tz_39 tsz_39 tag_39 tb_39 tf_39_0 tf_39_1 tf_39_2 tf_39_3 tf_39_4 tl_40 ts_40 tz_40 tsz_40 tag_40 tb_40 tf_40_0 tf_40_1 tf_40_2 tf_40_3
attribute [go_sem] tf_40_4 tf_40_5 tf_40_6 tf_40_7 tf_40_8 tf_40_9 tf_40_10 tf_40_11 tf_40_12 tf_40_13 tf_40_14 tl_41 ts_41 tz_41 tsz_41 tag_41 tb_41 tf_41_0 tf_41_1 tf_41_2 tf_41_3 tf_41_4 tf_41_5 tf_41_6 tf_41_7 tf_41_8 tf_41_9 tf_41_10 tf_41_11 tf_41_12 tf_41_13 tf_41_14 tl_44 ts_44 tz_44 tsz_44 tag_44 tb_44 tf_44_0 tf_44_1
attribute [go_sem] tl_45 ts_45 tz_45 tsz_45 tag_45 tb_45 tf_45_0 tf_45_1 tl_56 ts_56 tz_56 tsz_56 tag_56 tb_56 tf_56_0 tf_56_1 tf_56_2 tl_57 ts_57 tz_57 tsz_57 tag_57 tb_57 tf_57_0 tf_57_1 tf_57_2 tl_66 ts_66 tz_66 tsl_66 tl_68 ts_68 tz_68 tl_69 ts_69 tz_69 tl_70 ts_70 tz_70 tsl_70
attribute [go_sem] tl_76 ts_76 tz_76 tsl_76 tl_83 ts_83 tz_83 tl_87 ts_87 tz_87 tsl_87 tl_89 ts_89 tz_89 tl_94 ts_94 tz_94 tsz_94 tag_94 tb_94 tf_94_0 tf_94_1 tf_94_2 tf_94_3 tl_96 ts_96 tl_97 ts_97 tsz_97 tag_97 tl_100 ts_100 tz_100 tl_104 ts_104 tz_104 tl_107 ts_107 tsz_107 tag_107
attribute [go_sem] tf_107_0 tf_107_1 tf_107_2 tf_107_3 tf_107_4 tf_107_5 tf_107_6 tf_107_8 tf_107_9 tf_107_10 tcv_3_5 tcv_3_83 tcv_5_3 tcv_87_9
end Go.Proofs.Ytjbpnmbmgkibdaa
