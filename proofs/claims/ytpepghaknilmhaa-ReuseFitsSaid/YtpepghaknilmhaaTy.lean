/- Facts on types, by program (types.py). -/
import Derived.Test.YtpepghaknilmhaaVnA
import Derived.Test.YtpepghaknilmhaaProg
import Derived.KernelRfl
namespace Go.Proofs.Ytpepghaknilmhaa.Vm
open Go
set_option linter.unusedVariables false
set_option maxRecDepth 100000
theorem rdk_1 : rdk Try.prog 1 = some (false, 1) := by kernel_rfl
theorem sz_1 : sz? Try.prog 1 = some 1 := by kernel_rfl
theorem rdk_2 : rdk Try.prog 2 = some (false, 1) := by kernel_rfl
theorem sz_2 : sz? Try.prog 2 = some 1 := by kernel_rfl
theorem rdk_3 : rdk Try.prog 3 = some (false, 1) := by kernel_rfl
theorem sz_3 : sz? Try.prog 3 = some 1 := by kernel_rfl
theorem rdk_4 : rdk Try.prog 4 = some (false, 1) := by kernel_rfl
theorem sz_4 : sz? Try.prog 4 = some 1 := by kernel_rfl
theorem isBool_4 : isBool Try.prog 4 = true := by kernel_rfl
theorem rdk_5 : rdk Try.prog 5 = some (false, 1) := by kernel_rfl
theorem sz_5 : sz? Try.prog 5 = some 1 := by kernel_rfl
theorem rdk_7 : rdk Try.prog 7 = some (true, 4) := by kernel_rfl
theorem sz_7 : sz? Try.prog 7 = some 4 := by kernel_rfl
theorem fld_7_0 : fld Try.prog 7 0 = some (2, 0, 1) := by kernel_rfl
theorem fld_7_1 : fld Try.prog 7 1 = some (3, 1, 1) := by kernel_rfl
theorem fld_7_2 : fld Try.prog 7 2 = some (4, 2, 1) := by kernel_rfl
theorem fld_7_3 : fld Try.prog 7 3 = some (6, 3, 1) := by kernel_rfl
theorem rdk_9 : rdk Try.prog 9 = some (false, 1) := by kernel_rfl
theorem sz_9 : sz? Try.prog 9 = some 1 := by kernel_rfl
theorem isStr_9 : isStr Try.prog 9 = true := by kernel_rfl
theorem isSlN_9 : isSl Try.prog 9 = false := by kernel_rfl
theorem rdk_12 : rdk Try.prog 12 = some (false, 1) := by kernel_rfl
theorem sz_12 : sz? Try.prog 12 = some 1 := by kernel_rfl
theorem rdk_13 : rdk Try.prog 13 = some (true, 2) := by kernel_rfl
theorem sz_13 : sz? Try.prog 13 = some 2 := by kernel_rfl
theorem fld_13_0 : fld Try.prog 13 0 = some (9, 0, 1) := by kernel_rfl
theorem fld_13_1 : fld Try.prog 13 1 = some (12, 1, 1) := by kernel_rfl
theorem rdk_15 : rdk Try.prog 15 = some (false, 1) := by kernel_rfl
theorem sz_15 : sz? Try.prog 15 = some 1 := by kernel_rfl
theorem rdk_16 : rdk Try.prog 16 = some (false, 1) := by kernel_rfl
theorem sz_16 : sz? Try.prog 16 = some 1 := by kernel_rfl
theorem rdk_17 : rdk Try.prog 17 = some (false, 1) := by kernel_rfl
theorem sz_17 : sz? Try.prog 17 = some 1 := by kernel_rfl
theorem rdk_18 : rdk Try.prog 18 = some (true, 1) := by kernel_rfl
theorem sz_18 : sz? Try.prog 18 = some 1 := by kernel_rfl
theorem fld_18_0 : fld Try.prog 18 0 = some (17, 0, 1) := by kernel_rfl
theorem rdk_21 : rdk Try.prog 21 = some (false, 1) := by kernel_rfl
theorem sz_21 : sz? Try.prog 21 = some 1 := by kernel_rfl
theorem rdk_22 : rdk Try.prog 22 = some (false, 1) := by kernel_rfl
theorem sz_22 : sz? Try.prog 22 = some 1 := by kernel_rfl
theorem isSl_22 : isSl Try.prog 22 = true := by kernel_rfl
theorem esz_22 : esz Try.prog 22 = 1 := by kernel_rfl
theorem elt_22 : elt Try.prog 22 = some (none, 1) := by kernel_rfl
theorem rdk_23 : rdk Try.prog 23 = some (false, 1) := by kernel_rfl
theorem sz_23 : sz? Try.prog 23 = some 1 := by kernel_rfl
theorem isSl_23 : isSl Try.prog 23 = true := by kernel_rfl
theorem esz_23 : esz Try.prog 23 = 1 := by kernel_rfl
theorem elt_23 : elt Try.prog 23 = some (none, 1) := by kernel_rfl
theorem rdk_24 : rdk Try.prog 24 = some (false, 1) := by kernel_rfl
theorem sz_24 : sz? Try.prog 24 = some 1 := by kernel_rfl
theorem isSl_24 : isSl Try.prog 24 = true := by kernel_rfl
theorem esz_24 : esz Try.prog 24 = 5 := by kernel_rfl
theorem elt_24 : elt Try.prog 24 = some (none, 5) := by kernel_rfl
theorem rdk_25 : rdk Try.prog 25 = some (false, 1) := by kernel_rfl
theorem sz_25 : sz? Try.prog 25 = some 1 := by kernel_rfl
theorem isSl_25 : isSl Try.prog 25 = true := by kernel_rfl
theorem esz_25 : esz Try.prog 25 = 2 := by kernel_rfl
theorem elt_25 : elt Try.prog 25 = some (none, 2) := by kernel_rfl
theorem rdk_26 : rdk Try.prog 26 = some (true, 5) := by kernel_rfl
theorem sz_26 : sz? Try.prog 26 = some 5 := by kernel_rfl
theorem fld_26_0 : fld Try.prog 26 0 = some (22, 0, 1) := by kernel_rfl
theorem fld_26_1 : fld Try.prog 26 1 = some (22, 1, 1) := by kernel_rfl
theorem fld_26_2 : fld Try.prog 26 2 = some (23, 2, 1) := by kernel_rfl
theorem fld_26_3 : fld Try.prog 26 3 = some (24, 3, 1) := by kernel_rfl
theorem fld_26_4 : fld Try.prog 26 4 = some (25, 4, 1) := by kernel_rfl
theorem rdk_27 : rdk Try.prog 27 = some (true, 5) := by kernel_rfl
theorem sz_27 : sz? Try.prog 27 = some 5 := by kernel_rfl
theorem fld_27_0 : fld Try.prog 27 0 = some (22, 0, 1) := by kernel_rfl
theorem fld_27_1 : fld Try.prog 27 1 = some (22, 1, 1) := by kernel_rfl
theorem fld_27_2 : fld Try.prog 27 2 = some (23, 2, 1) := by kernel_rfl
theorem fld_27_3 : fld Try.prog 27 3 = some (24, 3, 1) := by kernel_rfl
theorem fld_27_4 : fld Try.prog 27 4 = some (25, 4, 1) := by kernel_rfl
theorem rdk_28 : rdk Try.prog 28 = some (false, 1) := by kernel_rfl
theorem sz_28 : sz? Try.prog 28 = some 1 := by kernel_rfl
theorem rdk_29 : rdk Try.prog 29 = some (false, 1) := by kernel_rfl
theorem sz_29 : sz? Try.prog 29 = some 1 := by kernel_rfl
theorem isSl_29 : isSl Try.prog 29 = true := by kernel_rfl
theorem esz_29 : esz Try.prog 29 = 3 := by kernel_rfl
theorem elt_29 : elt Try.prog 29 = some (none, 3) := by kernel_rfl
theorem rdk_30 : rdk Try.prog 30 = some (false, 1) := by kernel_rfl
theorem sz_30 : sz? Try.prog 30 = some 1 := by kernel_rfl
theorem isSl_30 : isSl Try.prog 30 = true := by kernel_rfl
theorem esz_30 : esz Try.prog 30 = 7 := by kernel_rfl
theorem elt_30 : elt Try.prog 30 = some (none, 7) := by kernel_rfl
theorem rdk_31 : rdk Try.prog 31 = some (true, 7) := by kernel_rfl
theorem sz_31 : sz? Try.prog 31 = some 7 := by kernel_rfl
theorem fld_31_0 : fld Try.prog 31 0 = some (3, 0, 1) := by kernel_rfl
theorem fld_31_1 : fld Try.prog 31 1 = some (3, 1, 1) := by kernel_rfl
theorem fld_31_2 : fld Try.prog 31 2 = some (3, 2, 1) := by kernel_rfl
theorem fld_31_3 : fld Try.prog 31 3 = some (28, 3, 1) := by kernel_rfl
theorem fld_31_4 : fld Try.prog 31 4 = some (29, 4, 1) := by kernel_rfl
theorem fld_31_5 : fld Try.prog 31 5 = some (9, 5, 1) := by kernel_rfl
theorem fld_31_6 : fld Try.prog 31 6 = some (30, 6, 1) := by kernel_rfl
theorem rdk_32 : rdk Try.prog 32 = some (true, 7) := by kernel_rfl
theorem sz_32 : sz? Try.prog 32 = some 7 := by kernel_rfl
theorem fld_32_0 : fld Try.prog 32 0 = some (3, 0, 1) := by kernel_rfl
theorem fld_32_1 : fld Try.prog 32 1 = some (3, 1, 1) := by kernel_rfl
theorem fld_32_2 : fld Try.prog 32 2 = some (3, 2, 1) := by kernel_rfl
theorem fld_32_3 : fld Try.prog 32 3 = some (28, 3, 1) := by kernel_rfl
theorem fld_32_4 : fld Try.prog 32 4 = some (29, 4, 1) := by kernel_rfl
theorem fld_32_5 : fld Try.prog 32 5 = some (9, 5, 1) := by kernel_rfl
theorem fld_32_6 : fld Try.prog 32 6 = some (30, 6, 1) := by kernel_rfl
theorem rdk_33 : rdk Try.prog 33 = some (true, 3) := by kernel_rfl
theorem sz_33 : sz? Try.prog 33 = some 3 := by kernel_rfl
theorem fld_33_0 : fld Try.prog 33 0 = some (3, 0, 1) := by kernel_rfl
theorem fld_33_1 : fld Try.prog 33 1 = some (3, 1, 1) := by kernel_rfl
theorem fld_33_2 : fld Try.prog 33 2 = some (9, 2, 1) := by kernel_rfl
theorem rdk_34 : rdk Try.prog 34 = some (true, 3) := by kernel_rfl
theorem sz_34 : sz? Try.prog 34 = some 3 := by kernel_rfl
theorem fld_34_0 : fld Try.prog 34 0 = some (3, 0, 1) := by kernel_rfl
theorem fld_34_1 : fld Try.prog 34 1 = some (3, 1, 1) := by kernel_rfl
theorem fld_34_2 : fld Try.prog 34 2 = some (9, 2, 1) := by kernel_rfl
theorem rdk_35 : rdk Try.prog 35 = some (false, 1) := by kernel_rfl
theorem sz_35 : sz? Try.prog 35 = some 1 := by kernel_rfl
theorem rdk_36 : rdk Try.prog 36 = some (false, 1) := by kernel_rfl
theorem sz_36 : sz? Try.prog 36 = some 1 := by kernel_rfl
theorem rdk_37 : rdk Try.prog 37 = some (false, 1) := by kernel_rfl
theorem sz_37 : sz? Try.prog 37 = some 1 := by kernel_rfl
theorem rdk_38 : rdk Try.prog 38 = some (false, 1) := by kernel_rfl
theorem sz_38 : sz? Try.prog 38 = some 1 := by kernel_rfl
theorem isSl_38 : isSl Try.prog 38 = true := by kernel_rfl
theorem esz_38 : esz Try.prog 38 = 10 := by kernel_rfl
theorem elt_38 : elt Try.prog 38 = some (none, 10) := by kernel_rfl
theorem rdk_39 : rdk Try.prog 39 = some (false, 1) := by kernel_rfl
theorem sz_39 : sz? Try.prog 39 = some 1 := by kernel_rfl
theorem rdk_40 : rdk Try.prog 40 = some (false, 1) := by kernel_rfl
theorem sz_40 : sz? Try.prog 40 = some 1 := by kernel_rfl
theorem isSl_40 : isSl Try.prog 40 = true := by kernel_rfl
theorem esz_40 : esz Try.prog 40 = 2 := by kernel_rfl
theorem elt_40 : elt Try.prog 40 = some (none, 2) := by kernel_rfl
theorem rdk_41 : rdk Try.prog 41 = some (false, 1) := by kernel_rfl
theorem sz_41 : sz? Try.prog 41 = some 1 := by kernel_rfl
theorem isSl_41 : isSl Try.prog 41 = true := by kernel_rfl
theorem esz_41 : esz Try.prog 41 = 9 := by kernel_rfl
theorem elt_41 : elt Try.prog 41 = some (none, 9) := by kernel_rfl
theorem rdk_42 : rdk Try.prog 42 = some (false, 1) := by kernel_rfl
theorem sz_42 : sz? Try.prog 42 = some 1 := by kernel_rfl
theorem isSl_42 : isSl Try.prog 42 = true := by kernel_rfl
theorem esz_42 : esz Try.prog 42 = 3 := by kernel_rfl
theorem elt_42 : elt Try.prog 42 = some (none, 3) := by kernel_rfl
theorem rdk_43 : rdk Try.prog 43 = some (false, 1) := by kernel_rfl
theorem sz_43 : sz? Try.prog 43 = some 1 := by kernel_rfl
theorem isSl_43 : isSl Try.prog 43 = true := by kernel_rfl
theorem esz_43 : esz Try.prog 43 = 3 := by kernel_rfl
theorem elt_43 : elt Try.prog 43 = some (none, 3) := by kernel_rfl
theorem rdk_44 : rdk Try.prog 44 = some (false, 1) := by kernel_rfl
theorem sz_44 : sz? Try.prog 44 = some 1 := by kernel_rfl
theorem isSl_44 : isSl Try.prog 44 = true := by kernel_rfl
theorem esz_44 : esz Try.prog 44 = 3 := by kernel_rfl
theorem elt_44 : elt Try.prog 44 = some (none, 3) := by kernel_rfl
theorem rdk_45 : rdk Try.prog 45 = some (true, 6) := by kernel_rfl
theorem sz_45 : sz? Try.prog 45 = some 6 := by kernel_rfl
theorem fld_45_0 : fld Try.prog 45 0 = some (9, 0, 1) := by kernel_rfl
theorem fld_45_1 : fld Try.prog 45 1 = some (40, 1, 1) := by kernel_rfl
theorem fld_45_2 : fld Try.prog 45 2 = some (41, 2, 1) := by kernel_rfl
theorem fld_45_3 : fld Try.prog 45 3 = some (42, 3, 1) := by kernel_rfl
theorem fld_45_4 : fld Try.prog 45 4 = some (43, 4, 1) := by kernel_rfl
theorem fld_45_5 : fld Try.prog 45 5 = some (44, 5, 1) := by kernel_rfl
theorem rdk_46 : rdk Try.prog 46 = some (true, 6) := by kernel_rfl
theorem sz_46 : sz? Try.prog 46 = some 6 := by kernel_rfl
theorem fld_46_0 : fld Try.prog 46 0 = some (9, 0, 1) := by kernel_rfl
theorem fld_46_1 : fld Try.prog 46 1 = some (40, 1, 1) := by kernel_rfl
theorem fld_46_2 : fld Try.prog 46 2 = some (41, 2, 1) := by kernel_rfl
theorem fld_46_3 : fld Try.prog 46 3 = some (42, 3, 1) := by kernel_rfl
theorem fld_46_4 : fld Try.prog 46 4 = some (43, 4, 1) := by kernel_rfl
theorem fld_46_5 : fld Try.prog 46 5 = some (44, 5, 1) := by kernel_rfl
theorem rdk_47 : rdk Try.prog 47 = some (false, 1) := by kernel_rfl
theorem sz_47 : sz? Try.prog 47 = some 1 := by kernel_rfl
theorem isSl_47 : isSl Try.prog 47 = true := by kernel_rfl
theorem esz_47 : esz Try.prog 47 = 8 := by kernel_rfl
theorem elt_47 : elt Try.prog 47 = some (none, 8) := by kernel_rfl
theorem rdk_48 : rdk Try.prog 48 = some (false, 1) := by kernel_rfl
theorem sz_48 : sz? Try.prog 48 = some 1 := by kernel_rfl
theorem isSl_48 : isSl Try.prog 48 = true := by kernel_rfl
theorem esz_48 : esz Try.prog 48 = 3 := by kernel_rfl
theorem elt_48 : elt Try.prog 48 = some (none, 3) := by kernel_rfl
theorem rdk_49 : rdk Try.prog 49 = some (true, 4) := by kernel_rfl
theorem sz_49 : sz? Try.prog 49 = some 4 := by kernel_rfl
theorem fld_49_0 : fld Try.prog 49 0 = some (22, 0, 1) := by kernel_rfl
theorem fld_49_1 : fld Try.prog 49 1 = some (22, 1, 1) := by kernel_rfl
theorem fld_49_2 : fld Try.prog 49 2 = some (47, 2, 1) := by kernel_rfl
theorem fld_49_3 : fld Try.prog 49 3 = some (48, 3, 1) := by kernel_rfl
theorem rdk_50 : rdk Try.prog 50 = some (true, 4) := by kernel_rfl
theorem sz_50 : sz? Try.prog 50 = some 4 := by kernel_rfl
theorem fld_50_0 : fld Try.prog 50 0 = some (22, 0, 1) := by kernel_rfl
theorem fld_50_1 : fld Try.prog 50 1 = some (22, 1, 1) := by kernel_rfl
theorem fld_50_2 : fld Try.prog 50 2 = some (47, 2, 1) := by kernel_rfl
theorem fld_50_3 : fld Try.prog 50 3 = some (48, 3, 1) := by kernel_rfl
theorem rdk_51 : rdk Try.prog 51 = some (false, 1) := by kernel_rfl
theorem sz_51 : sz? Try.prog 51 = some 1 := by kernel_rfl
theorem isSl_51 : isSl Try.prog 51 = true := by kernel_rfl
theorem esz_51 : esz Try.prog 51 = 1 := by kernel_rfl
theorem elt_51 : elt Try.prog 51 = some (none, 1) := by kernel_rfl
theorem rdk_52 : rdk Try.prog 52 = some (true, 5) := by kernel_rfl
theorem sz_52 : sz? Try.prog 52 = some 5 := by kernel_rfl
theorem fld_52_0 : fld Try.prog 52 0 = some (50, 0, 4) := by kernel_rfl
theorem fld_52_1 : fld Try.prog 52 1 = some (51, 4, 1) := by kernel_rfl
theorem rdk_53 : rdk Try.prog 53 = some (true, 5) := by kernel_rfl
theorem sz_53 : sz? Try.prog 53 = some 5 := by kernel_rfl
theorem fld_53_0 : fld Try.prog 53 0 = some (50, 0, 4) := by kernel_rfl
theorem fld_53_1 : fld Try.prog 53 1 = some (51, 4, 1) := by kernel_rfl
theorem rdk_54 : rdk Try.prog 54 = some (false, 1) := by kernel_rfl
theorem sz_54 : sz? Try.prog 54 = some 1 := by kernel_rfl
theorem isSl_54 : isSl Try.prog 54 = true := by kernel_rfl
theorem esz_54 : esz Try.prog 54 = 1 := by kernel_rfl
theorem elt_54 : elt Try.prog 54 = some (none, 1) := by kernel_rfl
theorem rdk_55 : rdk Try.prog 55 = some (false, 1) := by kernel_rfl
theorem sz_55 : sz? Try.prog 55 = some 1 := by kernel_rfl
theorem isSl_55 : isSl Try.prog 55 = true := by kernel_rfl
theorem esz_55 : esz Try.prog 55 = 1 := by kernel_rfl
theorem elt_55 : elt Try.prog 55 = some (none, 1) := by kernel_rfl
theorem rdk_56 : rdk Try.prog 56 = some (true, 2) := by kernel_rfl
theorem sz_56 : sz? Try.prog 56 = some 2 := by kernel_rfl
theorem fld_56_0 : fld Try.prog 56 0 = some (54, 0, 1) := by kernel_rfl
theorem fld_56_1 : fld Try.prog 56 1 = some (55, 1, 1) := by kernel_rfl
theorem rdk_57 : rdk Try.prog 57 = some (true, 2) := by kernel_rfl
theorem sz_57 : sz? Try.prog 57 = some 2 := by kernel_rfl
theorem fld_57_0 : fld Try.prog 57 0 = some (54, 0, 1) := by kernel_rfl
theorem fld_57_1 : fld Try.prog 57 1 = some (55, 1, 1) := by kernel_rfl
theorem rdk_58 : rdk Try.prog 58 = some (false, 1) := by kernel_rfl
theorem sz_58 : sz? Try.prog 58 = some 1 := by kernel_rfl
theorem isSl_58 : isSl Try.prog 58 = true := by kernel_rfl
theorem esz_58 : esz Try.prog 58 = 4 := by kernel_rfl
theorem elt_58 : elt Try.prog 58 = some (none, 4) := by kernel_rfl
theorem rdk_59 : rdk Try.prog 59 = some (true, 19) := by kernel_rfl
theorem sz_59 : sz? Try.prog 59 = some 19 := by kernel_rfl
theorem fld_59_0 : fld Try.prog 59 0 = some (46, 0, 6) := by kernel_rfl
theorem fld_59_1 : fld Try.prog 59 1 = some (27, 6, 5) := by kernel_rfl
theorem fld_59_2 : fld Try.prog 59 2 = some (53, 11, 5) := by kernel_rfl
theorem fld_59_3 : fld Try.prog 59 3 = some (57, 16, 2) := by kernel_rfl
theorem fld_59_4 : fld Try.prog 59 4 = some (58, 18, 1) := by kernel_rfl
theorem rdk_60 : rdk Try.prog 60 = some (true, 19) := by kernel_rfl
theorem sz_60 : sz? Try.prog 60 = some 19 := by kernel_rfl
theorem fld_60_0 : fld Try.prog 60 0 = some (46, 0, 6) := by kernel_rfl
theorem fld_60_1 : fld Try.prog 60 1 = some (27, 6, 5) := by kernel_rfl
theorem fld_60_2 : fld Try.prog 60 2 = some (53, 11, 5) := by kernel_rfl
theorem fld_60_3 : fld Try.prog 60 3 = some (57, 16, 2) := by kernel_rfl
theorem fld_60_4 : fld Try.prog 60 4 = some (58, 18, 1) := by kernel_rfl
theorem rdk_61 : rdk Try.prog 61 = some (false, 1) := by kernel_rfl
theorem sz_61 : sz? Try.prog 61 = some 1 := by kernel_rfl
theorem rdk_62 : rdk Try.prog 62 = some (true, 10) := by kernel_rfl
theorem sz_62 : sz? Try.prog 62 = some 10 := by kernel_rfl
theorem fld_62_0 : fld Try.prog 62 0 = some (3, 0, 1) := by kernel_rfl
theorem fld_62_1 : fld Try.prog 62 1 = some (3, 1, 1) := by kernel_rfl
theorem fld_62_2 : fld Try.prog 62 2 = some (3, 2, 1) := by kernel_rfl
theorem fld_62_3 : fld Try.prog 62 3 = some (32, 3, 7) := by kernel_rfl
theorem rdk_63 : rdk Try.prog 63 = some (true, 10) := by kernel_rfl
theorem sz_63 : sz? Try.prog 63 = some 10 := by kernel_rfl
theorem fld_63_0 : fld Try.prog 63 0 = some (3, 0, 1) := by kernel_rfl
theorem fld_63_1 : fld Try.prog 63 1 = some (3, 1, 1) := by kernel_rfl
theorem fld_63_2 : fld Try.prog 63 2 = some (3, 2, 1) := by kernel_rfl
theorem fld_63_3 : fld Try.prog 63 3 = some (32, 3, 7) := by kernel_rfl
theorem rdk_64 : rdk Try.prog 64 = some (true, 2) := by kernel_rfl
theorem sz_64 : sz? Try.prog 64 = some 2 := by kernel_rfl
theorem rdk_65 : rdk Try.prog 65 = some (false, 1) := by kernel_rfl
theorem sz_65 : sz? Try.prog 65 = some 1 := by kernel_rfl
theorem rdk_66 : rdk Try.prog 66 = some (false, 1) := by kernel_rfl
theorem sz_66 : sz? Try.prog 66 = some 1 := by kernel_rfl
theorem rdk_67 : rdk Try.prog 67 = some (false, 1) := by kernel_rfl
theorem sz_67 : sz? Try.prog 67 = some 1 := by kernel_rfl
theorem rdk_68 : rdk Try.prog 68 = some (false, 1) := by kernel_rfl
theorem sz_68 : sz? Try.prog 68 = some 1 := by kernel_rfl
theorem rdk_69 : rdk Try.prog 69 = some (false, 1) := by kernel_rfl
theorem sz_69 : sz? Try.prog 69 = some 1 := by kernel_rfl
theorem rdk_71 : rdk Try.prog 71 = some (false, 1) := by kernel_rfl
theorem sz_71 : sz? Try.prog 71 = some 1 := by kernel_rfl
theorem rdk_72 : rdk Try.prog 72 = some (false, 1) := by kernel_rfl
theorem sz_72 : sz? Try.prog 72 = some 1 := by kernel_rfl
theorem rdk_73 : rdk Try.prog 73 = some (false, 1) := by kernel_rfl
theorem sz_73 : sz? Try.prog 73 = some 1 := by kernel_rfl
theorem rdk_74 : rdk Try.prog 74 = some (false, 1) := by kernel_rfl
theorem sz_74 : sz? Try.prog 74 = some 1 := by kernel_rfl
theorem rdk_75 : rdk Try.prog 75 = some (false, 1) := by kernel_rfl
theorem sz_75 : sz? Try.prog 75 = some 1 := by kernel_rfl
theorem rdk_76 : rdk Try.prog 76 = some (false, 1) := by kernel_rfl
theorem sz_76 : sz? Try.prog 76 = some 1 := by kernel_rfl
theorem rdk_77 : rdk Try.prog 77 = some (false, 1) := by kernel_rfl
theorem sz_77 : sz? Try.prog 77 = some 1 := by kernel_rfl
theorem rdk_78 : rdk Try.prog 78 = some (false, 1) := by kernel_rfl
theorem sz_78 : sz? Try.prog 78 = some 1 := by kernel_rfl
theorem rdk_79 : rdk Try.prog 79 = some (false, 1) := by kernel_rfl
theorem sz_79 : sz? Try.prog 79 = some 1 := by kernel_rfl
theorem isSl_79 : isSl Try.prog 79 = true := by kernel_rfl
theorem esz_79 : esz Try.prog 79 = 9 := by kernel_rfl
theorem elt_79 : elt Try.prog 79 = some (none, 9) := by kernel_rfl
theorem rdk_80 : rdk Try.prog 80 = some (false, 1) := by kernel_rfl
theorem sz_80 : sz? Try.prog 80 = some 1 := by kernel_rfl
theorem rdk_81 : rdk Try.prog 81 = some (true, 2) := by kernel_rfl
theorem sz_81 : sz? Try.prog 81 = some 2 := by kernel_rfl
theorem fld_81_0 : fld Try.prog 81 0 = some (3, 0, 1) := by kernel_rfl
theorem fld_81_1 : fld Try.prog 81 1 = some (3, 1, 1) := by kernel_rfl
theorem rdk_82 : rdk Try.prog 82 = some (true, 2) := by kernel_rfl
theorem sz_82 : sz? Try.prog 82 = some 2 := by kernel_rfl
theorem fld_82_0 : fld Try.prog 82 0 = some (3, 0, 1) := by kernel_rfl
theorem fld_82_1 : fld Try.prog 82 1 = some (3, 1, 1) := by kernel_rfl
theorem rdk_83 : rdk Try.prog 83 = some (true, 9) := by kernel_rfl
theorem sz_83 : sz? Try.prog 83 = some 9 := by kernel_rfl
theorem fld_83_0 : fld Try.prog 83 0 = some (32, 0, 7) := by kernel_rfl
theorem fld_83_1 : fld Try.prog 83 1 = some (82, 7, 2) := by kernel_rfl
theorem rdk_84 : rdk Try.prog 84 = some (true, 9) := by kernel_rfl
theorem sz_84 : sz? Try.prog 84 = some 9 := by kernel_rfl
theorem fld_84_0 : fld Try.prog 84 0 = some (32, 0, 7) := by kernel_rfl
theorem fld_84_1 : fld Try.prog 84 1 = some (82, 7, 2) := by kernel_rfl
theorem rdk_85 : rdk Try.prog 85 = some (false, 1) := by kernel_rfl
theorem sz_85 : sz? Try.prog 85 = some 1 := by kernel_rfl
theorem rdk_86 : rdk Try.prog 86 = some (false, 1) := by kernel_rfl
theorem sz_86 : sz? Try.prog 86 = some 1 := by kernel_rfl
theorem rdk_87 : rdk Try.prog 87 = some (false, 1) := by kernel_rfl
theorem sz_87 : sz? Try.prog 87 = some 1 := by kernel_rfl
theorem rdk_88 : rdk Try.prog 88 = some (false, 1) := by kernel_rfl
theorem sz_88 : sz? Try.prog 88 = some 1 := by kernel_rfl
theorem isSl_88 : isSl Try.prog 88 = true := by kernel_rfl
theorem esz_88 : esz Try.prog 88 = 1 := by kernel_rfl
theorem elt_88 : elt Try.prog 88 = some (none, 1) := by kernel_rfl
theorem rdk_89 : rdk Try.prog 89 = some (true, 7) := by kernel_rfl
theorem sz_89 : sz? Try.prog 89 = some 7 := by kernel_rfl
theorem fld_89_0 : fld Try.prog 89 0 = some (34, 0, 3) := by kernel_rfl
theorem fld_89_1 : fld Try.prog 89 1 = some (30, 3, 1) := by kernel_rfl
theorem fld_89_2 : fld Try.prog 89 2 = some (88, 4, 1) := by kernel_rfl
theorem fld_89_3 : fld Try.prog 89 3 = some (88, 5, 1) := by kernel_rfl
theorem fld_89_4 : fld Try.prog 89 4 = some (38, 6, 1) := by kernel_rfl
theorem rdk_90 : rdk Try.prog 90 = some (true, 7) := by kernel_rfl
theorem sz_90 : sz? Try.prog 90 = some 7 := by kernel_rfl
theorem fld_90_0 : fld Try.prog 90 0 = some (34, 0, 3) := by kernel_rfl
theorem fld_90_1 : fld Try.prog 90 1 = some (30, 3, 1) := by kernel_rfl
theorem fld_90_2 : fld Try.prog 90 2 = some (88, 4, 1) := by kernel_rfl
theorem fld_90_3 : fld Try.prog 90 3 = some (88, 5, 1) := by kernel_rfl
theorem fld_90_4 : fld Try.prog 90 4 = some (38, 6, 1) := by kernel_rfl
theorem rdk_91 : rdk Try.prog 91 = some (false, 1) := by kernel_rfl
theorem sz_91 : sz? Try.prog 91 = some 1 := by kernel_rfl
theorem rdk_92 : rdk Try.prog 92 = some (false, 1) := by kernel_rfl
theorem sz_92 : sz? Try.prog 92 = some 1 := by kernel_rfl
theorem rdk_93 : rdk Try.prog 93 = some (false, 1) := by kernel_rfl
theorem sz_93 : sz? Try.prog 93 = some 1 := by kernel_rfl
theorem rdk_94 : rdk Try.prog 94 = some (false, 1) := by kernel_rfl
theorem sz_94 : sz? Try.prog 94 = some 1 := by kernel_rfl
theorem rdk_95 : rdk Try.prog 95 = some (true, 5) := by kernel_rfl
theorem sz_95 : sz? Try.prog 95 = some 5 := by kernel_rfl
theorem fld_95_0 : fld Try.prog 95 0 = some (3, 0, 1) := by kernel_rfl
theorem fld_95_1 : fld Try.prog 95 1 = some (88, 1, 1) := by kernel_rfl
theorem fld_95_2 : fld Try.prog 95 2 = some (22, 2, 1) := by kernel_rfl
theorem fld_95_3 : fld Try.prog 95 3 = some (9, 3, 1) := by kernel_rfl
theorem fld_95_4 : fld Try.prog 95 4 = some (3, 4, 1) := by kernel_rfl
theorem rdk_96 : rdk Try.prog 96 = some (true, 5) := by kernel_rfl
theorem sz_96 : sz? Try.prog 96 = some 5 := by kernel_rfl
theorem fld_96_0 : fld Try.prog 96 0 = some (3, 0, 1) := by kernel_rfl
theorem fld_96_1 : fld Try.prog 96 1 = some (88, 1, 1) := by kernel_rfl
theorem fld_96_2 : fld Try.prog 96 2 = some (22, 2, 1) := by kernel_rfl
theorem fld_96_3 : fld Try.prog 96 3 = some (9, 3, 1) := by kernel_rfl
theorem fld_96_4 : fld Try.prog 96 4 = some (3, 4, 1) := by kernel_rfl
theorem rdk_97 : rdk Try.prog 97 = some (false, 1) := by kernel_rfl
theorem sz_97 : sz? Try.prog 97 = some 1 := by kernel_rfl
theorem isSl_97 : isSl Try.prog 97 = true := by kernel_rfl
theorem esz_97 : esz Try.prog 97 = 2 := by kernel_rfl
theorem elt_97 : elt Try.prog 97 = some (none, 2) := by kernel_rfl
theorem rdk_98 : rdk Try.prog 98 = some (false, 1) := by kernel_rfl
theorem sz_98 : sz? Try.prog 98 = some 1 := by kernel_rfl
theorem rdk_99 : rdk Try.prog 99 = some (false, 1) := by kernel_rfl
theorem sz_99 : sz? Try.prog 99 = some 1 := by kernel_rfl
theorem rdk_100 : rdk Try.prog 100 = some (true, 2) := by kernel_rfl
theorem sz_100 : sz? Try.prog 100 = some 2 := by kernel_rfl
theorem fld_100_0 : fld Try.prog 100 0 = some (99, 0, 1) := by kernel_rfl
theorem fld_100_1 : fld Try.prog 100 1 = some (3, 1, 1) := by kernel_rfl
theorem rdk_101 : rdk Try.prog 101 = some (true, 2) := by kernel_rfl
theorem sz_101 : sz? Try.prog 101 = some 2 := by kernel_rfl
theorem fld_101_0 : fld Try.prog 101 0 = some (99, 0, 1) := by kernel_rfl
theorem fld_101_1 : fld Try.prog 101 1 = some (3, 1, 1) := by kernel_rfl
theorem rdk_102 : rdk Try.prog 102 = some (false, 1) := by kernel_rfl
theorem sz_102 : sz? Try.prog 102 = some 1 := by kernel_rfl
theorem isSl_102 : isSl Try.prog 102 = true := by kernel_rfl
theorem esz_102 : esz Try.prog 102 = 1 := by kernel_rfl
theorem elt_102 : elt Try.prog 102 = some (none, 1) := by kernel_rfl
theorem rdk_103 : rdk Try.prog 103 = some (false, 1) := by kernel_rfl
theorem sz_103 : sz? Try.prog 103 = some 1 := by kernel_rfl
theorem isSl_103 : isSl Try.prog 103 = true := by kernel_rfl
theorem esz_103 : esz Try.prog 103 = 3 := by kernel_rfl
theorem elt_103 : elt Try.prog 103 = some (none, 3) := by kernel_rfl
theorem rdk_104 : rdk Try.prog 104 = some (false, 1) := by kernel_rfl
theorem sz_104 : sz? Try.prog 104 = some 1 := by kernel_rfl
theorem isSl_104 : isSl Try.prog 104 = true := by kernel_rfl
theorem esz_104 : esz Try.prog 104 = 1 := by kernel_rfl
theorem elt_104 : elt Try.prog 104 = some (none, 1) := by kernel_rfl
theorem rdk_105 : rdk Try.prog 105 = some (false, 1) := by kernel_rfl
theorem sz_105 : sz? Try.prog 105 = some 1 := by kernel_rfl
theorem rdk_106 : rdk Try.prog 106 = some (false, 1) := by kernel_rfl
theorem sz_106 : sz? Try.prog 106 = some 1 := by kernel_rfl
theorem rdk_107 : rdk Try.prog 107 = some (false, 1) := by kernel_rfl
theorem sz_107 : sz? Try.prog 107 = some 1 := by kernel_rfl
theorem rdk_108 : rdk Try.prog 108 = some (false, 1) := by kernel_rfl
theorem sz_108 : sz? Try.prog 108 = some 1 := by kernel_rfl
theorem rdk_109 : rdk Try.prog 109 = some (true, 3) := by kernel_rfl
theorem sz_109 : sz? Try.prog 109 = some 3 := by kernel_rfl
theorem fld_109_0 : fld Try.prog 109 0 = some (108, 0, 1) := by kernel_rfl
theorem fld_109_1 : fld Try.prog 109 1 = some (3, 1, 1) := by kernel_rfl
theorem fld_109_2 : fld Try.prog 109 2 = some (9, 2, 1) := by kernel_rfl
theorem rdk_110 : rdk Try.prog 110 = some (true, 3) := by kernel_rfl
theorem sz_110 : sz? Try.prog 110 = some 3 := by kernel_rfl
theorem fld_110_0 : fld Try.prog 110 0 = some (108, 0, 1) := by kernel_rfl
theorem fld_110_1 : fld Try.prog 110 1 = some (3, 1, 1) := by kernel_rfl
theorem fld_110_2 : fld Try.prog 110 2 = some (9, 2, 1) := by kernel_rfl
theorem rdk_111 : rdk Try.prog 111 = some (false, 1) := by kernel_rfl
theorem sz_111 : sz? Try.prog 111 = some 1 := by kernel_rfl
theorem rdk_112 : rdk Try.prog 112 = some (false, 1) := by kernel_rfl
theorem sz_112 : sz? Try.prog 112 = some 1 := by kernel_rfl
theorem rdk_113 : rdk Try.prog 113 = some (false, 1) := by kernel_rfl
theorem sz_113 : sz? Try.prog 113 = some 1 := by kernel_rfl
theorem rdk_114 : rdk Try.prog 114 = some (false, 1) := by kernel_rfl
theorem sz_114 : sz? Try.prog 114 = some 1 := by kernel_rfl
theorem rdk_115 : rdk Try.prog 115 = some (false, 1) := by kernel_rfl
theorem sz_115 : sz? Try.prog 115 = some 1 := by kernel_rfl
theorem rdk_116 : rdk Try.prog 116 = some (false, 1) := by kernel_rfl
theorem sz_116 : sz? Try.prog 116 = some 1 := by kernel_rfl
theorem rdk_117 : rdk Try.prog 117 = some (false, 1) := by kernel_rfl
theorem sz_117 : sz? Try.prog 117 = some 1 := by kernel_rfl
theorem rdk_118 : rdk Try.prog 118 = some (false, 1) := by kernel_rfl
theorem sz_118 : sz? Try.prog 118 = some 1 := by kernel_rfl
theorem rdk_119 : rdk Try.prog 119 = some (false, 1) := by kernel_rfl
theorem sz_119 : sz? Try.prog 119 = some 1 := by kernel_rfl
theorem rdk_120 : rdk Try.prog 120 = some (false, 1) := by kernel_rfl
theorem sz_120 : sz? Try.prog 120 = some 1 := by kernel_rfl
theorem isSl_120 : isSl Try.prog 120 = true := by kernel_rfl
theorem esz_120 : esz Try.prog 120 = 1 := by kernel_rfl
theorem elt_120 : elt Try.prog 120 = some (none, 1) := by kernel_rfl
theorem rdk_121 : rdk Try.prog 121 = some (false, 1) := by kernel_rfl
theorem sz_121 : sz? Try.prog 121 = some 1 := by kernel_rfl
theorem rdk_122 : rdk Try.prog 122 = some (true, 2) := by kernel_rfl
theorem sz_122 : sz? Try.prog 122 = some 2 := by kernel_rfl
theorem fld_122_0 : fld Try.prog 122 0 = some (121, 0, 1) := by kernel_rfl
theorem fld_122_1 : fld Try.prog 122 1 = some (88, 1, 1) := by kernel_rfl
theorem rdk_123 : rdk Try.prog 123 = some (true, 2) := by kernel_rfl
theorem sz_123 : sz? Try.prog 123 = some 2 := by kernel_rfl
theorem fld_123_0 : fld Try.prog 123 0 = some (121, 0, 1) := by kernel_rfl
theorem fld_123_1 : fld Try.prog 123 1 = some (88, 1, 1) := by kernel_rfl
theorem rdk_124 : rdk Try.prog 124 = some (false, 1) := by kernel_rfl
theorem sz_124 : sz? Try.prog 124 = some 1 := by kernel_rfl
theorem rdk_125 : rdk Try.prog 125 = some (true, 4) := by kernel_rfl
theorem sz_125 : sz? Try.prog 125 = some 4 := by kernel_rfl
theorem fld_125_0 : fld Try.prog 125 0 = some (17, 0, 1) := by kernel_rfl
theorem fld_125_1 : fld Try.prog 125 1 = some (17, 1, 1) := by kernel_rfl
theorem fld_125_2 : fld Try.prog 125 2 = some (17, 2, 1) := by kernel_rfl
theorem fld_125_3 : fld Try.prog 125 3 = some (9, 3, 1) := by kernel_rfl
theorem rdk_127 : rdk Try.prog 127 = some (true, 0) := by kernel_rfl
theorem sz_127 : sz? Try.prog 127 = some 0 := by kernel_rfl
theorem rdk_128 : rdk Try.prog 128 = some (true, 0) := by kernel_rfl
theorem sz_128 : sz? Try.prog 128 = some 0 := by kernel_rfl
theorem fld_128_0 : fld Try.prog 128 0 = some (127, 0, 0) := by kernel_rfl
theorem rdk_130 : rdk Try.prog 130 = some (false, 1) := by kernel_rfl
theorem sz_130 : sz? Try.prog 130 = some 1 := by kernel_rfl
theorem rdk_131 : rdk Try.prog 131 = some (false, 1) := by kernel_rfl
theorem sz_131 : sz? Try.prog 131 = some 1 := by kernel_rfl
theorem rdk_134 : rdk Try.prog 134 = some (false, 1) := by kernel_rfl
theorem sz_134 : sz? Try.prog 134 = some 1 := by kernel_rfl
theorem rdk_135 : rdk Try.prog 135 = some (false, 1) := by kernel_rfl
theorem sz_135 : sz? Try.prog 135 = some 1 := by kernel_rfl
theorem rdk_138 : rdk Try.prog 138 = some (true, 11) := by kernel_rfl
theorem sz_138 : sz? Try.prog 138 = some 11 := by kernel_rfl
theorem fld_138_0 : fld Try.prog 138 0 = some (12, 0, 1) := by kernel_rfl
theorem fld_138_1 : fld Try.prog 138 1 = some (12, 1, 1) := by kernel_rfl
theorem fld_138_2 : fld Try.prog 138 2 = some (131, 2, 1) := by kernel_rfl
theorem fld_138_3 : fld Try.prog 138 3 = some (132, 3, 1) := by kernel_rfl
theorem fld_138_4 : fld Try.prog 138 4 = some (5, 4, 1) := by kernel_rfl
theorem fld_138_5 : fld Try.prog 138 5 = some (5, 5, 1) := by kernel_rfl
theorem fld_138_6 : fld Try.prog 138 6 = some (133, 6, 1) := by kernel_rfl
theorem fld_138_7 : fld Try.prog 138 7 = some (134, 7, 1) := by kernel_rfl
theorem fld_138_8 : fld Try.prog 138 8 = some (135, 8, 1) := by kernel_rfl
theorem fld_138_9 : fld Try.prog 138 9 = some (136, 9, 1) := by kernel_rfl
theorem fld_138_10 : fld Try.prog 138 10 = some (137, 10, 1) := by kernel_rfl
theorem rdk_140 : rdk Try.prog 140 = some (true, 2) := by kernel_rfl
theorem sz_140 : sz? Try.prog 140 = some 2 := by kernel_rfl
theorem fld_140_0 : fld Try.prog 140 0 = some (3, 0, 1) := by kernel_rfl
theorem fld_140_1 : fld Try.prog 140 1 = some (9, 1, 1) := by kernel_rfl
theorem rdk_141 : rdk Try.prog 141 = some (true, 2) := by kernel_rfl
theorem sz_141 : sz? Try.prog 141 = some 2 := by kernel_rfl
theorem fld_141_0 : fld Try.prog 141 0 = some (3, 0, 1) := by kernel_rfl
theorem fld_141_1 : fld Try.prog 141 1 = some (9, 1, 1) := by kernel_rfl
theorem rdk_142 : rdk Try.prog 142 = some (false, 1) := by kernel_rfl
theorem sz_142 : sz? Try.prog 142 = some 1 := by kernel_rfl
theorem rdk_143 : rdk Try.prog 143 = some (false, 1) := by kernel_rfl
theorem sz_143 : sz? Try.prog 143 = some 1 := by kernel_rfl
theorem isSl_143 : isSl Try.prog 143 = true := by kernel_rfl
theorem esz_143 : esz Try.prog 143 = 2 := by kernel_rfl
theorem elt_143 : elt Try.prog 143 = some (none, 2) := by kernel_rfl
theorem rdk_144 : rdk Try.prog 144 = some (false, 1) := by kernel_rfl
theorem sz_144 : sz? Try.prog 144 = some 1 := by kernel_rfl
theorem isSl_144 : isSl Try.prog 144 = true := by kernel_rfl
theorem esz_144 : esz Try.prog 144 = 2 := by kernel_rfl
theorem elt_144 : elt Try.prog 144 = some (none, 2) := by kernel_rfl
theorem rdk_145 : rdk Try.prog 145 = some (false, 1) := by kernel_rfl
theorem sz_145 : sz? Try.prog 145 = some 1 := by kernel_rfl
theorem isSl_145 : isSl Try.prog 145 = true := by kernel_rfl
theorem esz_145 : esz Try.prog 145 = 3 := by kernel_rfl
theorem elt_145 : elt Try.prog 145 = some (none, 3) := by kernel_rfl
theorem rdk_146 : rdk Try.prog 146 = some (true, 3) := by kernel_rfl
theorem sz_146 : sz? Try.prog 146 = some 3 := by kernel_rfl
theorem fld_146_0 : fld Try.prog 146 0 = some (142, 0, 1) := by kernel_rfl
theorem fld_146_1 : fld Try.prog 146 1 = some (144, 1, 1) := by kernel_rfl
theorem fld_146_2 : fld Try.prog 146 2 = some (145, 2, 1) := by kernel_rfl
theorem rdk_147 : rdk Try.prog 147 = some (true, 3) := by kernel_rfl
theorem sz_147 : sz? Try.prog 147 = some 3 := by kernel_rfl
theorem fld_147_0 : fld Try.prog 147 0 = some (142, 0, 1) := by kernel_rfl
theorem fld_147_1 : fld Try.prog 147 1 = some (144, 1, 1) := by kernel_rfl
theorem fld_147_2 : fld Try.prog 147 2 = some (145, 2, 1) := by kernel_rfl
theorem rdk_148 : rdk Try.prog 148 = some (false, 1) := by kernel_rfl
theorem sz_148 : sz? Try.prog 148 = some 1 := by kernel_rfl
theorem rdk_149 : rdk Try.prog 149 = some (true, 9) := by kernel_rfl
theorem sz_149 : sz? Try.prog 149 = some 9 := by kernel_rfl
theorem fld_149_0 : fld Try.prog 149 0 = some (3, 0, 1) := by kernel_rfl
theorem fld_149_1 : fld Try.prog 149 1 = some (9, 1, 1) := by kernel_rfl
theorem fld_149_2 : fld Try.prog 149 2 = some (4, 2, 1) := by kernel_rfl
theorem fld_149_3 : fld Try.prog 149 3 = some (147, 3, 3) := by kernel_rfl
theorem fld_149_4 : fld Try.prog 149 4 = some (9, 6, 1) := by kernel_rfl
theorem fld_149_5 : fld Try.prog 149 5 = some (148, 7, 1) := by kernel_rfl
theorem fld_149_6 : fld Try.prog 149 6 = some (9, 8, 1) := by kernel_rfl
theorem rdk_150 : rdk Try.prog 150 = some (true, 9) := by kernel_rfl
theorem sz_150 : sz? Try.prog 150 = some 9 := by kernel_rfl
theorem fld_150_0 : fld Try.prog 150 0 = some (3, 0, 1) := by kernel_rfl
theorem fld_150_1 : fld Try.prog 150 1 = some (9, 1, 1) := by kernel_rfl
theorem fld_150_2 : fld Try.prog 150 2 = some (4, 2, 1) := by kernel_rfl
theorem fld_150_3 : fld Try.prog 150 3 = some (147, 3, 3) := by kernel_rfl
theorem fld_150_4 : fld Try.prog 150 4 = some (9, 6, 1) := by kernel_rfl
theorem fld_150_5 : fld Try.prog 150 5 = some (148, 7, 1) := by kernel_rfl
theorem fld_150_6 : fld Try.prog 150 6 = some (9, 8, 1) := by kernel_rfl
theorem rdk_151 : rdk Try.prog 151 = some (true, 3) := by kernel_rfl
theorem sz_151 : sz? Try.prog 151 = some 3 := by kernel_rfl
theorem fld_151_0 : fld Try.prog 151 0 = some (3, 0, 1) := by kernel_rfl
theorem fld_151_1 : fld Try.prog 151 1 = some (9, 1, 1) := by kernel_rfl
theorem fld_151_2 : fld Try.prog 151 2 = some (22, 2, 1) := by kernel_rfl
theorem rdk_152 : rdk Try.prog 152 = some (true, 3) := by kernel_rfl
theorem sz_152 : sz? Try.prog 152 = some 3 := by kernel_rfl
theorem fld_152_0 : fld Try.prog 152 0 = some (3, 0, 1) := by kernel_rfl
theorem fld_152_1 : fld Try.prog 152 1 = some (9, 1, 1) := by kernel_rfl
theorem fld_152_2 : fld Try.prog 152 2 = some (22, 2, 1) := by kernel_rfl
theorem rdk_153 : rdk Try.prog 153 = some (false, 1) := by kernel_rfl
theorem sz_153 : sz? Try.prog 153 = some 1 := by kernel_rfl
theorem isSl_153 : isSl Try.prog 153 = true := by kernel_rfl
theorem esz_153 : esz Try.prog 153 = 2 := by kernel_rfl
theorem elt_153 : elt Try.prog 153 = some (none, 2) := by kernel_rfl
theorem rdk_154 : rdk Try.prog 154 = some (true, 3) := by kernel_rfl
theorem sz_154 : sz? Try.prog 154 = some 3 := by kernel_rfl
theorem fld_154_0 : fld Try.prog 154 0 = some (3, 0, 1) := by kernel_rfl
theorem fld_154_1 : fld Try.prog 154 1 = some (121, 1, 1) := by kernel_rfl
theorem fld_154_2 : fld Try.prog 154 2 = some (153, 2, 1) := by kernel_rfl
theorem rdk_155 : rdk Try.prog 155 = some (true, 3) := by kernel_rfl
theorem sz_155 : sz? Try.prog 155 = some 3 := by kernel_rfl
theorem fld_155_0 : fld Try.prog 155 0 = some (3, 0, 1) := by kernel_rfl
theorem fld_155_1 : fld Try.prog 155 1 = some (121, 1, 1) := by kernel_rfl
theorem fld_155_2 : fld Try.prog 155 2 = some (153, 2, 1) := by kernel_rfl
theorem rdk_156 : rdk Try.prog 156 = some (false, 1) := by kernel_rfl
theorem sz_156 : sz? Try.prog 156 = some 1 := by kernel_rfl
theorem isSl_156 : isSl Try.prog 156 = true := by kernel_rfl
theorem esz_156 : esz Try.prog 156 = 5 := by kernel_rfl
theorem elt_156 : elt Try.prog 156 = some (none, 5) := by kernel_rfl
theorem rdk_157 : rdk Try.prog 157 = some (true, 3) := by kernel_rfl
theorem sz_157 : sz? Try.prog 157 = some 3 := by kernel_rfl
theorem fld_157_0 : fld Try.prog 157 0 = some (3, 0, 1) := by kernel_rfl
theorem fld_157_1 : fld Try.prog 157 1 = some (9, 1, 1) := by kernel_rfl
theorem fld_157_2 : fld Try.prog 157 2 = some (156, 2, 1) := by kernel_rfl
theorem rdk_158 : rdk Try.prog 158 = some (true, 3) := by kernel_rfl
theorem sz_158 : sz? Try.prog 158 = some 3 := by kernel_rfl
theorem fld_158_0 : fld Try.prog 158 0 = some (3, 0, 1) := by kernel_rfl
theorem fld_158_1 : fld Try.prog 158 1 = some (9, 1, 1) := by kernel_rfl
theorem fld_158_2 : fld Try.prog 158 2 = some (156, 2, 1) := by kernel_rfl
theorem rdk_159 : rdk Try.prog 159 = some (true, 8) := by kernel_rfl
theorem sz_159 : sz? Try.prog 159 = some 8 := by kernel_rfl
theorem fld_159_0 : fld Try.prog 159 0 = some (9, 0, 1) := by kernel_rfl
theorem fld_159_1 : fld Try.prog 159 1 = some (147, 1, 3) := by kernel_rfl
theorem fld_159_2 : fld Try.prog 159 2 = some (3, 4, 1) := by kernel_rfl
theorem fld_159_3 : fld Try.prog 159 3 = some (3, 5, 1) := by kernel_rfl
theorem fld_159_4 : fld Try.prog 159 4 = some (148, 6, 1) := by kernel_rfl
theorem fld_159_5 : fld Try.prog 159 5 = some (3, 7, 1) := by kernel_rfl
theorem rdk_160 : rdk Try.prog 160 = some (true, 8) := by kernel_rfl
theorem sz_160 : sz? Try.prog 160 = some 8 := by kernel_rfl
theorem fld_160_0 : fld Try.prog 160 0 = some (9, 0, 1) := by kernel_rfl
theorem fld_160_1 : fld Try.prog 160 1 = some (147, 1, 3) := by kernel_rfl
theorem fld_160_2 : fld Try.prog 160 2 = some (3, 4, 1) := by kernel_rfl
theorem fld_160_3 : fld Try.prog 160 3 = some (3, 5, 1) := by kernel_rfl
theorem fld_160_4 : fld Try.prog 160 4 = some (148, 6, 1) := by kernel_rfl
theorem fld_160_5 : fld Try.prog 160 5 = some (3, 7, 1) := by kernel_rfl
theorem rdk_161 : rdk Try.prog 161 = some (true, 3) := by kernel_rfl
theorem sz_161 : sz? Try.prog 161 = some 3 := by kernel_rfl
theorem fld_161_0 : fld Try.prog 161 0 = some (3, 0, 1) := by kernel_rfl
theorem fld_161_1 : fld Try.prog 161 1 = some (9, 1, 1) := by kernel_rfl
theorem fld_161_2 : fld Try.prog 161 2 = some (3, 2, 1) := by kernel_rfl
theorem rdk_162 : rdk Try.prog 162 = some (true, 3) := by kernel_rfl
theorem sz_162 : sz? Try.prog 162 = some 3 := by kernel_rfl
theorem fld_162_0 : fld Try.prog 162 0 = some (3, 0, 1) := by kernel_rfl
theorem fld_162_1 : fld Try.prog 162 1 = some (9, 1, 1) := by kernel_rfl
theorem fld_162_2 : fld Try.prog 162 2 = some (3, 2, 1) := by kernel_rfl
theorem rdk_163 : rdk Try.prog 163 = some (false, 1) := by kernel_rfl
theorem sz_163 : sz? Try.prog 163 = some 1 := by kernel_rfl
theorem isSl_163 : isSl Try.prog 163 = true := by kernel_rfl
theorem esz_163 : esz Try.prog 163 = 2 := by kernel_rfl
theorem elt_163 : elt Try.prog 163 = some (none, 2) := by kernel_rfl
theorem rdk_164 : rdk Try.prog 164 = some (true, 1) := by kernel_rfl
theorem sz_164 : sz? Try.prog 164 = some 1 := by kernel_rfl
theorem fld_164_0 : fld Try.prog 164 0 = some (163, 0, 1) := by kernel_rfl
theorem rdk_165 : rdk Try.prog 165 = some (true, 1) := by kernel_rfl
theorem sz_165 : sz? Try.prog 165 = some 1 := by kernel_rfl
theorem fld_165_0 : fld Try.prog 165 0 = some (163, 0, 1) := by kernel_rfl
theorem rdk_166 : rdk Try.prog 166 = some (true, 4) := by kernel_rfl
theorem sz_166 : sz? Try.prog 166 = some 4 := by kernel_rfl
theorem fld_166_0 : fld Try.prog 166 0 = some (3, 0, 1) := by kernel_rfl
theorem fld_166_1 : fld Try.prog 166 1 = some (3, 1, 1) := by kernel_rfl
theorem fld_166_2 : fld Try.prog 166 2 = some (4, 2, 1) := by kernel_rfl
theorem fld_166_3 : fld Try.prog 166 3 = some (88, 3, 1) := by kernel_rfl
theorem rdk_167 : rdk Try.prog 167 = some (true, 4) := by kernel_rfl
theorem sz_167 : sz? Try.prog 167 = some 4 := by kernel_rfl
theorem fld_167_0 : fld Try.prog 167 0 = some (3, 0, 1) := by kernel_rfl
theorem fld_167_1 : fld Try.prog 167 1 = some (3, 1, 1) := by kernel_rfl
theorem fld_167_2 : fld Try.prog 167 2 = some (4, 2, 1) := by kernel_rfl
theorem fld_167_3 : fld Try.prog 167 3 = some (88, 3, 1) := by kernel_rfl
theorem rdk_169 : rdk Try.prog 169 = some (true, 2) := by kernel_rfl
theorem sz_169 : sz? Try.prog 169 = some 2 := by kernel_rfl
theorem fld_169_0 : fld Try.prog 169 0 = some (21, 0, 1) := by kernel_rfl
theorem fld_169_1 : fld Try.prog 169 1 = some (21, 1, 1) := by kernel_rfl
theorem rdk_170 : rdk Try.prog 170 = some (true, 2) := by kernel_rfl
theorem sz_170 : sz? Try.prog 170 = some 2 := by kernel_rfl
theorem fld_170_0 : fld Try.prog 170 0 = some (21, 0, 1) := by kernel_rfl
theorem fld_170_1 : fld Try.prog 170 1 = some (21, 1, 1) := by kernel_rfl
theorem rdk_171 : rdk Try.prog 171 = some (true, 2) := by kernel_rfl
theorem sz_171 : sz? Try.prog 171 = some 2 := by kernel_rfl
theorem fld_171_0 : fld Try.prog 171 0 = some (4, 0, 1) := by kernel_rfl
theorem fld_171_1 : fld Try.prog 171 1 = some (9, 1, 1) := by kernel_rfl
theorem rdk_172 : rdk Try.prog 172 = some (true, 2) := by kernel_rfl
theorem sz_172 : sz? Try.prog 172 = some 2 := by kernel_rfl
theorem fld_172_0 : fld Try.prog 172 0 = some (4, 0, 1) := by kernel_rfl
theorem fld_172_1 : fld Try.prog 172 1 = some (9, 1, 1) := by kernel_rfl
theorem rdk_173 : rdk Try.prog 173 = some (false, 1) := by kernel_rfl
theorem sz_173 : sz? Try.prog 173 = some 1 := by kernel_rfl
theorem isSl_173 : isSl Try.prog 173 = true := by kernel_rfl
theorem esz_173 : esz Try.prog 173 = 6 := by kernel_rfl
theorem elt_173 : elt Try.prog 173 = some (none, 6) := by kernel_rfl
theorem rdk_174 : rdk Try.prog 174 = some (true, 5) := by kernel_rfl
theorem sz_174 : sz? Try.prog 174 = some 5 := by kernel_rfl
theorem fld_174_0 : fld Try.prog 174 0 = some (3, 0, 1) := by kernel_rfl
theorem fld_174_1 : fld Try.prog 174 1 = some (9, 1, 1) := by kernel_rfl
theorem fld_174_2 : fld Try.prog 174 2 = some (173, 2, 1) := by kernel_rfl
theorem fld_174_3 : fld Try.prog 174 3 = some (172, 3, 2) := by kernel_rfl
theorem rdk_175 : rdk Try.prog 175 = some (true, 5) := by kernel_rfl
theorem sz_175 : sz? Try.prog 175 = some 5 := by kernel_rfl
theorem fld_175_0 : fld Try.prog 175 0 = some (3, 0, 1) := by kernel_rfl
theorem fld_175_1 : fld Try.prog 175 1 = some (9, 1, 1) := by kernel_rfl
theorem fld_175_2 : fld Try.prog 175 2 = some (173, 2, 1) := by kernel_rfl
theorem fld_175_3 : fld Try.prog 175 3 = some (172, 3, 2) := by kernel_rfl
theorem rdk_176 : rdk Try.prog 176 = some (false, 1) := by kernel_rfl
theorem sz_176 : sz? Try.prog 176 = some 1 := by kernel_rfl
theorem isSl_176 : isSl Try.prog 176 = true := by kernel_rfl
theorem esz_176 : esz Try.prog 176 = 3 := by kernel_rfl
theorem elt_176 : elt Try.prog 176 = some (none, 3) := by kernel_rfl
theorem rdk_177 : rdk Try.prog 177 = some (true, 2) := by kernel_rfl
theorem sz_177 : sz? Try.prog 177 = some 2 := by kernel_rfl
theorem fld_177_0 : fld Try.prog 177 0 = some (3, 0, 1) := by kernel_rfl
theorem fld_177_1 : fld Try.prog 177 1 = some (176, 1, 1) := by kernel_rfl
theorem rdk_178 : rdk Try.prog 178 = some (true, 2) := by kernel_rfl
theorem sz_178 : sz? Try.prog 178 = some 2 := by kernel_rfl
theorem fld_178_0 : fld Try.prog 178 0 = some (3, 0, 1) := by kernel_rfl
theorem fld_178_1 : fld Try.prog 178 1 = some (176, 1, 1) := by kernel_rfl
theorem rdk_179 : rdk Try.prog 179 = some (false, 1) := by kernel_rfl
theorem sz_179 : sz? Try.prog 179 = some 1 := by kernel_rfl
theorem rdk_180 : rdk Try.prog 180 = some (false, 1) := by kernel_rfl
theorem sz_180 : sz? Try.prog 180 = some 1 := by kernel_rfl
theorem isSl_180 : isSl Try.prog 180 = true := by kernel_rfl
theorem esz_180 : esz Try.prog 180 = 5 := by kernel_rfl
theorem elt_180 : elt Try.prog 180 = some (none, 5) := by kernel_rfl
theorem rdk_181 : rdk Try.prog 181 = some (true, 5) := by kernel_rfl
theorem sz_181 : sz? Try.prog 181 = some 5 := by kernel_rfl
theorem fld_181_0 : fld Try.prog 181 0 = some (179, 0, 1) := by kernel_rfl
theorem fld_181_1 : fld Try.prog 181 1 = some (3, 1, 1) := by kernel_rfl
theorem fld_181_2 : fld Try.prog 181 2 = some (9, 2, 1) := by kernel_rfl
theorem fld_181_3 : fld Try.prog 181 3 = some (180, 3, 1) := by kernel_rfl
theorem fld_181_4 : fld Try.prog 181 4 = some (156, 4, 1) := by kernel_rfl
theorem rdk_182 : rdk Try.prog 182 = some (true, 5) := by kernel_rfl
theorem sz_182 : sz? Try.prog 182 = some 5 := by kernel_rfl
theorem fld_182_0 : fld Try.prog 182 0 = some (179, 0, 1) := by kernel_rfl
theorem fld_182_1 : fld Try.prog 182 1 = some (3, 1, 1) := by kernel_rfl
theorem fld_182_2 : fld Try.prog 182 2 = some (9, 2, 1) := by kernel_rfl
theorem fld_182_3 : fld Try.prog 182 3 = some (180, 3, 1) := by kernel_rfl
theorem fld_182_4 : fld Try.prog 182 4 = some (156, 4, 1) := by kernel_rfl
theorem rdk_183 : rdk Try.prog 183 = some (true, 6) := by kernel_rfl
theorem sz_183 : sz? Try.prog 183 = some 6 := by kernel_rfl
theorem fld_183_0 : fld Try.prog 183 0 = some (9, 0, 1) := by kernel_rfl
theorem fld_183_1 : fld Try.prog 183 1 = some (182, 1, 5) := by kernel_rfl
theorem rdk_184 : rdk Try.prog 184 = some (true, 6) := by kernel_rfl
theorem sz_184 : sz? Try.prog 184 = some 6 := by kernel_rfl
theorem fld_184_0 : fld Try.prog 184 0 = some (9, 0, 1) := by kernel_rfl
theorem fld_184_1 : fld Try.prog 184 1 = some (182, 1, 5) := by kernel_rfl
theorem rdk_185 : rdk Try.prog 185 = some (true, 3) := by kernel_rfl
theorem sz_185 : sz? Try.prog 185 = some 3 := by kernel_rfl
theorem fld_185_0 : fld Try.prog 185 0 = some (21, 0, 1) := by kernel_rfl
theorem fld_185_1 : fld Try.prog 185 1 = some (21, 1, 1) := by kernel_rfl
theorem fld_185_2 : fld Try.prog 185 2 = some (3, 2, 1) := by kernel_rfl
theorem rdk_186 : rdk Try.prog 186 = some (true, 3) := by kernel_rfl
theorem sz_186 : sz? Try.prog 186 = some 3 := by kernel_rfl
theorem fld_186_0 : fld Try.prog 186 0 = some (21, 0, 1) := by kernel_rfl
theorem fld_186_1 : fld Try.prog 186 1 = some (21, 1, 1) := by kernel_rfl
theorem fld_186_2 : fld Try.prog 186 2 = some (3, 2, 1) := by kernel_rfl
theorem zero_1 : zero? Try.prog 1 = some [.nilfunc] := by kernel_rfl
theorem zero_2 : zero? Try.prog 2 = some [.d (.int .i64 0)] := by kernel_rfl
theorem zero_3 : zero? Try.prog 3 = some [.d (.int .i64 0)] := by kernel_rfl
theorem zero_4 : zero? Try.prog 4 = some [.d (.bool false)] := by kernel_rfl
theorem zero_5 : zero? Try.prog 5 = some [.d (.int .u8 0)] := by kernel_rfl
theorem zero_7 : zero? Try.prog 7 = some [.d (.int .i64 0), .d (.int .i64 0), .d (.bool false), .d (.int .u8 0)] := by kernel_rfl
theorem bldS_7 : bldS Try.prog 7 = some ([.d (.int .i64 0), .d (.int .i64 0), .d (.bool false), .d (.int .u8 0)], [(0, 1), (1, 1), (2, 1), (3, 1)]) := by kernel_rfl
theorem zero_9 : zero? Try.prog 9 = some [.d (.str ⟨#[]⟩)] := by kernel_rfl
theorem zero_12 : zero? Try.prog 12 = some [.d (.int .u64 0)] := by kernel_rfl
theorem zero_13 : zero? Try.prog 13 = some [.d (.str ⟨#[]⟩), .d (.int .u64 0)] := by kernel_rfl
theorem bldS_13 : bldS Try.prog 13 = some ([.d (.str ⟨#[]⟩), .d (.int .u64 0)], [(0, 1), (1, 1)]) := by kernel_rfl
theorem zero_15 : zero? Try.prog 15 = some [.nilptr] := by kernel_rfl
theorem zero_16 : zero? Try.prog 16 = some [.nilptr] := by kernel_rfl
theorem zero_17 : zero? Try.prog 17 = some [.nilptr] := by kernel_rfl
theorem zero_18 : zero? Try.prog 18 = some [.nilptr] := by kernel_rfl
theorem bldS_18 : bldS Try.prog 18 = some ([.nilptr], [(0, 1)]) := by kernel_rfl
theorem zero_21 : zero? Try.prog 21 = some [.d (.int .i32 0)] := by kernel_rfl
theorem zero_22 : zero? Try.prog 22 = some [.d (.list true true 0 [])] := by kernel_rfl
theorem zero_23 : zero? Try.prog 23 = some [.d (.list true true 0 [])] := by kernel_rfl
theorem zero_24 : zero? Try.prog 24 = some [.d (.list true true 0 [])] := by kernel_rfl
theorem zero_25 : zero? Try.prog 25 = some [.d (.list true true 0 [])] := by kernel_rfl
theorem zero_26 : zero? Try.prog 26 = some [.d (.list true true 0 []), .d (.list true true 0 []), .d (.list true true 0 []), .d (.list true true 0 []), .d (.list true true 0 [])] := by kernel_rfl
theorem bldS_26 : bldS Try.prog 26 = some ([.d (.list true true 0 []), .d (.list true true 0 []), .d (.list true true 0 []), .d (.list true true 0 []), .d (.list true true 0 [])], [(0, 1), (1, 1), (2, 1), (3, 1), (4, 1)]) := by kernel_rfl
theorem zero_27 : zero? Try.prog 27 = some [.d (.list true true 0 []), .d (.list true true 0 []), .d (.list true true 0 []), .d (.list true true 0 []), .d (.list true true 0 [])] := by kernel_rfl
theorem bldS_27 : bldS Try.prog 27 = some ([.d (.list true true 0 []), .d (.list true true 0 []), .d (.list true true 0 []), .d (.list true true 0 []), .d (.list true true 0 [])], [(0, 1), (1, 1), (2, 1), (3, 1), (4, 1)]) := by kernel_rfl
theorem zero_28 : zero? Try.prog 28 = some [.d (.int .i64 0)] := by kernel_rfl
theorem zero_29 : zero? Try.prog 29 = some [.d (.list true true 0 [])] := by kernel_rfl
theorem zero_30 : zero? Try.prog 30 = some [.d (.list true true 0 [])] := by kernel_rfl
theorem zero_31 : zero? Try.prog 31 = some [.d (.int .i64 0), .d (.int .i64 0), .d (.int .i64 0), .d (.int .i64 0), .d (.list true true 0 []), .d (.str ⟨#[]⟩), .d (.list true true 0 [])] := by kernel_rfl
theorem bldS_31 : bldS Try.prog 31 = some ([.d (.int .i64 0), .d (.int .i64 0), .d (.int .i64 0), .d (.int .i64 0), .d (.list true true 0 []), .d (.str ⟨#[]⟩), .d (.list true true 0 [])], [(0, 1), (1, 1), (2, 1), (3, 1), (4, 1), (5, 1), (6, 1)]) := by kernel_rfl
theorem zero_32 : zero? Try.prog 32 = some [.d (.int .i64 0), .d (.int .i64 0), .d (.int .i64 0), .d (.int .i64 0), .d (.list true true 0 []), .d (.str ⟨#[]⟩), .d (.list true true 0 [])] := by kernel_rfl
theorem bldS_32 : bldS Try.prog 32 = some ([.d (.int .i64 0), .d (.int .i64 0), .d (.int .i64 0), .d (.int .i64 0), .d (.list true true 0 []), .d (.str ⟨#[]⟩), .d (.list true true 0 [])], [(0, 1), (1, 1), (2, 1), (3, 1), (4, 1), (5, 1), (6, 1)]) := by kernel_rfl
theorem zero_33 : zero? Try.prog 33 = some [.d (.int .i64 0), .d (.int .i64 0), .d (.str ⟨#[]⟩)] := by kernel_rfl
theorem bldS_33 : bldS Try.prog 33 = some ([.d (.int .i64 0), .d (.int .i64 0), .d (.str ⟨#[]⟩)], [(0, 1), (1, 1), (2, 1)]) := by kernel_rfl
theorem zero_34 : zero? Try.prog 34 = some [.d (.int .i64 0), .d (.int .i64 0), .d (.str ⟨#[]⟩)] := by kernel_rfl
theorem bldS_34 : bldS Try.prog 34 = some ([.d (.int .i64 0), .d (.int .i64 0), .d (.str ⟨#[]⟩)], [(0, 1), (1, 1), (2, 1)]) := by kernel_rfl
theorem zero_35 : zero? Try.prog 35 = some [.nilfunc] := by kernel_rfl
theorem zero_36 : zero? Try.prog 36 = some [.nilfunc] := by kernel_rfl
theorem zero_37 : zero? Try.prog 37 = some [.nilfunc] := by kernel_rfl
theorem zero_38 : zero? Try.prog 38 = some [.d (.list true true 0 [])] := by kernel_rfl
theorem zero_39 : zero? Try.prog 39 = some [.nilfunc] := by kernel_rfl
theorem zero_40 : zero? Try.prog 40 = some [.d (.list true true 0 [])] := by kernel_rfl
theorem zero_41 : zero? Try.prog 41 = some [.d (.list true true 0 [])] := by kernel_rfl
theorem zero_42 : zero? Try.prog 42 = some [.d (.list true true 0 [])] := by kernel_rfl
theorem zero_43 : zero? Try.prog 43 = some [.d (.list true true 0 [])] := by kernel_rfl
theorem zero_44 : zero? Try.prog 44 = some [.d (.list true true 0 [])] := by kernel_rfl
theorem zero_45 : zero? Try.prog 45 = some [.d (.str ⟨#[]⟩), .d (.list true true 0 []), .d (.list true true 0 []), .d (.list true true 0 []), .d (.list true true 0 []), .d (.list true true 0 [])] := by kernel_rfl
theorem bldS_45 : bldS Try.prog 45 = some ([.d (.str ⟨#[]⟩), .d (.list true true 0 []), .d (.list true true 0 []), .d (.list true true 0 []), .d (.list true true 0 []), .d (.list true true 0 [])], [(0, 1), (1, 1), (2, 1), (3, 1), (4, 1), (5, 1)]) := by kernel_rfl
theorem zero_46 : zero? Try.prog 46 = some [.d (.str ⟨#[]⟩), .d (.list true true 0 []), .d (.list true true 0 []), .d (.list true true 0 []), .d (.list true true 0 []), .d (.list true true 0 [])] := by kernel_rfl
theorem bldS_46 : bldS Try.prog 46 = some ([.d (.str ⟨#[]⟩), .d (.list true true 0 []), .d (.list true true 0 []), .d (.list true true 0 []), .d (.list true true 0 []), .d (.list true true 0 [])], [(0, 1), (1, 1), (2, 1), (3, 1), (4, 1), (5, 1)]) := by kernel_rfl
theorem zero_47 : zero? Try.prog 47 = some [.d (.list true true 0 [])] := by kernel_rfl
theorem zero_48 : zero? Try.prog 48 = some [.d (.list true true 0 [])] := by kernel_rfl
theorem zero_49 : zero? Try.prog 49 = some [.d (.list true true 0 []), .d (.list true true 0 []), .d (.list true true 0 []), .d (.list true true 0 [])] := by kernel_rfl
theorem bldS_49 : bldS Try.prog 49 = some ([.d (.list true true 0 []), .d (.list true true 0 []), .d (.list true true 0 []), .d (.list true true 0 [])], [(0, 1), (1, 1), (2, 1), (3, 1)]) := by kernel_rfl
theorem zero_50 : zero? Try.prog 50 = some [.d (.list true true 0 []), .d (.list true true 0 []), .d (.list true true 0 []), .d (.list true true 0 [])] := by kernel_rfl
theorem bldS_50 : bldS Try.prog 50 = some ([.d (.list true true 0 []), .d (.list true true 0 []), .d (.list true true 0 []), .d (.list true true 0 [])], [(0, 1), (1, 1), (2, 1), (3, 1)]) := by kernel_rfl
theorem zero_51 : zero? Try.prog 51 = some [.d (.list true true 0 [])] := by kernel_rfl
theorem zero_52 : zero? Try.prog 52 = some [.d (.list true true 0 []), .d (.list true true 0 []), .d (.list true true 0 []), .d (.list true true 0 []), .d (.list true true 0 [])] := by kernel_rfl
theorem bldS_52 : bldS Try.prog 52 = some ([.d (.list true true 0 []), .d (.list true true 0 []), .d (.list true true 0 []), .d (.list true true 0 []), .d (.list true true 0 [])], [(0, 4), (4, 1)]) := by kernel_rfl
theorem zero_53 : zero? Try.prog 53 = some [.d (.list true true 0 []), .d (.list true true 0 []), .d (.list true true 0 []), .d (.list true true 0 []), .d (.list true true 0 [])] := by kernel_rfl
theorem bldS_53 : bldS Try.prog 53 = some ([.d (.list true true 0 []), .d (.list true true 0 []), .d (.list true true 0 []), .d (.list true true 0 []), .d (.list true true 0 [])], [(0, 4), (4, 1)]) := by kernel_rfl
theorem zero_54 : zero? Try.prog 54 = some [.d (.list true true 0 [])] := by kernel_rfl
theorem zero_55 : zero? Try.prog 55 = some [.d (.list true true 0 [])] := by kernel_rfl
theorem zero_56 : zero? Try.prog 56 = some [.d (.list true true 0 []), .d (.list true true 0 [])] := by kernel_rfl
theorem bldS_56 : bldS Try.prog 56 = some ([.d (.list true true 0 []), .d (.list true true 0 [])], [(0, 1), (1, 1)]) := by kernel_rfl
theorem zero_57 : zero? Try.prog 57 = some [.d (.list true true 0 []), .d (.list true true 0 [])] := by kernel_rfl
theorem bldS_57 : bldS Try.prog 57 = some ([.d (.list true true 0 []), .d (.list true true 0 [])], [(0, 1), (1, 1)]) := by kernel_rfl
theorem zero_58 : zero? Try.prog 58 = some [.d (.list true true 0 [])] := by kernel_rfl
theorem zero_59 : zero? Try.prog 59 = some [.d (.str ⟨#[]⟩), .d (.list true true 0 []), .d (.list true true 0 []), .d (.list true true 0 []), .d (.list true true 0 []), .d (.list true true 0 []), .d (.list true true 0 []), .d (.list true true 0 []), .d (.list true true 0 []), .d (.list true true 0 []), .d (.list true true 0 []), .d (.list true true 0 []), .d (.list true true 0 []), .d (.list true true 0 []), .d (.list true true 0 []), .d (.list true true 0 []), .d (.list true true 0 []), .d (.list true true 0 []), .d (.list true true 0 [])] := by kernel_rfl
theorem bldS_59 : bldS Try.prog 59 = some ([.d (.str ⟨#[]⟩), .d (.list true true 0 []), .d (.list true true 0 []), .d (.list true true 0 []), .d (.list true true 0 []), .d (.list true true 0 []), .d (.list true true 0 []), .d (.list true true 0 []), .d (.list true true 0 []), .d (.list true true 0 []), .d (.list true true 0 []), .d (.list true true 0 []), .d (.list true true 0 []), .d (.list true true 0 []), .d (.list true true 0 []), .d (.list true true 0 []), .d (.list true true 0 []), .d (.list true true 0 []), .d (.list true true 0 [])], [(0, 6), (6, 5), (11, 5), (16, 2), (18, 1)]) := by kernel_rfl
theorem zero_60 : zero? Try.prog 60 = some [.d (.str ⟨#[]⟩), .d (.list true true 0 []), .d (.list true true 0 []), .d (.list true true 0 []), .d (.list true true 0 []), .d (.list true true 0 []), .d (.list true true 0 []), .d (.list true true 0 []), .d (.list true true 0 []), .d (.list true true 0 []), .d (.list true true 0 []), .d (.list true true 0 []), .d (.list true true 0 []), .d (.list true true 0 []), .d (.list true true 0 []), .d (.list true true 0 []), .d (.list true true 0 []), .d (.list true true 0 []), .d (.list true true 0 [])] := by kernel_rfl
theorem bldS_60 : bldS Try.prog 60 = some ([.d (.str ⟨#[]⟩), .d (.list true true 0 []), .d (.list true true 0 []), .d (.list true true 0 []), .d (.list true true 0 []), .d (.list true true 0 []), .d (.list true true 0 []), .d (.list true true 0 []), .d (.list true true 0 []), .d (.list true true 0 []), .d (.list true true 0 []), .d (.list true true 0 []), .d (.list true true 0 []), .d (.list true true 0 []), .d (.list true true 0 []), .d (.list true true 0 []), .d (.list true true 0 []), .d (.list true true 0 []), .d (.list true true 0 [])], [(0, 6), (6, 5), (11, 5), (16, 2), (18, 1)]) := by kernel_rfl
theorem zero_61 : zero? Try.prog 61 = some [.nilfunc] := by kernel_rfl
theorem zero_62 : zero? Try.prog 62 = some [.d (.int .i64 0), .d (.int .i64 0), .d (.int .i64 0), .d (.int .i64 0), .d (.int .i64 0), .d (.int .i64 0), .d (.int .i64 0), .d (.list true true 0 []), .d (.str ⟨#[]⟩), .d (.list true true 0 [])] := by kernel_rfl
theorem bldS_62 : bldS Try.prog 62 = some ([.d (.int .i64 0), .d (.int .i64 0), .d (.int .i64 0), .d (.int .i64 0), .d (.int .i64 0), .d (.int .i64 0), .d (.int .i64 0), .d (.list true true 0 []), .d (.str ⟨#[]⟩), .d (.list true true 0 [])], [(0, 1), (1, 1), (2, 1), (3, 7)]) := by kernel_rfl
theorem zero_63 : zero? Try.prog 63 = some [.d (.int .i64 0), .d (.int .i64 0), .d (.int .i64 0), .d (.int .i64 0), .d (.int .i64 0), .d (.int .i64 0), .d (.int .i64 0), .d (.list true true 0 []), .d (.str ⟨#[]⟩), .d (.list true true 0 [])] := by kernel_rfl
theorem bldS_63 : bldS Try.prog 63 = some ([.d (.int .i64 0), .d (.int .i64 0), .d (.int .i64 0), .d (.int .i64 0), .d (.int .i64 0), .d (.int .i64 0), .d (.int .i64 0), .d (.list true true 0 []), .d (.str ⟨#[]⟩), .d (.list true true 0 [])], [(0, 1), (1, 1), (2, 1), (3, 7)]) := by kernel_rfl
theorem zero_64 : zero? Try.prog 64 = some [.d (.int .i64 0), .d (.int .i64 0)] := by kernel_rfl
theorem elt_64 : elt Try.prog 64 = some (some 2, 1) := by kernel_rfl
theorem zero_65 : zero? Try.prog 65 = some [.nilfunc] := by kernel_rfl
theorem zero_66 : zero? Try.prog 66 = some [.nilfunc] := by kernel_rfl
theorem zero_67 : zero? Try.prog 67 = some [.nilfunc] := by kernel_rfl
theorem zero_68 : zero? Try.prog 68 = some [.nilfunc] := by kernel_rfl
theorem zero_69 : zero? Try.prog 69 = some [.d (.int .i64 0)] := by kernel_rfl
theorem zero_71 : zero? Try.prog 71 = some [.nilfunc] := by kernel_rfl
theorem zero_72 : zero? Try.prog 72 = some [.nilfunc] := by kernel_rfl
theorem zero_73 : zero? Try.prog 73 = some [.nilfunc] := by kernel_rfl
theorem zero_74 : zero? Try.prog 74 = some [.nilfunc] := by kernel_rfl
theorem zero_75 : zero? Try.prog 75 = some [.nilfunc] := by kernel_rfl
theorem zero_76 : zero? Try.prog 76 = some [.nilfunc] := by kernel_rfl
theorem zero_77 : zero? Try.prog 77 = some [.nilfunc] := by kernel_rfl
theorem zero_78 : zero? Try.prog 78 = some [.nilfunc] := by kernel_rfl
theorem zero_79 : zero? Try.prog 79 = some [.d (.list true true 0 [])] := by kernel_rfl
theorem zero_80 : zero? Try.prog 80 = some [.nilfunc] := by kernel_rfl
theorem zero_81 : zero? Try.prog 81 = some [.d (.int .i64 0), .d (.int .i64 0)] := by kernel_rfl
theorem bldS_81 : bldS Try.prog 81 = some ([.d (.int .i64 0), .d (.int .i64 0)], [(0, 1), (1, 1)]) := by kernel_rfl
theorem zero_82 : zero? Try.prog 82 = some [.d (.int .i64 0), .d (.int .i64 0)] := by kernel_rfl
theorem bldS_82 : bldS Try.prog 82 = some ([.d (.int .i64 0), .d (.int .i64 0)], [(0, 1), (1, 1)]) := by kernel_rfl
theorem zero_83 : zero? Try.prog 83 = some [.d (.int .i64 0), .d (.int .i64 0), .d (.int .i64 0), .d (.int .i64 0), .d (.list true true 0 []), .d (.str ⟨#[]⟩), .d (.list true true 0 []), .d (.int .i64 0), .d (.int .i64 0)] := by kernel_rfl
theorem bldS_83 : bldS Try.prog 83 = some ([.d (.int .i64 0), .d (.int .i64 0), .d (.int .i64 0), .d (.int .i64 0), .d (.list true true 0 []), .d (.str ⟨#[]⟩), .d (.list true true 0 []), .d (.int .i64 0), .d (.int .i64 0)], [(0, 7), (7, 2)]) := by kernel_rfl
theorem zero_84 : zero? Try.prog 84 = some [.d (.int .i64 0), .d (.int .i64 0), .d (.int .i64 0), .d (.int .i64 0), .d (.list true true 0 []), .d (.str ⟨#[]⟩), .d (.list true true 0 []), .d (.int .i64 0), .d (.int .i64 0)] := by kernel_rfl
theorem bldS_84 : bldS Try.prog 84 = some ([.d (.int .i64 0), .d (.int .i64 0), .d (.int .i64 0), .d (.int .i64 0), .d (.list true true 0 []), .d (.str ⟨#[]⟩), .d (.list true true 0 []), .d (.int .i64 0), .d (.int .i64 0)], [(0, 7), (7, 2)]) := by kernel_rfl
theorem zero_85 : zero? Try.prog 85 = some [.nilfunc] := by kernel_rfl
theorem zero_86 : zero? Try.prog 86 = some [.nilfunc] := by kernel_rfl
theorem zero_87 : zero? Try.prog 87 = some [.nilptr] := by kernel_rfl
theorem zero_88 : zero? Try.prog 88 = some [.d (.list true true 0 [])] := by kernel_rfl
theorem zero_89 : zero? Try.prog 89 = some [.d (.int .i64 0), .d (.int .i64 0), .d (.str ⟨#[]⟩), .d (.list true true 0 []), .d (.list true true 0 []), .d (.list true true 0 []), .d (.list true true 0 [])] := by kernel_rfl
theorem bldS_89 : bldS Try.prog 89 = some ([.d (.int .i64 0), .d (.int .i64 0), .d (.str ⟨#[]⟩), .d (.list true true 0 []), .d (.list true true 0 []), .d (.list true true 0 []), .d (.list true true 0 [])], [(0, 3), (3, 1), (4, 1), (5, 1), (6, 1)]) := by kernel_rfl
theorem zero_90 : zero? Try.prog 90 = some [.d (.int .i64 0), .d (.int .i64 0), .d (.str ⟨#[]⟩), .d (.list true true 0 []), .d (.list true true 0 []), .d (.list true true 0 []), .d (.list true true 0 [])] := by kernel_rfl
theorem bldS_90 : bldS Try.prog 90 = some ([.d (.int .i64 0), .d (.int .i64 0), .d (.str ⟨#[]⟩), .d (.list true true 0 []), .d (.list true true 0 []), .d (.list true true 0 []), .d (.list true true 0 [])], [(0, 3), (3, 1), (4, 1), (5, 1), (6, 1)]) := by kernel_rfl
theorem zero_91 : zero? Try.prog 91 = some [.nilfunc] := by kernel_rfl
theorem zero_92 : zero? Try.prog 92 = some [.nilfunc] := by kernel_rfl
theorem zero_93 : zero? Try.prog 93 = some [.nilfunc] := by kernel_rfl
theorem zero_94 : zero? Try.prog 94 = some [.d (.int .i64 0)] := by kernel_rfl
theorem zero_95 : zero? Try.prog 95 = some [.d (.int .i64 0), .d (.list true true 0 []), .d (.list true true 0 []), .d (.str ⟨#[]⟩), .d (.int .i64 0)] := by kernel_rfl
theorem bldS_95 : bldS Try.prog 95 = some ([.d (.int .i64 0), .d (.list true true 0 []), .d (.list true true 0 []), .d (.str ⟨#[]⟩), .d (.int .i64 0)], [(0, 1), (1, 1), (2, 1), (3, 1), (4, 1)]) := by kernel_rfl
theorem zero_96 : zero? Try.prog 96 = some [.d (.int .i64 0), .d (.list true true 0 []), .d (.list true true 0 []), .d (.str ⟨#[]⟩), .d (.int .i64 0)] := by kernel_rfl
theorem bldS_96 : bldS Try.prog 96 = some ([.d (.int .i64 0), .d (.list true true 0 []), .d (.list true true 0 []), .d (.str ⟨#[]⟩), .d (.int .i64 0)], [(0, 1), (1, 1), (2, 1), (3, 1), (4, 1)]) := by kernel_rfl
theorem zero_97 : zero? Try.prog 97 = some [.d (.list true true 0 [])] := by kernel_rfl
theorem zero_98 : zero? Try.prog 98 = some [.nilfunc] := by kernel_rfl
theorem zero_99 : zero? Try.prog 99 = some [.d (.int .i64 0)] := by kernel_rfl
theorem zero_100 : zero? Try.prog 100 = some [.d (.int .i64 0), .d (.int .i64 0)] := by kernel_rfl
theorem bldS_100 : bldS Try.prog 100 = some ([.d (.int .i64 0), .d (.int .i64 0)], [(0, 1), (1, 1)]) := by kernel_rfl
theorem zero_101 : zero? Try.prog 101 = some [.d (.int .i64 0), .d (.int .i64 0)] := by kernel_rfl
theorem bldS_101 : bldS Try.prog 101 = some ([.d (.int .i64 0), .d (.int .i64 0)], [(0, 1), (1, 1)]) := by kernel_rfl
theorem zero_102 : zero? Try.prog 102 = some [.d (.list true true 0 [])] := by kernel_rfl
theorem zero_103 : zero? Try.prog 103 = some [.d (.list true true 0 [])] := by kernel_rfl
theorem zero_104 : zero? Try.prog 104 = some [.d (.list true true 0 [])] := by kernel_rfl
theorem zero_105 : zero? Try.prog 105 = some [.nilfunc] := by kernel_rfl
theorem zero_106 : zero? Try.prog 106 = some [.nilfunc] := by kernel_rfl
theorem zero_107 : zero? Try.prog 107 = some [.nilfunc] := by kernel_rfl
theorem zero_108 : zero? Try.prog 108 = some [.d (.int .i64 0)] := by kernel_rfl
theorem zero_109 : zero? Try.prog 109 = some [.d (.int .i64 0), .d (.int .i64 0), .d (.str ⟨#[]⟩)] := by kernel_rfl
theorem bldS_109 : bldS Try.prog 109 = some ([.d (.int .i64 0), .d (.int .i64 0), .d (.str ⟨#[]⟩)], [(0, 1), (1, 1), (2, 1)]) := by kernel_rfl
theorem zero_110 : zero? Try.prog 110 = some [.d (.int .i64 0), .d (.int .i64 0), .d (.str ⟨#[]⟩)] := by kernel_rfl
theorem bldS_110 : bldS Try.prog 110 = some ([.d (.int .i64 0), .d (.int .i64 0), .d (.str ⟨#[]⟩)], [(0, 1), (1, 1), (2, 1)]) := by kernel_rfl
theorem zero_111 : zero? Try.prog 111 = some [.nilfunc] := by kernel_rfl
theorem zero_112 : zero? Try.prog 112 = some [.nilfunc] := by kernel_rfl
theorem zero_113 : zero? Try.prog 113 = some [.nilfunc] := by kernel_rfl
theorem zero_114 : zero? Try.prog 114 = some [.nilfunc] := by kernel_rfl
theorem zero_115 : zero? Try.prog 115 = some [.nilfunc] := by kernel_rfl
theorem zero_116 : zero? Try.prog 116 = some [.nilfunc] := by kernel_rfl
theorem zero_117 : zero? Try.prog 117 = some [.nilfunc] := by kernel_rfl
theorem zero_118 : zero? Try.prog 118 = some [.nilfunc] := by kernel_rfl
theorem zero_119 : zero? Try.prog 119 = some [.nilfunc] := by kernel_rfl
theorem zero_120 : zero? Try.prog 120 = some [.d (.list true true 0 [])] := by kernel_rfl
theorem zero_121 : zero? Try.prog 121 = some [.d (.int .i64 0)] := by kernel_rfl
theorem zero_122 : zero? Try.prog 122 = some [.d (.int .i64 0), .d (.list true true 0 [])] := by kernel_rfl
theorem bldS_122 : bldS Try.prog 122 = some ([.d (.int .i64 0), .d (.list true true 0 [])], [(0, 1), (1, 1)]) := by kernel_rfl
theorem zero_123 : zero? Try.prog 123 = some [.d (.int .i64 0), .d (.list true true 0 [])] := by kernel_rfl
theorem bldS_123 : bldS Try.prog 123 = some ([.d (.int .i64 0), .d (.list true true 0 [])], [(0, 1), (1, 1)]) := by kernel_rfl
theorem zero_124 : zero? Try.prog 124 = some [.nilfunc] := by kernel_rfl
theorem zero_125 : zero? Try.prog 125 = some [.nilptr, .nilptr, .nilptr, .d (.str ⟨#[]⟩)] := by kernel_rfl
theorem bldS_125 : bldS Try.prog 125 = some ([.nilptr, .nilptr, .nilptr, .d (.str ⟨#[]⟩)], [(0, 1), (1, 1), (2, 1), (3, 1)]) := by kernel_rfl
theorem zero_127 : zero? Try.prog 127 = some [] := by kernel_rfl
theorem elt_127 : elt Try.prog 127 = some (some 0, 1) := by kernel_rfl
theorem zero_128 : zero? Try.prog 128 = some [] := by kernel_rfl
theorem bldS_128 : bldS Try.prog 128 = some ([], [(0, 0)]) := by kernel_rfl
theorem zero_130 : zero? Try.prog 130 = some [.nilfunc] := by kernel_rfl
theorem zero_131 : zero? Try.prog 131 = some [.d (.int .u32 0)] := by kernel_rfl
theorem zero_134 : zero? Try.prog 134 = some [.nilfunc] := by kernel_rfl
theorem zero_135 : zero? Try.prog 135 = some [.nilptr] := by kernel_rfl
theorem zero_138 : zero? Try.prog 138 = some [.d (.int .u64 0), .d (.int .u64 0), .d (.int .u32 0), .d (.int .u8 0), .d (.int .u8 0), .d (.int .u8 0), .d (.int .u8 0), .nilfunc, .nilptr, .d (.int .i32 0), .d (.int .i32 0)] := by kernel_rfl
theorem bldS_138 : bldS Try.prog 138 = some ([.d (.int .u64 0), .d (.int .u64 0), .d (.int .u32 0), .d (.int .u8 0), .d (.int .u8 0), .d (.int .u8 0), .d (.int .u8 0), .nilfunc, .nilptr, .d (.int .i32 0), .d (.int .i32 0)], [(0, 1), (1, 1), (2, 1), (3, 1), (4, 1), (5, 1), (6, 1), (7, 1), (8, 1), (9, 1), (10, 1)]) := by kernel_rfl
theorem zero_140 : zero? Try.prog 140 = some [.d (.int .i64 0), .d (.str ⟨#[]⟩)] := by kernel_rfl
theorem bldS_140 : bldS Try.prog 140 = some ([.d (.int .i64 0), .d (.str ⟨#[]⟩)], [(0, 1), (1, 1)]) := by kernel_rfl
theorem zero_141 : zero? Try.prog 141 = some [.d (.int .i64 0), .d (.str ⟨#[]⟩)] := by kernel_rfl
theorem bldS_141 : bldS Try.prog 141 = some ([.d (.int .i64 0), .d (.str ⟨#[]⟩)], [(0, 1), (1, 1)]) := by kernel_rfl
theorem zero_142 : zero? Try.prog 142 = some [.d (.int .i64 0)] := by kernel_rfl
theorem zero_143 : zero? Try.prog 143 = some [.d (.list true true 0 [])] := by kernel_rfl
theorem zero_144 : zero? Try.prog 144 = some [.d (.list true true 0 [])] := by kernel_rfl
theorem zero_145 : zero? Try.prog 145 = some [.d (.list true true 0 [])] := by kernel_rfl
theorem zero_146 : zero? Try.prog 146 = some [.d (.int .i64 0), .d (.list true true 0 []), .d (.list true true 0 [])] := by kernel_rfl
theorem bldS_146 : bldS Try.prog 146 = some ([.d (.int .i64 0), .d (.list true true 0 []), .d (.list true true 0 [])], [(0, 1), (1, 1), (2, 1)]) := by kernel_rfl
theorem zero_147 : zero? Try.prog 147 = some [.d (.int .i64 0), .d (.list true true 0 []), .d (.list true true 0 [])] := by kernel_rfl
theorem bldS_147 : bldS Try.prog 147 = some ([.d (.int .i64 0), .d (.list true true 0 []), .d (.list true true 0 [])], [(0, 1), (1, 1), (2, 1)]) := by kernel_rfl
theorem zero_148 : zero? Try.prog 148 = some [.d (.int .i64 0)] := by kernel_rfl
theorem zero_149 : zero? Try.prog 149 = some [.d (.int .i64 0), .d (.str ⟨#[]⟩), .d (.bool false), .d (.int .i64 0), .d (.list true true 0 []), .d (.list true true 0 []), .d (.str ⟨#[]⟩), .d (.int .i64 0), .d (.str ⟨#[]⟩)] := by kernel_rfl
theorem bldS_149 : bldS Try.prog 149 = some ([.d (.int .i64 0), .d (.str ⟨#[]⟩), .d (.bool false), .d (.int .i64 0), .d (.list true true 0 []), .d (.list true true 0 []), .d (.str ⟨#[]⟩), .d (.int .i64 0), .d (.str ⟨#[]⟩)], [(0, 1), (1, 1), (2, 1), (3, 3), (6, 1), (7, 1), (8, 1)]) := by kernel_rfl
theorem zero_150 : zero? Try.prog 150 = some [.d (.int .i64 0), .d (.str ⟨#[]⟩), .d (.bool false), .d (.int .i64 0), .d (.list true true 0 []), .d (.list true true 0 []), .d (.str ⟨#[]⟩), .d (.int .i64 0), .d (.str ⟨#[]⟩)] := by kernel_rfl
theorem bldS_150 : bldS Try.prog 150 = some ([.d (.int .i64 0), .d (.str ⟨#[]⟩), .d (.bool false), .d (.int .i64 0), .d (.list true true 0 []), .d (.list true true 0 []), .d (.str ⟨#[]⟩), .d (.int .i64 0), .d (.str ⟨#[]⟩)], [(0, 1), (1, 1), (2, 1), (3, 3), (6, 1), (7, 1), (8, 1)]) := by kernel_rfl
theorem zero_151 : zero? Try.prog 151 = some [.d (.int .i64 0), .d (.str ⟨#[]⟩), .d (.list true true 0 [])] := by kernel_rfl
theorem bldS_151 : bldS Try.prog 151 = some ([.d (.int .i64 0), .d (.str ⟨#[]⟩), .d (.list true true 0 [])], [(0, 1), (1, 1), (2, 1)]) := by kernel_rfl
theorem zero_152 : zero? Try.prog 152 = some [.d (.int .i64 0), .d (.str ⟨#[]⟩), .d (.list true true 0 [])] := by kernel_rfl
theorem bldS_152 : bldS Try.prog 152 = some ([.d (.int .i64 0), .d (.str ⟨#[]⟩), .d (.list true true 0 [])], [(0, 1), (1, 1), (2, 1)]) := by kernel_rfl
theorem zero_153 : zero? Try.prog 153 = some [.d (.list true true 0 [])] := by kernel_rfl
theorem zero_154 : zero? Try.prog 154 = some [.d (.int .i64 0), .d (.int .i64 0), .d (.list true true 0 [])] := by kernel_rfl
theorem bldS_154 : bldS Try.prog 154 = some ([.d (.int .i64 0), .d (.int .i64 0), .d (.list true true 0 [])], [(0, 1), (1, 1), (2, 1)]) := by kernel_rfl
theorem zero_155 : zero? Try.prog 155 = some [.d (.int .i64 0), .d (.int .i64 0), .d (.list true true 0 [])] := by kernel_rfl
theorem bldS_155 : bldS Try.prog 155 = some ([.d (.int .i64 0), .d (.int .i64 0), .d (.list true true 0 [])], [(0, 1), (1, 1), (2, 1)]) := by kernel_rfl
theorem zero_156 : zero? Try.prog 156 = some [.d (.list true true 0 [])] := by kernel_rfl
theorem zero_157 : zero? Try.prog 157 = some [.d (.int .i64 0), .d (.str ⟨#[]⟩), .d (.list true true 0 [])] := by kernel_rfl
theorem bldS_157 : bldS Try.prog 157 = some ([.d (.int .i64 0), .d (.str ⟨#[]⟩), .d (.list true true 0 [])], [(0, 1), (1, 1), (2, 1)]) := by kernel_rfl
theorem zero_158 : zero? Try.prog 158 = some [.d (.int .i64 0), .d (.str ⟨#[]⟩), .d (.list true true 0 [])] := by kernel_rfl
theorem bldS_158 : bldS Try.prog 158 = some ([.d (.int .i64 0), .d (.str ⟨#[]⟩), .d (.list true true 0 [])], [(0, 1), (1, 1), (2, 1)]) := by kernel_rfl
theorem zero_159 : zero? Try.prog 159 = some [.d (.str ⟨#[]⟩), .d (.int .i64 0), .d (.list true true 0 []), .d (.list true true 0 []), .d (.int .i64 0), .d (.int .i64 0), .d (.int .i64 0), .d (.int .i64 0)] := by kernel_rfl
theorem bldS_159 : bldS Try.prog 159 = some ([.d (.str ⟨#[]⟩), .d (.int .i64 0), .d (.list true true 0 []), .d (.list true true 0 []), .d (.int .i64 0), .d (.int .i64 0), .d (.int .i64 0), .d (.int .i64 0)], [(0, 1), (1, 3), (4, 1), (5, 1), (6, 1), (7, 1)]) := by kernel_rfl
theorem zero_160 : zero? Try.prog 160 = some [.d (.str ⟨#[]⟩), .d (.int .i64 0), .d (.list true true 0 []), .d (.list true true 0 []), .d (.int .i64 0), .d (.int .i64 0), .d (.int .i64 0), .d (.int .i64 0)] := by kernel_rfl
theorem bldS_160 : bldS Try.prog 160 = some ([.d (.str ⟨#[]⟩), .d (.int .i64 0), .d (.list true true 0 []), .d (.list true true 0 []), .d (.int .i64 0), .d (.int .i64 0), .d (.int .i64 0), .d (.int .i64 0)], [(0, 1), (1, 3), (4, 1), (5, 1), (6, 1), (7, 1)]) := by kernel_rfl
theorem zero_161 : zero? Try.prog 161 = some [.d (.int .i64 0), .d (.str ⟨#[]⟩), .d (.int .i64 0)] := by kernel_rfl
theorem bldS_161 : bldS Try.prog 161 = some ([.d (.int .i64 0), .d (.str ⟨#[]⟩), .d (.int .i64 0)], [(0, 1), (1, 1), (2, 1)]) := by kernel_rfl
theorem zero_162 : zero? Try.prog 162 = some [.d (.int .i64 0), .d (.str ⟨#[]⟩), .d (.int .i64 0)] := by kernel_rfl
theorem bldS_162 : bldS Try.prog 162 = some ([.d (.int .i64 0), .d (.str ⟨#[]⟩), .d (.int .i64 0)], [(0, 1), (1, 1), (2, 1)]) := by kernel_rfl
theorem zero_163 : zero? Try.prog 163 = some [.d (.list true true 0 [])] := by kernel_rfl
theorem zero_164 : zero? Try.prog 164 = some [.d (.list true true 0 [])] := by kernel_rfl
theorem bldS_164 : bldS Try.prog 164 = some ([.d (.list true true 0 [])], [(0, 1)]) := by kernel_rfl
theorem zero_165 : zero? Try.prog 165 = some [.d (.list true true 0 [])] := by kernel_rfl
theorem bldS_165 : bldS Try.prog 165 = some ([.d (.list true true 0 [])], [(0, 1)]) := by kernel_rfl
theorem zero_166 : zero? Try.prog 166 = some [.d (.int .i64 0), .d (.int .i64 0), .d (.bool false), .d (.list true true 0 [])] := by kernel_rfl
theorem bldS_166 : bldS Try.prog 166 = some ([.d (.int .i64 0), .d (.int .i64 0), .d (.bool false), .d (.list true true 0 [])], [(0, 1), (1, 1), (2, 1), (3, 1)]) := by kernel_rfl
theorem zero_167 : zero? Try.prog 167 = some [.d (.int .i64 0), .d (.int .i64 0), .d (.bool false), .d (.list true true 0 [])] := by kernel_rfl
theorem bldS_167 : bldS Try.prog 167 = some ([.d (.int .i64 0), .d (.int .i64 0), .d (.bool false), .d (.list true true 0 [])], [(0, 1), (1, 1), (2, 1), (3, 1)]) := by kernel_rfl
theorem zero_169 : zero? Try.prog 169 = some [.d (.int .i32 0), .d (.int .i32 0)] := by kernel_rfl
theorem bldS_169 : bldS Try.prog 169 = some ([.d (.int .i32 0), .d (.int .i32 0)], [(0, 1), (1, 1)]) := by kernel_rfl
theorem zero_170 : zero? Try.prog 170 = some [.d (.int .i32 0), .d (.int .i32 0)] := by kernel_rfl
theorem bldS_170 : bldS Try.prog 170 = some ([.d (.int .i32 0), .d (.int .i32 0)], [(0, 1), (1, 1)]) := by kernel_rfl
theorem zero_171 : zero? Try.prog 171 = some [.d (.bool false), .d (.str ⟨#[]⟩)] := by kernel_rfl
theorem bldS_171 : bldS Try.prog 171 = some ([.d (.bool false), .d (.str ⟨#[]⟩)], [(0, 1), (1, 1)]) := by kernel_rfl
theorem zero_172 : zero? Try.prog 172 = some [.d (.bool false), .d (.str ⟨#[]⟩)] := by kernel_rfl
theorem bldS_172 : bldS Try.prog 172 = some ([.d (.bool false), .d (.str ⟨#[]⟩)], [(0, 1), (1, 1)]) := by kernel_rfl
theorem zero_173 : zero? Try.prog 173 = some [.d (.list true true 0 [])] := by kernel_rfl
theorem zero_174 : zero? Try.prog 174 = some [.d (.int .i64 0), .d (.str ⟨#[]⟩), .d (.list true true 0 []), .d (.bool false), .d (.str ⟨#[]⟩)] := by kernel_rfl
theorem bldS_174 : bldS Try.prog 174 = some ([.d (.int .i64 0), .d (.str ⟨#[]⟩), .d (.list true true 0 []), .d (.bool false), .d (.str ⟨#[]⟩)], [(0, 1), (1, 1), (2, 1), (3, 2)]) := by kernel_rfl
theorem zero_175 : zero? Try.prog 175 = some [.d (.int .i64 0), .d (.str ⟨#[]⟩), .d (.list true true 0 []), .d (.bool false), .d (.str ⟨#[]⟩)] := by kernel_rfl
theorem bldS_175 : bldS Try.prog 175 = some ([.d (.int .i64 0), .d (.str ⟨#[]⟩), .d (.list true true 0 []), .d (.bool false), .d (.str ⟨#[]⟩)], [(0, 1), (1, 1), (2, 1), (3, 2)]) := by kernel_rfl
theorem zero_176 : zero? Try.prog 176 = some [.d (.list true true 0 [])] := by kernel_rfl
theorem zero_177 : zero? Try.prog 177 = some [.d (.int .i64 0), .d (.list true true 0 [])] := by kernel_rfl
theorem bldS_177 : bldS Try.prog 177 = some ([.d (.int .i64 0), .d (.list true true 0 [])], [(0, 1), (1, 1)]) := by kernel_rfl
theorem zero_178 : zero? Try.prog 178 = some [.d (.int .i64 0), .d (.list true true 0 [])] := by kernel_rfl
theorem bldS_178 : bldS Try.prog 178 = some ([.d (.int .i64 0), .d (.list true true 0 [])], [(0, 1), (1, 1)]) := by kernel_rfl
theorem zero_179 : zero? Try.prog 179 = some [.d (.int .i64 0)] := by kernel_rfl
theorem zero_180 : zero? Try.prog 180 = some [.d (.list true true 0 [])] := by kernel_rfl
theorem zero_181 : zero? Try.prog 181 = some [.d (.int .i64 0), .d (.int .i64 0), .d (.str ⟨#[]⟩), .d (.list true true 0 []), .d (.list true true 0 [])] := by kernel_rfl
theorem bldS_181 : bldS Try.prog 181 = some ([.d (.int .i64 0), .d (.int .i64 0), .d (.str ⟨#[]⟩), .d (.list true true 0 []), .d (.list true true 0 [])], [(0, 1), (1, 1), (2, 1), (3, 1), (4, 1)]) := by kernel_rfl
theorem zero_182 : zero? Try.prog 182 = some [.d (.int .i64 0), .d (.int .i64 0), .d (.str ⟨#[]⟩), .d (.list true true 0 []), .d (.list true true 0 [])] := by kernel_rfl
theorem bldS_182 : bldS Try.prog 182 = some ([.d (.int .i64 0), .d (.int .i64 0), .d (.str ⟨#[]⟩), .d (.list true true 0 []), .d (.list true true 0 [])], [(0, 1), (1, 1), (2, 1), (3, 1), (4, 1)]) := by kernel_rfl
theorem zero_183 : zero? Try.prog 183 = some [.d (.str ⟨#[]⟩), .d (.int .i64 0), .d (.int .i64 0), .d (.str ⟨#[]⟩), .d (.list true true 0 []), .d (.list true true 0 [])] := by kernel_rfl
theorem bldS_183 : bldS Try.prog 183 = some ([.d (.str ⟨#[]⟩), .d (.int .i64 0), .d (.int .i64 0), .d (.str ⟨#[]⟩), .d (.list true true 0 []), .d (.list true true 0 [])], [(0, 1), (1, 5)]) := by kernel_rfl
theorem zero_184 : zero? Try.prog 184 = some [.d (.str ⟨#[]⟩), .d (.int .i64 0), .d (.int .i64 0), .d (.str ⟨#[]⟩), .d (.list true true 0 []), .d (.list true true 0 [])] := by kernel_rfl
theorem bldS_184 : bldS Try.prog 184 = some ([.d (.str ⟨#[]⟩), .d (.int .i64 0), .d (.int .i64 0), .d (.str ⟨#[]⟩), .d (.list true true 0 []), .d (.list true true 0 [])], [(0, 1), (1, 5)]) := by kernel_rfl
theorem zero_185 : zero? Try.prog 185 = some [.d (.int .i32 0), .d (.int .i32 0), .d (.int .i64 0)] := by kernel_rfl
theorem bldS_185 : bldS Try.prog 185 = some ([.d (.int .i32 0), .d (.int .i32 0), .d (.int .i64 0)], [(0, 1), (1, 1), (2, 1)]) := by kernel_rfl
theorem zero_186 : zero? Try.prog 186 = some [.d (.int .i32 0), .d (.int .i32 0), .d (.int .i64 0)] := by kernel_rfl
theorem bldS_186 : bldS Try.prog 186 = some ([.d (.int .i32 0), .d (.int .i32 0), .d (.int .i64 0)], [(0, 1), (1, 1), (2, 1)]) := by kernel_rfl
theorem apd_22 : apd Try.prog 22 22 = some (1, 16) := by kernel_rfl
theorem bsl_22 : bsl Try.prog 22 = some (1, [.d (.str ⟨#[]⟩)]) := by kernel_rfl
theorem apd_23 : apd Try.prog 23 23 = some (1, 8) := by kernel_rfl
theorem bsl_23 : bsl Try.prog 23 = some (1, [.d (.int .i64 0)]) := by kernel_rfl
theorem apd_24 : apd Try.prog 24 24 = some (5, 80) := by kernel_rfl
theorem bsl_24 : bsl Try.prog 24 = some (5, [.d (.int .i64 0), .d (.list true true 0 []), .d (.list true true 0 []), .d (.str ⟨#[]⟩), .d (.int .i64 0)]) := by kernel_rfl
theorem apd_25 : apd Try.prog 25 25 = some (2, 32) := by kernel_rfl
theorem bsl_25 : bsl Try.prog 25 = some (2, [.d (.int .i64 0), .d (.list true true 0 [])]) := by kernel_rfl
theorem apd_29 : apd Try.prog 29 29 = some (3, 32) := by kernel_rfl
theorem bsl_29 : bsl Try.prog 29 = some (3, [.d (.int .i64 0), .d (.int .i64 0), .d (.str ⟨#[]⟩)]) := by kernel_rfl
theorem apd_30 : apd Try.prog 30 30 = some (7, 96) := by kernel_rfl
theorem bsl_30 : bsl Try.prog 30 = some (7, [.d (.int .i64 0), .d (.int .i64 0), .d (.int .i64 0), .d (.int .i64 0), .d (.list true true 0 []), .d (.str ⟨#[]⟩), .d (.list true true 0 [])]) := by kernel_rfl
theorem apd_38 : apd Try.prog 38 38 = some (10, 120) := by kernel_rfl
theorem bsl_38 : bsl Try.prog 38 = some (10, [.d (.int .i64 0), .d (.int .i64 0), .d (.int .i64 0), .d (.int .i64 0), .d (.int .i64 0), .d (.int .i64 0), .d (.int .i64 0), .d (.list true true 0 []), .d (.str ⟨#[]⟩), .d (.list true true 0 [])]) := by kernel_rfl
theorem apd_40 : apd Try.prog 40 40 = some (2, 24) := by kernel_rfl
theorem bsl_40 : bsl Try.prog 40 = some (2, [.d (.int .i64 0), .d (.str ⟨#[]⟩)]) := by kernel_rfl
theorem apd_41 : apd Try.prog 41 41 = some (9, 128) := by kernel_rfl
theorem bsl_41 : bsl Try.prog 41 = some (9, [.d (.int .i64 0), .d (.str ⟨#[]⟩), .d (.bool false), .d (.int .i64 0), .d (.list true true 0 []), .d (.list true true 0 []), .d (.str ⟨#[]⟩), .d (.int .i64 0), .d (.str ⟨#[]⟩)]) := by kernel_rfl
theorem apd_42 : apd Try.prog 42 42 = some (3, 48) := by kernel_rfl
theorem bsl_42 : bsl Try.prog 42 = some (3, [.d (.int .i64 0), .d (.str ⟨#[]⟩), .d (.list true true 0 [])]) := by kernel_rfl
theorem apd_43 : apd Try.prog 43 43 = some (3, 40) := by kernel_rfl
theorem bsl_43 : bsl Try.prog 43 = some (3, [.d (.int .i64 0), .d (.int .i64 0), .d (.list true true 0 [])]) := by kernel_rfl
theorem apd_44 : apd Try.prog 44 44 = some (3, 48) := by kernel_rfl
theorem bsl_44 : bsl Try.prog 44 = some (3, [.d (.int .i64 0), .d (.str ⟨#[]⟩), .d (.list true true 0 [])]) := by kernel_rfl
theorem apd_47 : apd Try.prog 47 47 = some (8, 104) := by kernel_rfl
theorem bsl_47 : bsl Try.prog 47 = some (8, [.d (.str ⟨#[]⟩), .d (.int .i64 0), .d (.list true true 0 []), .d (.list true true 0 []), .d (.int .i64 0), .d (.int .i64 0), .d (.int .i64 0), .d (.int .i64 0)]) := by kernel_rfl
theorem apd_48 : apd Try.prog 48 48 = some (3, 32) := by kernel_rfl
theorem bsl_48 : bsl Try.prog 48 = some (3, [.d (.int .i64 0), .d (.str ⟨#[]⟩), .d (.int .i64 0)]) := by kernel_rfl
theorem apd_51 : apd Try.prog 51 51 = some (1, 24) := by kernel_rfl
theorem bsl_51 : bsl Try.prog 51 = some (1, [.d (.list true true 0 [])]) := by kernel_rfl
theorem apd_54 : apd Try.prog 54 54 = some (1, 24) := by kernel_rfl
theorem bsl_54 : bsl Try.prog 54 = some (1, [.d (.list true true 0 [])]) := by kernel_rfl
theorem apd_55 : apd Try.prog 55 55 = some (1, 24) := by kernel_rfl
theorem bsl_55 : bsl Try.prog 55 = some (1, [.d (.list true true 0 [])]) := by kernel_rfl
theorem apd_58 : apd Try.prog 58 58 = some (4, 48) := by kernel_rfl
theorem bsl_58 : bsl Try.prog 58 = some (4, [.d (.int .i64 0), .d (.int .i64 0), .d (.bool false), .d (.list true true 0 [])]) := by kernel_rfl
theorem apd_79 : apd Try.prog 79 79 = some (9, 112) := by kernel_rfl
theorem bsl_79 : bsl Try.prog 79 = some (9, [.d (.int .i64 0), .d (.int .i64 0), .d (.int .i64 0), .d (.int .i64 0), .d (.list true true 0 []), .d (.str ⟨#[]⟩), .d (.list true true 0 []), .d (.int .i64 0), .d (.int .i64 0)]) := by kernel_rfl
theorem apd_88 : apd Try.prog 88 88 = some (1, 8) := by kernel_rfl
theorem bsl_88 : bsl Try.prog 88 = some (1, [.d (.int .i64 0)]) := by kernel_rfl
theorem apd_97 : apd Try.prog 97 97 = some (2, 16) := by kernel_rfl
theorem bsl_97 : bsl Try.prog 97 = some (2, [.d (.int .i64 0), .d (.int .i64 0)]) := by kernel_rfl
theorem apd_102 : apd Try.prog 102 102 = some (1, 24) := by kernel_rfl
theorem bsl_102 : bsl Try.prog 102 = some (1, [.d (.list true true 0 [])]) := by kernel_rfl
theorem apd_103 : apd Try.prog 103 103 = some (3, 32) := by kernel_rfl
theorem bsl_103 : bsl Try.prog 103 = some (3, [.d (.int .i64 0), .d (.int .i64 0), .d (.str ⟨#[]⟩)]) := by kernel_rfl
theorem apd_104 : apd Try.prog 104 104 = some (1, 1) := by kernel_rfl
theorem bsl_104 : bsl Try.prog 104 = some (1, [.d (.int .u8 0)]) := by kernel_rfl
theorem apd_120 : apd Try.prog 120 120 = some (1, 1) := by kernel_rfl
theorem bsl_120 : bsl Try.prog 120 = some (1, [.d (.bool false)]) := by kernel_rfl
theorem apd_143 : apd Try.prog 143 143 = some (2, 8) := by kernel_rfl
theorem bsl_143 : bsl Try.prog 143 = some (2, [.d (.int .i32 0), .d (.int .i32 0)]) := by kernel_rfl
theorem apd_144 : apd Try.prog 144 144 = some (2, 8) := by kernel_rfl
theorem bsl_144 : bsl Try.prog 144 = some (2, [.d (.int .i32 0), .d (.int .i32 0)]) := by kernel_rfl
theorem apd_145 : apd Try.prog 145 145 = some (3, 56) := by kernel_rfl
theorem bsl_145 : bsl Try.prog 145 = some (3, [.d (.int .i64 0), .d (.list true true 0 []), .d (.list true true 0 [])]) := by kernel_rfl
theorem apd_153 : apd Try.prog 153 153 = some (2, 24) := by kernel_rfl
theorem bsl_153 : bsl Try.prog 153 = some (2, [.d (.bool false), .d (.str ⟨#[]⟩)]) := by kernel_rfl
theorem apd_156 : apd Try.prog 156 156 = some (5, 72) := by kernel_rfl
theorem bsl_156 : bsl Try.prog 156 = some (5, [.d (.int .i64 0), .d (.str ⟨#[]⟩), .d (.list true true 0 []), .d (.bool false), .d (.str ⟨#[]⟩)]) := by kernel_rfl
theorem apd_163 : apd Try.prog 163 163 = some (2, 32) := by kernel_rfl
theorem bsl_163 : bsl Try.prog 163 = some (2, [.d (.int .i64 0), .d (.list true true 0 [])]) := by kernel_rfl
theorem apd_173 : apd Try.prog 173 173 = some (6, 96) := by kernel_rfl
theorem bsl_173 : bsl Try.prog 173 = some (6, [.d (.str ⟨#[]⟩), .d (.int .i64 0), .d (.int .i64 0), .d (.str ⟨#[]⟩), .d (.list true true 0 []), .d (.list true true 0 [])]) := by kernel_rfl
theorem apd_176 : apd Try.prog 176 176 = some (3, 16) := by kernel_rfl
theorem bsl_176 : bsl Try.prog 176 = some (3, [.d (.int .i32 0), .d (.int .i32 0), .d (.int .i64 0)]) := by kernel_rfl
theorem apd_180 : apd Try.prog 180 180 = some (5, 80) := by kernel_rfl
theorem bsl_180 : bsl Try.prog 180 = some (5, [.d (.int .i64 0), .d (.int .i64 0), .d (.str ⟨#[]⟩), .d (.list true true 0 []), .d (.list true true 0 [])]) := by kernel_rfl
/-! Data types by name. -/
theorem und_3 : Try.prog.underlying 3 = some (.int .i64) := by kernel_rfl
theorem cel_3 : Try.prog.cellsOf 3 = 1 := by kernel_rfl
theorem byt_3 : Try.prog.bytesOf 3 = 8 := by kernel_rfl
theorem und_9 : Try.prog.underlying 9 = some (.string) := by kernel_rfl
theorem cel_9 : Try.prog.cellsOf 9 = 1 := by kernel_rfl
theorem byt_9 : Try.prog.bytesOf 9 = 16 := by kernel_rfl
theorem und_22 : Try.prog.underlying 22 = some (.slice 9) := by kernel_rfl
theorem cel_22 : Try.prog.cellsOf 22 = 1 := by kernel_rfl
theorem byt_22 : Try.prog.bytesOf 22 = 24 := by kernel_rfl
theorem und_23 : Try.prog.underlying 23 = some (.slice 94) := by kernel_rfl
theorem cel_23 : Try.prog.cellsOf 23 = 1 := by kernel_rfl
theorem byt_23 : Try.prog.bytesOf 23 = 24 := by kernel_rfl
theorem und_24 : Try.prog.underlying 24 = some (.slice 96) := by kernel_rfl
theorem cel_24 : Try.prog.cellsOf 24 = 1 := by kernel_rfl
theorem byt_24 : Try.prog.bytesOf 24 = 24 := by kernel_rfl
theorem und_25 : Try.prog.underlying 25 = some (.slice 123) := by kernel_rfl
theorem cel_25 : Try.prog.cellsOf 25 = 1 := by kernel_rfl
theorem byt_25 : Try.prog.bytesOf 25 = 24 := by kernel_rfl
theorem cel_27 : Try.prog.cellsOf 27 = 5 := by kernel_rfl
theorem byt_27 : Try.prog.bytesOf 27 = 120 := by kernel_rfl
theorem und_28 : Try.prog.underlying 28 = some (.int .i64) := by kernel_rfl
theorem cel_28 : Try.prog.cellsOf 28 = 1 := by kernel_rfl
theorem byt_28 : Try.prog.bytesOf 28 = 8 := by kernel_rfl
theorem und_29 : Try.prog.underlying 29 = some (.slice 110) := by kernel_rfl
theorem cel_29 : Try.prog.cellsOf 29 = 1 := by kernel_rfl
theorem byt_29 : Try.prog.bytesOf 29 = 24 := by kernel_rfl
theorem und_30 : Try.prog.underlying 30 = some (.slice 32) := by kernel_rfl
theorem cel_30 : Try.prog.cellsOf 30 = 1 := by kernel_rfl
theorem byt_30 : Try.prog.bytesOf 30 = 24 := by kernel_rfl
theorem cel_32 : Try.prog.cellsOf 32 = 7 := by kernel_rfl
theorem byt_32 : Try.prog.bytesOf 32 = 96 := by kernel_rfl
theorem cel_34 : Try.prog.cellsOf 34 = 3 := by kernel_rfl
theorem byt_34 : Try.prog.bytesOf 34 = 32 := by kernel_rfl
theorem und_54 : Try.prog.underlying 54 = some (.slice 102) := by kernel_rfl
theorem cel_54 : Try.prog.cellsOf 54 = 1 := by kernel_rfl
theorem byt_54 : Try.prog.bytesOf 54 = 24 := by kernel_rfl
theorem und_55 : Try.prog.underlying 55 = some (.slice 88) := by kernel_rfl
theorem cel_55 : Try.prog.cellsOf 55 = 1 := by kernel_rfl
theorem byt_55 : Try.prog.bytesOf 55 = 24 := by kernel_rfl
theorem cel_57 : Try.prog.cellsOf 57 = 2 := by kernel_rfl
theorem byt_57 : Try.prog.bytesOf 57 = 48 := by kernel_rfl
theorem cel_63 : Try.prog.cellsOf 63 = 10 := by kernel_rfl
theorem byt_63 : Try.prog.bytesOf 63 = 120 := by kernel_rfl
theorem cel_64 : Try.prog.cellsOf 64 = 2 := by kernel_rfl
theorem byt_64 : Try.prog.bytesOf 64 = 16 := by kernel_rfl
theorem und_88 : Try.prog.underlying 88 = some (.slice 3) := by kernel_rfl
theorem cel_88 : Try.prog.cellsOf 88 = 1 := by kernel_rfl
theorem byt_88 : Try.prog.bytesOf 88 = 24 := by kernel_rfl
theorem und_94 : Try.prog.underlying 94 = some (.int .i64) := by kernel_rfl
theorem cel_94 : Try.prog.cellsOf 94 = 1 := by kernel_rfl
theorem byt_94 : Try.prog.bytesOf 94 = 8 := by kernel_rfl
theorem cel_96 : Try.prog.cellsOf 96 = 5 := by kernel_rfl
theorem byt_96 : Try.prog.bytesOf 96 = 80 := by kernel_rfl
theorem und_97 : Try.prog.underlying 97 = some (.slice 101) := by kernel_rfl
theorem cel_97 : Try.prog.cellsOf 97 = 1 := by kernel_rfl
theorem byt_97 : Try.prog.bytesOf 97 = 24 := by kernel_rfl
theorem und_99 : Try.prog.underlying 99 = some (.int .i64) := by kernel_rfl
theorem cel_99 : Try.prog.cellsOf 99 = 1 := by kernel_rfl
theorem byt_99 : Try.prog.bytesOf 99 = 8 := by kernel_rfl
theorem cel_101 : Try.prog.cellsOf 101 = 2 := by kernel_rfl
theorem byt_101 : Try.prog.bytesOf 101 = 16 := by kernel_rfl
theorem und_102 : Try.prog.underlying 102 = some (.slice 97) := by kernel_rfl
theorem cel_102 : Try.prog.cellsOf 102 = 1 := by kernel_rfl
theorem byt_102 : Try.prog.bytesOf 102 = 24 := by kernel_rfl
theorem und_108 : Try.prog.underlying 108 = some (.int .i64) := by kernel_rfl
theorem cel_108 : Try.prog.cellsOf 108 = 1 := by kernel_rfl
theorem byt_108 : Try.prog.bytesOf 108 = 8 := by kernel_rfl
theorem cel_110 : Try.prog.cellsOf 110 = 3 := by kernel_rfl
theorem byt_110 : Try.prog.bytesOf 110 = 32 := by kernel_rfl
theorem und_121 : Try.prog.underlying 121 = some (.int .i64) := by kernel_rfl
theorem cel_121 : Try.prog.cellsOf 121 = 1 := by kernel_rfl
theorem byt_121 : Try.prog.bytesOf 121 = 8 := by kernel_rfl
theorem cel_123 : Try.prog.cellsOf 123 = 2 := by kernel_rfl
theorem byt_123 : Try.prog.bytesOf 123 = 32 := by kernel_rfl
/-- arborist/api.Trivia -/
structure Triv where
  kind : Int
  n : Int
  text : ByteArray
inductive DTriv : List DV → Triv → Prop
  | mk (x : Triv)   : DTriv ([.int .i64 x.kind, .int .i64 x.n, .str x.text]) x
theorem DTriv.open {ds : List DV} {x : Triv} (h : DTriv ds x) : ds = [.int .i64 x.kind, .int .i64 x.n, .str x.text] := by
  cases h with
  | mk _ => rfl
theorem DTriv.len {ds : List DV} {x : Triv} (h : DTriv ds x) : ds.length = 3 := by
  rw [h.open]; rfl
theorem DTriv.row {c : List DV} {l : List Triv} (h : RowD DTriv 3 c l) : (∀ (i : Nat) (hi : i < l.length), (c.drop (i * 3)).take 3 = [.int .i64 l[i].kind, .int .i64 l[i].n, .str l[i].text]) ∧ (∀ (i : Nat) (hi : i < l.length), dv c (i * 3) = some (.int .i64 l[i].kind)) ∧ (∀ (i : Nat) (hi : i < l.length), dv c (i * 3 + 1) = some (.int .i64 l[i].n)) ∧ (∀ (i : Nat) (hi : i < l.length), dv c (i * 3 + 2) = some (.str l[i].text)) := by
  have hq : ∀ (i : Nat) (hi : i < l.length), (c.drop (i * 3)).take 3 = [.int .i64 l[i].kind, .int .i64 l[i].n, .str l[i].text] := fun i hi => (h.get hi).open
  exact ⟨hq, fun i hi => by unfold dv; have q := cell_at (hq i hi) (j := 0) (by decide); simpa using q, fun i hi => by unfold dv; have q := cell_at (hq i hi) (j := 1) (by decide); simpa using q, fun i hi => by unfold dv; have q := cell_at (hq i hi) (j := 2) (by decide); simpa using q⟩
structure BTriv (x : Triv) : Prop where
  kind : (BInt .i64) x.kind
  n : (BInt .i64) x.n
  text : BStr x.text
theorem td_Triv : ∀ (fuel : Nat) (ds : List DV), TD Try.prog big fuel 110 ds → ∃ x : Triv, DTriv ds x ∧ BTriv x := by
  intro fuel
  intro ds h
  cases fuel with
  | zero => exact h.elim
  | succ n =>
  obtain ⟨hl, hf⟩ := td_struct (fs := _) (show Try.prog.underlying 110 = some (.struct _) from Try.underlying110) h
  rw [cel_110] at hl
  have f0 : TD Try.prog big n 108 ((ds.drop 0).take (Try.prog.cellsOf 108)) := hf 0 _ rfl
  rw [cel_108] at f0
  obtain ⟨x0, e0, b0⟩ := (td_int und_108 f0)
  have f1 : TD Try.prog big n 3 ((ds.drop 1).take (Try.prog.cellsOf 3)) := hf 1 _ rfl
  rw [cel_3] at f1
  obtain ⟨x1, e1, b1⟩ := (td_int und_3 f1)
  have f2 : TD Try.prog big n 9 ((ds.drop 2).take (Try.prog.cellsOf 9)) := hf 2 _ rfl
  rw [cel_9] at f2
  obtain ⟨x2, e2, b2⟩ := (td_str und_9 f2)
  have hcs := (seg_cat ds 0 1 (e0) (seg_cat ds 1 1 (e1) (seg_cat ds 2 1 (e2) (seg_end hl))))
  rw [List.drop_zero] at hcs
  refine ⟨(⟨x0, x1, x2⟩ : Triv), ?_, ⟨b0, b1, b2⟩⟩
  rw [hcs]
  simpa only [List.append_assoc, List.cons_append, List.nil_append, List.append_nil] using DTriv.mk (⟨x0, x1, x2⟩ : Triv) 
theorem tv_Triv {p : PV} (h : TV Try.prog big 110 p) : ∃ (ds : List DV) (x : Triv), p = .agg (ds.map .d) ∧ DTriv ds x ∧ BTriv x := by
  obtain ⟨fuel, ds, h1, h2⟩ := h
  obtain ⟨x, h3, h4⟩ := td_Triv fuel ds h1
  exact ⟨ds, x, (by rw [show agg? Try.prog 110 = some true by kernel_rfl] at h2; exact h2), h3, h4⟩
/-- arborist/api.Node -/
structure Node where
  sym : Int
  rule : Int
  state : Int
  flag : Int
  lead : (List Triv)
  text : ByteArray
  kids : (List Node)
inductive DNode : List DV → Node → Prop
  | mk (x : Node) (n_lead t_lead : Bool) (c_lead : List DV) (n_kids t_kids : Bool) (c_kids : List DV) (h_lead : RowD DTriv 3 c_lead x.lead) (hl_kids : c_kids.length = x.kids.length * 7) (hb_kids : x.kids.length ≤ 9223372036854775807) (h_kids : ∀ (i : Nat) (y : Node), x.kids[i]? = some y → DNode ((c_kids.drop (i * 7)).take 7) y) (z_lead : (n_lead = true → x.lead = [])) (z_kids : (n_kids = true → x.kids = [])) : DNode ([.int .i64 x.sym, .int .i64 x.rule, .int .i64 x.state, .int .i64 x.flag, .list n_lead t_lead x.lead.length c_lead, .str x.text, .list n_kids t_kids x.kids.length c_kids]) x
theorem DNode.open {ds : List DV} {x : Node} (h : DNode ds x) : ∃ n_lead t_lead c_lead n_kids t_kids c_kids, ds = [.int .i64 x.sym, .int .i64 x.rule, .int .i64 x.state, .int .i64 x.flag, .list n_lead t_lead x.lead.length c_lead, .str x.text, .list n_kids t_kids x.kids.length c_kids] ∧ RowD DTriv 3 c_lead x.lead ∧ RowD DNode 7 c_kids x.kids ∧ (n_lead = true → x.lead = []) ∧ (n_kids = true → x.kids = []) := by
  cases h with
  | mk _ n_lead t_lead c_lead n_kids t_kids c_kids h_lead hl_kids hb_kids h_kids z_lead z_kids => exact ⟨n_lead, t_lead, c_lead, n_kids, t_kids, c_kids, rfl, h_lead, ⟨hl_kids, hb_kids, h_kids⟩, z_lead, z_kids⟩
theorem DNode.len {ds : List DV} {x : Node} (h : DNode ds x) : ds.length = 7 := by
  obtain ⟨_, _, _, _, _, _, rfl, h_0, h_1, _, _⟩ := h.open
  simp
theorem DNode.row {c : List DV} {l : List Node} (h : RowD DNode 7 c l) : ∃ (n_lead t_lead : Nat → Bool) (c_lead : Nat → List DV) (n_kids t_kids : Nat → Bool) (c_kids : Nat → List DV), (∀ (i : Nat) (hi : i < l.length), (c.drop (i * 7)).take 7 = [.int .i64 l[i].sym, .int .i64 l[i].rule, .int .i64 l[i].state, .int .i64 l[i].flag, .list (n_lead i) (t_lead i) l[i].lead.length (c_lead i), .str l[i].text, .list (n_kids i) (t_kids i) l[i].kids.length (c_kids i)]) ∧ (∀ (i : Nat) (hi : i < l.length), dv c (i * 7) = some (.int .i64 l[i].sym)) ∧ (∀ (i : Nat) (hi : i < l.length), dv c (i * 7 + 1) = some (.int .i64 l[i].rule)) ∧ (∀ (i : Nat) (hi : i < l.length), dv c (i * 7 + 2) = some (.int .i64 l[i].state)) ∧ (∀ (i : Nat) (hi : i < l.length), dv c (i * 7 + 3) = some (.int .i64 l[i].flag)) ∧ (∀ (i : Nat) (hi : i < l.length), dv c (i * 7 + 4) = some (.list (n_lead i) (t_lead i) l[i].lead.length (c_lead i))) ∧ (∀ (i : Nat) (hi : i < l.length), RowD DTriv 3 (c_lead i) l[i].lead) ∧ (∀ (i : Nat) (hi : i < l.length), dv c (i * 7 + 5) = some (.str l[i].text)) ∧ (∀ (i : Nat) (hi : i < l.length), dv c (i * 7 + 6) = some (.list (n_kids i) (t_kids i) l[i].kids.length (c_kids i))) ∧ (∀ (i : Nat) (hi : i < l.length), RowD DNode 7 (c_kids i) l[i].kids) ∧ (∀ (i : Nat) (hi : i < l.length), n_lead i = true → l[i].lead = []) ∧ (∀ (i : Nat) (hi : i < l.length), n_kids i = true → l[i].kids = []) := by
  have key : ∀ (i : Nat) (hi : i < l.length), _ := fun i hi => (h.get hi).open
  have key0 := choose_at key
  obtain ⟨n_lead, q0_⟩ := key0
  have key1 := choose_at q0_
  obtain ⟨t_lead, q1_⟩ := key1
  have key2 := choose_at q1_
  obtain ⟨c_lead, q2_⟩ := key2
  have key3 := choose_at q2_
  obtain ⟨n_kids, q3_⟩ := key3
  have key4 := choose_at q3_
  obtain ⟨t_kids, q4_⟩ := key4
  have key5 := choose_at q4_
  obtain ⟨c_kids, q5_⟩ := key5
  have hq : ∀ (i : Nat) (hi : i < l.length), (c.drop (i * 7)).take 7 = [.int .i64 l[i].sym, .int .i64 l[i].rule, .int .i64 l[i].state, .int .i64 l[i].flag, .list (n_lead i) (t_lead i) l[i].lead.length (c_lead i), .str l[i].text, .list (n_kids i) (t_kids i) l[i].kids.length (c_kids i)] := fun i hi => (q5_ i hi).1
  exact ⟨n_lead, t_lead, c_lead, n_kids, t_kids, c_kids, hq, fun i hi => by unfold dv; have q := cell_at (hq i hi) (j := 0) (by decide); simpa using q, fun i hi => by unfold dv; have q := cell_at (hq i hi) (j := 1) (by decide); simpa using q, fun i hi => by unfold dv; have q := cell_at (hq i hi) (j := 2) (by decide); simpa using q, fun i hi => by unfold dv; have q := cell_at (hq i hi) (j := 3) (by decide); simpa using q, fun i hi => by unfold dv; have q := cell_at (hq i hi) (j := 4) (by decide); simpa using q, fun i hi => (q5_ i hi).2.1, fun i hi => by unfold dv; have q := cell_at (hq i hi) (j := 5) (by decide); simpa using q, fun i hi => by unfold dv; have q := cell_at (hq i hi) (j := 6) (by decide); simpa using q, fun i hi => (q5_ i hi).2.2.1, fun i hi => (q5_ i hi).2.2.2.1, fun i hi => (q5_ i hi).2.2.2.2⟩
inductive BNode : Node → Prop
  | mk (x : Node) (h_sym : (BInt .i64) x.sym) (h_rule : (BInt .i64) x.rule) (h_state : (BInt .i64) x.state) (h_flag : (BInt .i64) x.flag) (h_lead : (BList BTriv 32) x.lead) (h_text : BStr x.text) (hn_kids : x.kids.length * 96 ≤ big) (h_kids : ∀ y ∈ x.kids, BNode y) : BNode x
theorem BNode.sym {x : Node} (h : BNode x) : (BInt .i64) x.sym := by cases h; assumption
theorem BNode.rule {x : Node} (h : BNode x) : (BInt .i64) x.rule := by cases h; assumption
theorem BNode.state {x : Node} (h : BNode x) : (BInt .i64) x.state := by cases h; assumption
theorem BNode.flag {x : Node} (h : BNode x) : (BInt .i64) x.flag := by cases h; assumption
theorem BNode.lead {x : Node} (h : BNode x) : (BList BTriv 32) x.lead := by cases h; assumption
theorem BNode.text {x : Node} (h : BNode x) : BStr x.text := by cases h; assumption
theorem BNode.kids {x : Node} (h : BNode x) : x.kids.length * 96 ≤ big ∧ ∀ y ∈ x.kids, BNode y := by cases h; exact ⟨by assumption, by assumption⟩
theorem td_Node : ∀ (fuel : Nat) (ds : List DV), TD Try.prog big fuel 32 ds → ∃ x : Node, DNode ds x ∧ BNode x := by
  intro fuel
  induction fuel using Nat.strongRecOn with
  | _ fuel ih =>
  intro ds h
  cases fuel with
  | zero => exact h.elim
  | succ n =>
  obtain ⟨hl, hf⟩ := td_struct (fs := _) (show Try.prog.underlying 32 = some (.struct _) from Try.underlying32) h
  rw [cel_32] at hl
  have f0 : TD Try.prog big n 3 ((ds.drop 0).take (Try.prog.cellsOf 3)) := hf 0 _ rfl
  rw [cel_3] at f0
  obtain ⟨x0, e0, b0⟩ := (td_int und_3 f0)
  have f1 : TD Try.prog big n 3 ((ds.drop 1).take (Try.prog.cellsOf 3)) := hf 1 _ rfl
  rw [cel_3] at f1
  obtain ⟨x1, e1, b1⟩ := (td_int und_3 f1)
  have f2 : TD Try.prog big n 3 ((ds.drop 2).take (Try.prog.cellsOf 3)) := hf 2 _ rfl
  rw [cel_3] at f2
  obtain ⟨x2, e2, b2⟩ := (td_int und_3 f2)
  have f3 : TD Try.prog big n 28 ((ds.drop 3).take (Try.prog.cellsOf 28)) := hf 3 _ rfl
  rw [cel_28] at f3
  obtain ⟨x3, e3, b3⟩ := (td_int und_28 f3)
  have f4 : TD Try.prog big n 29 ((ds.drop 4).take (Try.prog.cellsOf 29)) := hf 4 _ rfl
  rw [cel_29] at f4
  obtain ⟨x4, e4, b4⟩ := (td_slice und_29 cel_110 byt_110 (fun m0 hm0 ds0 h0_ => (td_Triv m0 _ h0_)) f4)
  obtain ⟨n4, t4, c4, q4, r4, z4⟩ := e4
  have f5 : TD Try.prog big n 9 ((ds.drop 5).take (Try.prog.cellsOf 9)) := hf 5 _ rfl
  rw [cel_9] at f5
  obtain ⟨x5, e5, b5⟩ := (td_str und_9 f5)
  have f6 : TD Try.prog big n 30 ((ds.drop 6).take (Try.prog.cellsOf 30)) := hf 6 _ rfl
  rw [cel_30] at f6
  obtain ⟨x6, e6, b6⟩ := (td_slice und_30 cel_32 byt_32 (fun m0 hm0 ds0 h0_ => (ih m0 (by omega) _ h0_)) f6)
  obtain ⟨n6, t6, c6, q6, r6, z6⟩ := e6
  have hcs := (seg_cat ds 0 1 (e0) (seg_cat ds 1 1 (e1) (seg_cat ds 2 1 (e2) (seg_cat ds 3 1 (e3) (seg_cat ds 4 1 (q4) (seg_cat ds 5 1 (e5) (seg_cat ds 6 1 (q6) (seg_end hl))))))))
  rw [List.drop_zero] at hcs
  refine ⟨(⟨x0, x1, x2, x3, x4, x5, x6⟩ : Node), ?_, (.mk _ b0 b1 b2 b3 b4 b5 b6.1 b6.2)⟩
  rw [hcs]
  simpa only [List.append_assoc, List.cons_append, List.nil_append, List.append_nil] using DNode.mk (⟨x0, x1, x2, x3, x4, x5, x6⟩ : Node) n4 t4 c4 n6 t6 c6 r4 r6.1 r6.2.1 r6.2.2 z4 z6
theorem tv_Node {p : PV} (h : TV Try.prog big 32 p) : ∃ (ds : List DV) (x : Node), p = .agg (ds.map .d) ∧ DNode ds x ∧ BNode x := by
  obtain ⟨fuel, ds, h1, h2⟩ := h
  obtain ⟨x, h3, h4⟩ := td_Node fuel ds h1
  exact ⟨ds, x, (by rw [show agg? Try.prog 32 = some true by kernel_rfl] at h2; exact h2), h3, h4⟩
/-- arborist/api.Edit -/
structure Edit where
  at_ : Int
  del : Int
  ins : ByteArray
inductive DEdit : List DV → Edit → Prop
  | mk (x : Edit)   : DEdit ([.int .i64 x.at_, .int .i64 x.del, .str x.ins]) x
theorem DEdit.open {ds : List DV} {x : Edit} (h : DEdit ds x) : ds = [.int .i64 x.at_, .int .i64 x.del, .str x.ins] := by
  cases h with
  | mk _ => rfl
theorem DEdit.len {ds : List DV} {x : Edit} (h : DEdit ds x) : ds.length = 3 := by
  rw [h.open]; rfl
theorem DEdit.row {c : List DV} {l : List Edit} (h : RowD DEdit 3 c l) : (∀ (i : Nat) (hi : i < l.length), (c.drop (i * 3)).take 3 = [.int .i64 l[i].at_, .int .i64 l[i].del, .str l[i].ins]) ∧ (∀ (i : Nat) (hi : i < l.length), dv c (i * 3) = some (.int .i64 l[i].at_)) ∧ (∀ (i : Nat) (hi : i < l.length), dv c (i * 3 + 1) = some (.int .i64 l[i].del)) ∧ (∀ (i : Nat) (hi : i < l.length), dv c (i * 3 + 2) = some (.str l[i].ins)) := by
  have hq : ∀ (i : Nat) (hi : i < l.length), (c.drop (i * 3)).take 3 = [.int .i64 l[i].at_, .int .i64 l[i].del, .str l[i].ins] := fun i hi => (h.get hi).open
  exact ⟨hq, fun i hi => by unfold dv; have q := cell_at (hq i hi) (j := 0) (by decide); simpa using q, fun i hi => by unfold dv; have q := cell_at (hq i hi) (j := 1) (by decide); simpa using q, fun i hi => by unfold dv; have q := cell_at (hq i hi) (j := 2) (by decide); simpa using q⟩
structure BEdit (x : Edit) : Prop where
  at_ : (BInt .i64) x.at_
  del : (BInt .i64) x.del
  ins : BStr x.ins
theorem td_Edit : ∀ (fuel : Nat) (ds : List DV), TD Try.prog big fuel 34 ds → ∃ x : Edit, DEdit ds x ∧ BEdit x := by
  intro fuel
  intro ds h
  cases fuel with
  | zero => exact h.elim
  | succ n =>
  obtain ⟨hl, hf⟩ := td_struct (fs := _) (show Try.prog.underlying 34 = some (.struct _) from Try.underlying34) h
  rw [cel_34] at hl
  have f0 : TD Try.prog big n 3 ((ds.drop 0).take (Try.prog.cellsOf 3)) := hf 0 _ rfl
  rw [cel_3] at f0
  obtain ⟨x0, e0, b0⟩ := (td_int und_3 f0)
  have f1 : TD Try.prog big n 3 ((ds.drop 1).take (Try.prog.cellsOf 3)) := hf 1 _ rfl
  rw [cel_3] at f1
  obtain ⟨x1, e1, b1⟩ := (td_int und_3 f1)
  have f2 : TD Try.prog big n 9 ((ds.drop 2).take (Try.prog.cellsOf 9)) := hf 2 _ rfl
  rw [cel_9] at f2
  obtain ⟨x2, e2, b2⟩ := (td_str und_9 f2)
  have hcs := (seg_cat ds 0 1 (e0) (seg_cat ds 1 1 (e1) (seg_cat ds 2 1 (e2) (seg_end hl))))
  rw [List.drop_zero] at hcs
  refine ⟨(⟨x0, x1, x2⟩ : Edit), ?_, ⟨b0, b1, b2⟩⟩
  rw [hcs]
  simpa only [List.append_assoc, List.cons_append, List.nil_append, List.append_nil] using DEdit.mk (⟨x0, x1, x2⟩ : Edit) 
theorem tv_Edit {p : PV} (h : TV Try.prog big 34 p) : ∃ (ds : List DV) (x : Edit), p = .agg (ds.map .d) ∧ DEdit ds x ∧ BEdit x := by
  obtain ⟨fuel, ds, h1, h2⟩ := h
  obtain ⟨x, h3, h4⟩ := td_Edit fuel ds h1
  exact ⟨ds, x, (by rw [show agg? Try.prog 34 = some true by kernel_rfl] at h2; exact h2), h3, h4⟩
/-- arborist/api.Reusable -/
structure Reus where
  at_ : Int
  len : Int
  next : Int
  node : Node
inductive DReus : List DV → Reus → Prop
  | mk (x : Reus) (d_node : List DV) (h_node : DNode d_node x.node) : DReus ([.int .i64 x.at_, .int .i64 x.len, .int .i64 x.next] ++ (d_node)) x
theorem DReus.open {ds : List DV} {x : Reus} (h : DReus ds x) : ∃ d_node, ds = [.int .i64 x.at_, .int .i64 x.len, .int .i64 x.next] ++ (d_node) ∧ DNode d_node x.node := by
  cases h with
  | mk _ d_node h_node => exact ⟨d_node, rfl, h_node⟩
theorem DReus.len {ds : List DV} {x : Reus} (h : DReus ds x) : ds.length = 10 := by
  obtain ⟨_, rfl, h_0⟩ := h.open
  simp [h_0.len]
theorem DReus.row {c : List DV} {l : List Reus} (h : RowD DReus 10 c l) : ∃ (d_node : Nat → List DV), (∀ (i : Nat) (hi : i < l.length), (c.drop (i * 10)).take 10 = [.int .i64 l[i].at_, .int .i64 l[i].len, .int .i64 l[i].next] ++ ((d_node i))) ∧ (∀ (i : Nat) (hi : i < l.length), dv c (i * 10) = some (.int .i64 l[i].at_)) ∧ (∀ (i : Nat) (hi : i < l.length), dv c (i * 10 + 1) = some (.int .i64 l[i].len)) ∧ (∀ (i : Nat) (hi : i < l.length), dv c (i * 10 + 2) = some (.int .i64 l[i].next)) ∧ (∀ (i : Nat) (hi : i < l.length), (c.drop (i * 10 + 3)).take 7 = d_node i) ∧ (∀ (i : Nat) (hi : i < l.length), DNode (d_node i) l[i].node) := by
  have key : ∀ (i : Nat) (hi : i < l.length), _ := fun i hi => (h.get hi).open
  have key0 := choose_at key
  obtain ⟨d_node, q0_⟩ := key0
  have hq : ∀ (i : Nat) (hi : i < l.length), (c.drop (i * 10)).take 10 = [.int .i64 l[i].at_, .int .i64 l[i].len, .int .i64 l[i].next] ++ ((d_node i)) := fun i hi => (q0_ i hi).1
  exact ⟨d_node, hq, fun i hi => by unfold dv; have q := cell_at (hq i hi) (j := 0) (by decide); simpa using q, fun i hi => by unfold dv; have q := cell_at (hq i hi) (j := 1) (by decide); simpa using q, fun i hi => by unfold dv; have q := cell_at (hq i hi) (j := 2) (by decide); simpa using q, fun i hi => seg_at (hq i hi) 3 7 (by simp [List.take_of_length_le, ((q0_ i hi).2).len]), fun i hi => (q0_ i hi).2⟩
structure BReus (x : Reus) : Prop where
  at_ : (BInt .i64) x.at_
  len : (BInt .i64) x.len
  next : (BInt .i64) x.next
  node : BNode x.node
theorem td_Reus : ∀ (fuel : Nat) (ds : List DV), TD Try.prog big fuel 63 ds → ∃ x : Reus, DReus ds x ∧ BReus x := by
  intro fuel
  intro ds h
  cases fuel with
  | zero => exact h.elim
  | succ n =>
  obtain ⟨hl, hf⟩ := td_struct (fs := _) (show Try.prog.underlying 63 = some (.struct _) from Try.underlying63) h
  rw [cel_63] at hl
  have f0 : TD Try.prog big n 3 ((ds.drop 0).take (Try.prog.cellsOf 3)) := hf 0 _ rfl
  rw [cel_3] at f0
  obtain ⟨x0, e0, b0⟩ := (td_int und_3 f0)
  have f1 : TD Try.prog big n 3 ((ds.drop 1).take (Try.prog.cellsOf 3)) := hf 1 _ rfl
  rw [cel_3] at f1
  obtain ⟨x1, e1, b1⟩ := (td_int und_3 f1)
  have f2 : TD Try.prog big n 3 ((ds.drop 2).take (Try.prog.cellsOf 3)) := hf 2 _ rfl
  rw [cel_3] at f2
  obtain ⟨x2, e2, b2⟩ := (td_int und_3 f2)
  have f3 : TD Try.prog big n 32 ((ds.drop 3).take (Try.prog.cellsOf 32)) := hf 3 _ rfl
  rw [cel_32] at f3
  obtain ⟨x3, e3, b3⟩ := (td_Node n _ f3)
  have hcs := (seg_cat ds 0 1 (e0) (seg_cat ds 1 1 (e1) (seg_cat ds 2 1 (e2) (seg_cat ds 3 7 (rfl) (seg_end hl)))))
  rw [List.drop_zero] at hcs
  refine ⟨(⟨x0, x1, x2, x3⟩ : Reus), ?_, ⟨b0, b1, b2, b3⟩⟩
  rw [hcs]
  simpa only [List.append_assoc, List.cons_append, List.nil_append, List.append_nil] using DReus.mk (⟨x0, x1, x2, x3⟩ : Reus) _ e3
theorem tv_Reus {p : PV} (h : TV Try.prog big 63 p) : ∃ (ds : List DV) (x : Reus), p = .agg (ds.map .d) ∧ DReus ds x ∧ BReus x := by
  obtain ⟨fuel, ds, h1, h2⟩ := h
  obtain ⟨x, h3, h4⟩ := td_Reus fuel ds h1
  exact ⟨ds, x, (by rw [show agg? Try.prog 63 = some true by kernel_rfl] at h2; exact h2), h3, h4⟩
/-- arborist/api.Act -/
structure Act where
  kind : Int
  n : Int
inductive DAct : List DV → Act → Prop
  | mk (x : Act)   : DAct ([.int .i64 x.kind, .int .i64 x.n]) x
theorem DAct.open {ds : List DV} {x : Act} (h : DAct ds x) : ds = [.int .i64 x.kind, .int .i64 x.n] := by
  cases h with
  | mk _ => rfl
theorem DAct.len {ds : List DV} {x : Act} (h : DAct ds x) : ds.length = 2 := by
  rw [h.open]; rfl
theorem DAct.row {c : List DV} {l : List Act} (h : RowD DAct 2 c l) : (∀ (i : Nat) (hi : i < l.length), (c.drop (i * 2)).take 2 = [.int .i64 l[i].kind, .int .i64 l[i].n]) ∧ (∀ (i : Nat) (hi : i < l.length), dv c (i * 2) = some (.int .i64 l[i].kind)) ∧ (∀ (i : Nat) (hi : i < l.length), dv c (i * 2 + 1) = some (.int .i64 l[i].n)) := by
  have hq : ∀ (i : Nat) (hi : i < l.length), (c.drop (i * 2)).take 2 = [.int .i64 l[i].kind, .int .i64 l[i].n] := fun i hi => (h.get hi).open
  exact ⟨hq, fun i hi => by unfold dv; have q := cell_at (hq i hi) (j := 0) (by decide); simpa using q, fun i hi => by unfold dv; have q := cell_at (hq i hi) (j := 1) (by decide); simpa using q⟩
structure BAct (x : Act) : Prop where
  kind : (BInt .i64) x.kind
  n : (BInt .i64) x.n
theorem td_Act : ∀ (fuel : Nat) (ds : List DV), TD Try.prog big fuel 101 ds → ∃ x : Act, DAct ds x ∧ BAct x := by
  intro fuel
  intro ds h
  cases fuel with
  | zero => exact h.elim
  | succ n =>
  obtain ⟨hl, hf⟩ := td_struct (fs := _) (show Try.prog.underlying 101 = some (.struct _) from Try.underlying101) h
  rw [cel_101] at hl
  have f0 : TD Try.prog big n 99 ((ds.drop 0).take (Try.prog.cellsOf 99)) := hf 0 _ rfl
  rw [cel_99] at f0
  obtain ⟨x0, e0, b0⟩ := (td_int und_99 f0)
  have f1 : TD Try.prog big n 3 ((ds.drop 1).take (Try.prog.cellsOf 3)) := hf 1 _ rfl
  rw [cel_3] at f1
  obtain ⟨x1, e1, b1⟩ := (td_int und_3 f1)
  have hcs := (seg_cat ds 0 1 (e0) (seg_cat ds 1 1 (e1) (seg_end hl)))
  rw [List.drop_zero] at hcs
  refine ⟨(⟨x0, x1⟩ : Act), ?_, ⟨b0, b1⟩⟩
  rw [hcs]
  simpa only [List.append_assoc, List.cons_append, List.nil_append, List.append_nil] using DAct.mk (⟨x0, x1⟩ : Act) 
theorem tv_Act {p : PV} (h : TV Try.prog big 101 p) : ∃ (ds : List DV) (x : Act), p = .agg (ds.map .d) ∧ DAct ds x ∧ BAct x := by
  obtain ⟨fuel, ds, h1, h2⟩ := h
  obtain ⟨x, h3, h4⟩ := td_Act fuel ds h1
  exact ⟨ds, x, (by rw [show agg? Try.prog 101 = some true by kernel_rfl] at h2; exact h2), h3, h4⟩
/-- arborist/api.Table -/
structure Table where
  acts : (List (List (List Act)))
  gotos : (List (List Int))
inductive DTable : List DV → Table → Prop
  | mk (x : Table) (n_acts t_acts : Bool) (c_acts : List DV) (n_gotos t_gotos : Bool) (c_gotos : List DV) (h_acts : RowD (SliceD (SliceD DAct 2) 1) 1 c_acts x.acts) (h_gotos : RowD (SliceD (IntD .i64) 1) 1 c_gotos x.gotos) (z_acts : (n_acts = true → x.acts = [])) (z_gotos : (n_gotos = true → x.gotos = [])) : DTable ([.list n_acts t_acts x.acts.length c_acts, .list n_gotos t_gotos x.gotos.length c_gotos]) x
theorem DTable.open {ds : List DV} {x : Table} (h : DTable ds x) : ∃ n_acts t_acts c_acts n_gotos t_gotos c_gotos, ds = [.list n_acts t_acts x.acts.length c_acts, .list n_gotos t_gotos x.gotos.length c_gotos] ∧ RowD (SliceD (SliceD DAct 2) 1) 1 c_acts x.acts ∧ RowD (SliceD (IntD .i64) 1) 1 c_gotos x.gotos ∧ (n_acts = true → x.acts = []) ∧ (n_gotos = true → x.gotos = []) := by
  cases h with
  | mk _ n_acts t_acts c_acts n_gotos t_gotos c_gotos h_acts h_gotos z_acts z_gotos => exact ⟨n_acts, t_acts, c_acts, n_gotos, t_gotos, c_gotos, rfl, h_acts, h_gotos, z_acts, z_gotos⟩
theorem DTable.len {ds : List DV} {x : Table} (h : DTable ds x) : ds.length = 2 := by
  obtain ⟨_, _, _, _, _, _, rfl, h_0, h_1, _, _⟩ := h.open
  simp
theorem DTable.row {c : List DV} {l : List Table} (h : RowD DTable 2 c l) : ∃ (n_acts t_acts : Nat → Bool) (c_acts : Nat → List DV) (n_gotos t_gotos : Nat → Bool) (c_gotos : Nat → List DV), (∀ (i : Nat) (hi : i < l.length), (c.drop (i * 2)).take 2 = [.list (n_acts i) (t_acts i) l[i].acts.length (c_acts i), .list (n_gotos i) (t_gotos i) l[i].gotos.length (c_gotos i)]) ∧ (∀ (i : Nat) (hi : i < l.length), dv c (i * 2) = some (.list (n_acts i) (t_acts i) l[i].acts.length (c_acts i))) ∧ (∀ (i : Nat) (hi : i < l.length), RowD (SliceD (SliceD DAct 2) 1) 1 (c_acts i) l[i].acts) ∧ (∀ (i : Nat) (hi : i < l.length), dv c (i * 2 + 1) = some (.list (n_gotos i) (t_gotos i) l[i].gotos.length (c_gotos i))) ∧ (∀ (i : Nat) (hi : i < l.length), RowD (SliceD (IntD .i64) 1) 1 (c_gotos i) l[i].gotos) ∧ (∀ (i : Nat) (hi : i < l.length), n_acts i = true → l[i].acts = []) ∧ (∀ (i : Nat) (hi : i < l.length), n_gotos i = true → l[i].gotos = []) := by
  have key : ∀ (i : Nat) (hi : i < l.length), _ := fun i hi => (h.get hi).open
  have key0 := choose_at key
  obtain ⟨n_acts, q0_⟩ := key0
  have key1 := choose_at q0_
  obtain ⟨t_acts, q1_⟩ := key1
  have key2 := choose_at q1_
  obtain ⟨c_acts, q2_⟩ := key2
  have key3 := choose_at q2_
  obtain ⟨n_gotos, q3_⟩ := key3
  have key4 := choose_at q3_
  obtain ⟨t_gotos, q4_⟩ := key4
  have key5 := choose_at q4_
  obtain ⟨c_gotos, q5_⟩ := key5
  have hq : ∀ (i : Nat) (hi : i < l.length), (c.drop (i * 2)).take 2 = [.list (n_acts i) (t_acts i) l[i].acts.length (c_acts i), .list (n_gotos i) (t_gotos i) l[i].gotos.length (c_gotos i)] := fun i hi => (q5_ i hi).1
  exact ⟨n_acts, t_acts, c_acts, n_gotos, t_gotos, c_gotos, hq, fun i hi => by unfold dv; have q := cell_at (hq i hi) (j := 0) (by decide); simpa using q, fun i hi => (q5_ i hi).2.1, fun i hi => by unfold dv; have q := cell_at (hq i hi) (j := 1) (by decide); simpa using q, fun i hi => (q5_ i hi).2.2.1, fun i hi => (q5_ i hi).2.2.2.1, fun i hi => (q5_ i hi).2.2.2.2⟩
structure BTable (x : Table) : Prop where
  acts : (BList (BList (BList BAct 16) 24) 24) x.acts
  gotos : (BList (BList (BInt .i64) 8) 24) x.gotos
theorem td_Table : ∀ (fuel : Nat) (ds : List DV), TD Try.prog big fuel 57 ds → ∃ x : Table, DTable ds x ∧ BTable x := by
  intro fuel
  intro ds h
  cases fuel with
  | zero => exact h.elim
  | succ n =>
  obtain ⟨hl, hf⟩ := td_struct (fs := _) (show Try.prog.underlying 57 = some (.struct _) from Try.underlying57) h
  rw [cel_57] at hl
  have f0 : TD Try.prog big n 54 ((ds.drop 0).take (Try.prog.cellsOf 54)) := hf 0 _ rfl
  rw [cel_54] at f0
  obtain ⟨x0, e0, b0⟩ := (td_slice und_54 cel_102 byt_102 (fun m0 hm0 ds0 h0_ => (td_slice und_102 cel_97 byt_97 (fun m1 hm1 ds1 h1_ => (td_slice und_97 cel_101 byt_101 (fun m2 hm2 ds2 h2_ => (td_Act m2 _ h2_)) h1_)) h0_)) f0)
  obtain ⟨n0, t0, c0, q0, r0, z0⟩ := e0
  have f1 : TD Try.prog big n 55 ((ds.drop 1).take (Try.prog.cellsOf 55)) := hf 1 _ rfl
  rw [cel_55] at f1
  obtain ⟨x1, e1, b1⟩ := (td_slice und_55 cel_88 byt_88 (fun m0 hm0 ds0 h0_ => (td_slice und_88 cel_3 byt_3 (fun m1 hm1 ds1 h1_ => (td_int und_3 h1_)) h0_)) f1)
  obtain ⟨n1, t1, c1, q1, r1, z1⟩ := e1
  have hcs := (seg_cat ds 0 1 (q0) (seg_cat ds 1 1 (q1) (seg_end hl)))
  rw [List.drop_zero] at hcs
  refine ⟨(⟨x0, x1⟩ : Table), ?_, ⟨b0, b1⟩⟩
  rw [hcs]
  simpa only [List.append_assoc, List.cons_append, List.nil_append, List.append_nil] using DTable.mk (⟨x0, x1⟩ : Table) n0 t0 c0 n1 t1 c1 r0 r1 z0 z1
theorem tv_Table {p : PV} (h : TV Try.prog big 57 p) : ∃ (ds : List DV) (x : Table), p = .agg (ds.map .d) ∧ DTable ds x ∧ BTable x := by
  obtain ⟨fuel, ds, h1, h2⟩ := h
  obtain ⟨x, h3, h4⟩ := td_Table fuel ds h1
  exact ⟨ds, x, (by rw [show agg? Try.prog 57 = some true by kernel_rfl] at h2; exact h2), h3, h4⟩
/-- arborist/api.Rule -/
structure Rule where
  left : Int
  right : (List Int)
  fields : (List ByteArray)
  label : ByteArray
  level : Int
inductive DRule : List DV → Rule → Prop
  | mk (x : Rule) (n_right t_right : Bool) (c_right : List DV) (n_fields t_fields : Bool) (c_fields : List DV) (h_right : RowD (IntD .i64) 1 c_right x.right) (h_fields : RowD StrD 1 c_fields x.fields) (z_right : (n_right = true → x.right = [])) (z_fields : (n_fields = true → x.fields = [])) : DRule ([.int .i64 x.left, .list n_right t_right x.right.length c_right, .list n_fields t_fields x.fields.length c_fields, .str x.label, .int .i64 x.level]) x
theorem DRule.open {ds : List DV} {x : Rule} (h : DRule ds x) : ∃ n_right t_right c_right n_fields t_fields c_fields, ds = [.int .i64 x.left, .list n_right t_right x.right.length c_right, .list n_fields t_fields x.fields.length c_fields, .str x.label, .int .i64 x.level] ∧ RowD (IntD .i64) 1 c_right x.right ∧ RowD StrD 1 c_fields x.fields ∧ (n_right = true → x.right = []) ∧ (n_fields = true → x.fields = []) := by
  cases h with
  | mk _ n_right t_right c_right n_fields t_fields c_fields h_right h_fields z_right z_fields => exact ⟨n_right, t_right, c_right, n_fields, t_fields, c_fields, rfl, h_right, h_fields, z_right, z_fields⟩
theorem DRule.len {ds : List DV} {x : Rule} (h : DRule ds x) : ds.length = 5 := by
  obtain ⟨_, _, _, _, _, _, rfl, h_0, h_1, _, _⟩ := h.open
  simp
theorem DRule.row {c : List DV} {l : List Rule} (h : RowD DRule 5 c l) : ∃ (n_right t_right : Nat → Bool) (c_right : Nat → List DV) (n_fields t_fields : Nat → Bool) (c_fields : Nat → List DV), (∀ (i : Nat) (hi : i < l.length), (c.drop (i * 5)).take 5 = [.int .i64 l[i].left, .list (n_right i) (t_right i) l[i].right.length (c_right i), .list (n_fields i) (t_fields i) l[i].fields.length (c_fields i), .str l[i].label, .int .i64 l[i].level]) ∧ (∀ (i : Nat) (hi : i < l.length), dv c (i * 5) = some (.int .i64 l[i].left)) ∧ (∀ (i : Nat) (hi : i < l.length), dv c (i * 5 + 1) = some (.list (n_right i) (t_right i) l[i].right.length (c_right i))) ∧ (∀ (i : Nat) (hi : i < l.length), RowD (IntD .i64) 1 (c_right i) l[i].right) ∧ (∀ (i : Nat) (hi : i < l.length), dv c (i * 5 + 2) = some (.list (n_fields i) (t_fields i) l[i].fields.length (c_fields i))) ∧ (∀ (i : Nat) (hi : i < l.length), RowD StrD 1 (c_fields i) l[i].fields) ∧ (∀ (i : Nat) (hi : i < l.length), dv c (i * 5 + 3) = some (.str l[i].label)) ∧ (∀ (i : Nat) (hi : i < l.length), dv c (i * 5 + 4) = some (.int .i64 l[i].level)) ∧ (∀ (i : Nat) (hi : i < l.length), n_right i = true → l[i].right = []) ∧ (∀ (i : Nat) (hi : i < l.length), n_fields i = true → l[i].fields = []) := by
  have key : ∀ (i : Nat) (hi : i < l.length), _ := fun i hi => (h.get hi).open
  have key0 := choose_at key
  obtain ⟨n_right, q0_⟩ := key0
  have key1 := choose_at q0_
  obtain ⟨t_right, q1_⟩ := key1
  have key2 := choose_at q1_
  obtain ⟨c_right, q2_⟩ := key2
  have key3 := choose_at q2_
  obtain ⟨n_fields, q3_⟩ := key3
  have key4 := choose_at q3_
  obtain ⟨t_fields, q4_⟩ := key4
  have key5 := choose_at q4_
  obtain ⟨c_fields, q5_⟩ := key5
  have hq : ∀ (i : Nat) (hi : i < l.length), (c.drop (i * 5)).take 5 = [.int .i64 l[i].left, .list (n_right i) (t_right i) l[i].right.length (c_right i), .list (n_fields i) (t_fields i) l[i].fields.length (c_fields i), .str l[i].label, .int .i64 l[i].level] := fun i hi => (q5_ i hi).1
  exact ⟨n_right, t_right, c_right, n_fields, t_fields, c_fields, hq, fun i hi => by unfold dv; have q := cell_at (hq i hi) (j := 0) (by decide); simpa using q, fun i hi => by unfold dv; have q := cell_at (hq i hi) (j := 1) (by decide); simpa using q, fun i hi => (q5_ i hi).2.1, fun i hi => by unfold dv; have q := cell_at (hq i hi) (j := 2) (by decide); simpa using q, fun i hi => (q5_ i hi).2.2.1, fun i hi => by unfold dv; have q := cell_at (hq i hi) (j := 3) (by decide); simpa using q, fun i hi => by unfold dv; have q := cell_at (hq i hi) (j := 4) (by decide); simpa using q, fun i hi => (q5_ i hi).2.2.2.1, fun i hi => (q5_ i hi).2.2.2.2⟩
structure BRule (x : Rule) : Prop where
  left : (BInt .i64) x.left
  right : (BList (BInt .i64) 8) x.right
  fields : (BList BStr 16) x.fields
  label : BStr x.label
  level : (BInt .i64) x.level
theorem td_Rule : ∀ (fuel : Nat) (ds : List DV), TD Try.prog big fuel 96 ds → ∃ x : Rule, DRule ds x ∧ BRule x := by
  intro fuel
  intro ds h
  cases fuel with
  | zero => exact h.elim
  | succ n =>
  obtain ⟨hl, hf⟩ := td_struct (fs := _) (show Try.prog.underlying 96 = some (.struct _) from Try.underlying96) h
  rw [cel_96] at hl
  have f0 : TD Try.prog big n 3 ((ds.drop 0).take (Try.prog.cellsOf 3)) := hf 0 _ rfl
  rw [cel_3] at f0
  obtain ⟨x0, e0, b0⟩ := (td_int und_3 f0)
  have f1 : TD Try.prog big n 88 ((ds.drop 1).take (Try.prog.cellsOf 88)) := hf 1 _ rfl
  rw [cel_88] at f1
  obtain ⟨x1, e1, b1⟩ := (td_slice und_88 cel_3 byt_3 (fun m0 hm0 ds0 h0_ => (td_int und_3 h0_)) f1)
  obtain ⟨n1, t1, c1, q1, r1, z1⟩ := e1
  have f2 : TD Try.prog big n 22 ((ds.drop 2).take (Try.prog.cellsOf 22)) := hf 2 _ rfl
  rw [cel_22] at f2
  obtain ⟨x2, e2, b2⟩ := (td_slice und_22 cel_9 byt_9 (fun m0 hm0 ds0 h0_ => (td_str und_9 h0_)) f2)
  obtain ⟨n2, t2, c2, q2, r2, z2⟩ := e2
  have f3 : TD Try.prog big n 9 ((ds.drop 3).take (Try.prog.cellsOf 9)) := hf 3 _ rfl
  rw [cel_9] at f3
  obtain ⟨x3, e3, b3⟩ := (td_str und_9 f3)
  have f4 : TD Try.prog big n 3 ((ds.drop 4).take (Try.prog.cellsOf 3)) := hf 4 _ rfl
  rw [cel_3] at f4
  obtain ⟨x4, e4, b4⟩ := (td_int und_3 f4)
  have hcs := (seg_cat ds 0 1 (e0) (seg_cat ds 1 1 (q1) (seg_cat ds 2 1 (q2) (seg_cat ds 3 1 (e3) (seg_cat ds 4 1 (e4) (seg_end hl))))))
  rw [List.drop_zero] at hcs
  refine ⟨(⟨x0, x1, x2, x3, x4⟩ : Rule), ?_, ⟨b0, b1, b2, b3, b4⟩⟩
  rw [hcs]
  simpa only [List.append_assoc, List.cons_append, List.nil_append, List.append_nil] using DRule.mk (⟨x0, x1, x2, x3, x4⟩ : Rule) n1 t1 c1 n2 t2 c2 r1 r2 z1 z2
theorem tv_Rule {p : PV} (h : TV Try.prog big 96 p) : ∃ (ds : List DV) (x : Rule), p = .agg (ds.map .d) ∧ DRule ds x ∧ BRule x := by
  obtain ⟨fuel, ds, h1, h2⟩ := h
  obtain ⟨x, h3, h4⟩ := td_Rule fuel ds h1
  exact ⟨ds, x, (by rw [show agg? Try.prog 96 = some true by kernel_rfl] at h2; exact h2), h3, h4⟩
/-- arborist/api.Level -/
structure Level where
  assoc : Int
  terms : (List Int)
inductive DLevel : List DV → Level → Prop
  | mk (x : Level) (n_terms t_terms : Bool) (c_terms : List DV) (h_terms : RowD (IntD .i64) 1 c_terms x.terms) (z_terms : (n_terms = true → x.terms = [])) : DLevel ([.int .i64 x.assoc, .list n_terms t_terms x.terms.length c_terms]) x
theorem DLevel.open {ds : List DV} {x : Level} (h : DLevel ds x) : ∃ n_terms t_terms c_terms, ds = [.int .i64 x.assoc, .list n_terms t_terms x.terms.length c_terms] ∧ RowD (IntD .i64) 1 c_terms x.terms ∧ (n_terms = true → x.terms = []) := by
  cases h with
  | mk _ n_terms t_terms c_terms h_terms z_terms => exact ⟨n_terms, t_terms, c_terms, rfl, h_terms, z_terms⟩
theorem DLevel.len {ds : List DV} {x : Level} (h : DLevel ds x) : ds.length = 2 := by
  obtain ⟨_, _, _, rfl, h_0, _⟩ := h.open
  simp
theorem DLevel.row {c : List DV} {l : List Level} (h : RowD DLevel 2 c l) : ∃ (n_terms t_terms : Nat → Bool) (c_terms : Nat → List DV), (∀ (i : Nat) (hi : i < l.length), (c.drop (i * 2)).take 2 = [.int .i64 l[i].assoc, .list (n_terms i) (t_terms i) l[i].terms.length (c_terms i)]) ∧ (∀ (i : Nat) (hi : i < l.length), dv c (i * 2) = some (.int .i64 l[i].assoc)) ∧ (∀ (i : Nat) (hi : i < l.length), dv c (i * 2 + 1) = some (.list (n_terms i) (t_terms i) l[i].terms.length (c_terms i))) ∧ (∀ (i : Nat) (hi : i < l.length), RowD (IntD .i64) 1 (c_terms i) l[i].terms) ∧ (∀ (i : Nat) (hi : i < l.length), n_terms i = true → l[i].terms = []) := by
  have key : ∀ (i : Nat) (hi : i < l.length), _ := fun i hi => (h.get hi).open
  have key0 := choose_at key
  obtain ⟨n_terms, q0_⟩ := key0
  have key1 := choose_at q0_
  obtain ⟨t_terms, q1_⟩ := key1
  have key2 := choose_at q1_
  obtain ⟨c_terms, q2_⟩ := key2
  have hq : ∀ (i : Nat) (hi : i < l.length), (c.drop (i * 2)).take 2 = [.int .i64 l[i].assoc, .list (n_terms i) (t_terms i) l[i].terms.length (c_terms i)] := fun i hi => (q2_ i hi).1
  exact ⟨n_terms, t_terms, c_terms, hq, fun i hi => by unfold dv; have q := cell_at (hq i hi) (j := 0) (by decide); simpa using q, fun i hi => by unfold dv; have q := cell_at (hq i hi) (j := 1) (by decide); simpa using q, fun i hi => (q2_ i hi).2.1, fun i hi => (q2_ i hi).2.2⟩
structure BLevel (x : Level) : Prop where
  assoc : (BInt .i64) x.assoc
  terms : (BList (BInt .i64) 8) x.terms
theorem td_Level : ∀ (fuel : Nat) (ds : List DV), TD Try.prog big fuel 123 ds → ∃ x : Level, DLevel ds x ∧ BLevel x := by
  intro fuel
  intro ds h
  cases fuel with
  | zero => exact h.elim
  | succ n =>
  obtain ⟨hl, hf⟩ := td_struct (fs := _) (show Try.prog.underlying 123 = some (.struct _) from Try.underlying123) h
  rw [cel_123] at hl
  have f0 : TD Try.prog big n 121 ((ds.drop 0).take (Try.prog.cellsOf 121)) := hf 0 _ rfl
  rw [cel_121] at f0
  obtain ⟨x0, e0, b0⟩ := (td_int und_121 f0)
  have f1 : TD Try.prog big n 88 ((ds.drop 1).take (Try.prog.cellsOf 88)) := hf 1 _ rfl
  rw [cel_88] at f1
  obtain ⟨x1, e1, b1⟩ := (td_slice und_88 cel_3 byt_3 (fun m0 hm0 ds0 h0_ => (td_int und_3 h0_)) f1)
  obtain ⟨n1, t1, c1, q1, r1, z1⟩ := e1
  have hcs := (seg_cat ds 0 1 (e0) (seg_cat ds 1 1 (q1) (seg_end hl)))
  rw [List.drop_zero] at hcs
  refine ⟨(⟨x0, x1⟩ : Level), ?_, ⟨b0, b1⟩⟩
  rw [hcs]
  simpa only [List.append_assoc, List.cons_append, List.nil_append, List.append_nil] using DLevel.mk (⟨x0, x1⟩ : Level) n1 t1 c1 r1 z1
theorem tv_Level {p : PV} (h : TV Try.prog big 123 p) : ∃ (ds : List DV) (x : Level), p = .agg (ds.map .d) ∧ DLevel ds x ∧ BLevel x := by
  obtain ⟨fuel, ds, h1, h2⟩ := h
  obtain ⟨x, h3, h4⟩ := td_Level fuel ds h1
  exact ⟨ds, x, (by rw [show agg? Try.prog 123 = some true by kernel_rfl] at h2; exact h2), h3, h4⟩
/-- arborist/api.Gram -/
structure Gram where
  terms : (List ByteArray)
  nonterms : (List ByteArray)
  origins : (List Int)
  rules : (List Rule)
  levels : (List Level)
inductive DGram : List DV → Gram → Prop
  | mk (x : Gram) (n_terms t_terms : Bool) (c_terms : List DV) (n_nonterms t_nonterms : Bool) (c_nonterms : List DV) (n_origins t_origins : Bool) (c_origins : List DV) (n_rules t_rules : Bool) (c_rules : List DV) (n_levels t_levels : Bool) (c_levels : List DV) (h_terms : RowD StrD 1 c_terms x.terms) (h_nonterms : RowD StrD 1 c_nonterms x.nonterms) (h_origins : RowD (IntD .i64) 1 c_origins x.origins) (h_rules : RowD DRule 5 c_rules x.rules) (h_levels : RowD DLevel 2 c_levels x.levels) (z_terms : (n_terms = true → x.terms = [])) (z_nonterms : (n_nonterms = true → x.nonterms = [])) (z_origins : (n_origins = true → x.origins = [])) (z_rules : (n_rules = true → x.rules = [])) (z_levels : (n_levels = true → x.levels = [])) : DGram ([.list n_terms t_terms x.terms.length c_terms, .list n_nonterms t_nonterms x.nonterms.length c_nonterms, .list n_origins t_origins x.origins.length c_origins, .list n_rules t_rules x.rules.length c_rules, .list n_levels t_levels x.levels.length c_levels]) x
theorem DGram.open {ds : List DV} {x : Gram} (h : DGram ds x) : ∃ n_terms t_terms c_terms n_nonterms t_nonterms c_nonterms n_origins t_origins c_origins n_rules t_rules c_rules n_levels t_levels c_levels, ds = [.list n_terms t_terms x.terms.length c_terms, .list n_nonterms t_nonterms x.nonterms.length c_nonterms, .list n_origins t_origins x.origins.length c_origins, .list n_rules t_rules x.rules.length c_rules, .list n_levels t_levels x.levels.length c_levels] ∧ RowD StrD 1 c_terms x.terms ∧ RowD StrD 1 c_nonterms x.nonterms ∧ RowD (IntD .i64) 1 c_origins x.origins ∧ RowD DRule 5 c_rules x.rules ∧ RowD DLevel 2 c_levels x.levels ∧ (n_terms = true → x.terms = []) ∧ (n_nonterms = true → x.nonterms = []) ∧ (n_origins = true → x.origins = []) ∧ (n_rules = true → x.rules = []) ∧ (n_levels = true → x.levels = []) := by
  cases h with
  | mk _ n_terms t_terms c_terms n_nonterms t_nonterms c_nonterms n_origins t_origins c_origins n_rules t_rules c_rules n_levels t_levels c_levels h_terms h_nonterms h_origins h_rules h_levels z_terms z_nonterms z_origins z_rules z_levels => exact ⟨n_terms, t_terms, c_terms, n_nonterms, t_nonterms, c_nonterms, n_origins, t_origins, c_origins, n_rules, t_rules, c_rules, n_levels, t_levels, c_levels, rfl, h_terms, h_nonterms, h_origins, h_rules, h_levels, z_terms, z_nonterms, z_origins, z_rules, z_levels⟩
theorem DGram.len {ds : List DV} {x : Gram} (h : DGram ds x) : ds.length = 5 := by
  obtain ⟨_, _, _, _, _, _, _, _, _, _, _, _, _, _, _, rfl, h_0, h_1, h_2, h_3, h_4, _, _, _, _, _⟩ := h.open
  simp
theorem DGram.row {c : List DV} {l : List Gram} (h : RowD DGram 5 c l) : ∃ (n_terms t_terms : Nat → Bool) (c_terms : Nat → List DV) (n_nonterms t_nonterms : Nat → Bool) (c_nonterms : Nat → List DV) (n_origins t_origins : Nat → Bool) (c_origins : Nat → List DV) (n_rules t_rules : Nat → Bool) (c_rules : Nat → List DV) (n_levels t_levels : Nat → Bool) (c_levels : Nat → List DV), (∀ (i : Nat) (hi : i < l.length), (c.drop (i * 5)).take 5 = [.list (n_terms i) (t_terms i) l[i].terms.length (c_terms i), .list (n_nonterms i) (t_nonterms i) l[i].nonterms.length (c_nonterms i), .list (n_origins i) (t_origins i) l[i].origins.length (c_origins i), .list (n_rules i) (t_rules i) l[i].rules.length (c_rules i), .list (n_levels i) (t_levels i) l[i].levels.length (c_levels i)]) ∧ (∀ (i : Nat) (hi : i < l.length), dv c (i * 5) = some (.list (n_terms i) (t_terms i) l[i].terms.length (c_terms i))) ∧ (∀ (i : Nat) (hi : i < l.length), RowD StrD 1 (c_terms i) l[i].terms) ∧ (∀ (i : Nat) (hi : i < l.length), dv c (i * 5 + 1) = some (.list (n_nonterms i) (t_nonterms i) l[i].nonterms.length (c_nonterms i))) ∧ (∀ (i : Nat) (hi : i < l.length), RowD StrD 1 (c_nonterms i) l[i].nonterms) ∧ (∀ (i : Nat) (hi : i < l.length), dv c (i * 5 + 2) = some (.list (n_origins i) (t_origins i) l[i].origins.length (c_origins i))) ∧ (∀ (i : Nat) (hi : i < l.length), RowD (IntD .i64) 1 (c_origins i) l[i].origins) ∧ (∀ (i : Nat) (hi : i < l.length), dv c (i * 5 + 3) = some (.list (n_rules i) (t_rules i) l[i].rules.length (c_rules i))) ∧ (∀ (i : Nat) (hi : i < l.length), RowD DRule 5 (c_rules i) l[i].rules) ∧ (∀ (i : Nat) (hi : i < l.length), dv c (i * 5 + 4) = some (.list (n_levels i) (t_levels i) l[i].levels.length (c_levels i))) ∧ (∀ (i : Nat) (hi : i < l.length), RowD DLevel 2 (c_levels i) l[i].levels) ∧ (∀ (i : Nat) (hi : i < l.length), n_terms i = true → l[i].terms = []) ∧ (∀ (i : Nat) (hi : i < l.length), n_nonterms i = true → l[i].nonterms = []) ∧ (∀ (i : Nat) (hi : i < l.length), n_origins i = true → l[i].origins = []) ∧ (∀ (i : Nat) (hi : i < l.length), n_rules i = true → l[i].rules = []) ∧ (∀ (i : Nat) (hi : i < l.length), n_levels i = true → l[i].levels = []) := by
  have key : ∀ (i : Nat) (hi : i < l.length), _ := fun i hi => (h.get hi).open
  have key0 := choose_at key
  obtain ⟨n_terms, q0_⟩ := key0
  have key1 := choose_at q0_
  obtain ⟨t_terms, q1_⟩ := key1
  have key2 := choose_at q1_
  obtain ⟨c_terms, q2_⟩ := key2
  have key3 := choose_at q2_
  obtain ⟨n_nonterms, q3_⟩ := key3
  have key4 := choose_at q3_
  obtain ⟨t_nonterms, q4_⟩ := key4
  have key5 := choose_at q4_
  obtain ⟨c_nonterms, q5_⟩ := key5
  have key6 := choose_at q5_
  obtain ⟨n_origins, q6_⟩ := key6
  have key7 := choose_at q6_
  obtain ⟨t_origins, q7_⟩ := key7
  have key8 := choose_at q7_
  obtain ⟨c_origins, q8_⟩ := key8
  have key9 := choose_at q8_
  obtain ⟨n_rules, q9_⟩ := key9
  have key10 := choose_at q9_
  obtain ⟨t_rules, q10_⟩ := key10
  have key11 := choose_at q10_
  obtain ⟨c_rules, q11_⟩ := key11
  have key12 := choose_at q11_
  obtain ⟨n_levels, q12_⟩ := key12
  have key13 := choose_at q12_
  obtain ⟨t_levels, q13_⟩ := key13
  have key14 := choose_at q13_
  obtain ⟨c_levels, q14_⟩ := key14
  have hq : ∀ (i : Nat) (hi : i < l.length), (c.drop (i * 5)).take 5 = [.list (n_terms i) (t_terms i) l[i].terms.length (c_terms i), .list (n_nonterms i) (t_nonterms i) l[i].nonterms.length (c_nonterms i), .list (n_origins i) (t_origins i) l[i].origins.length (c_origins i), .list (n_rules i) (t_rules i) l[i].rules.length (c_rules i), .list (n_levels i) (t_levels i) l[i].levels.length (c_levels i)] := fun i hi => (q14_ i hi).1
  exact ⟨n_terms, t_terms, c_terms, n_nonterms, t_nonterms, c_nonterms, n_origins, t_origins, c_origins, n_rules, t_rules, c_rules, n_levels, t_levels, c_levels, hq, fun i hi => by unfold dv; have q := cell_at (hq i hi) (j := 0) (by decide); simpa using q, fun i hi => (q14_ i hi).2.1, fun i hi => by unfold dv; have q := cell_at (hq i hi) (j := 1) (by decide); simpa using q, fun i hi => (q14_ i hi).2.2.1, fun i hi => by unfold dv; have q := cell_at (hq i hi) (j := 2) (by decide); simpa using q, fun i hi => (q14_ i hi).2.2.2.1, fun i hi => by unfold dv; have q := cell_at (hq i hi) (j := 3) (by decide); simpa using q, fun i hi => (q14_ i hi).2.2.2.2.1, fun i hi => by unfold dv; have q := cell_at (hq i hi) (j := 4) (by decide); simpa using q, fun i hi => (q14_ i hi).2.2.2.2.2.1, fun i hi => (q14_ i hi).2.2.2.2.2.2.1, fun i hi => (q14_ i hi).2.2.2.2.2.2.2.1, fun i hi => (q14_ i hi).2.2.2.2.2.2.2.2.1, fun i hi => (q14_ i hi).2.2.2.2.2.2.2.2.2.1, fun i hi => (q14_ i hi).2.2.2.2.2.2.2.2.2.2⟩
structure BGram (x : Gram) : Prop where
  terms : (BList BStr 16) x.terms
  nonterms : (BList BStr 16) x.nonterms
  origins : (BList (BInt .i64) 8) x.origins
  rules : (BList BRule 80) x.rules
  levels : (BList BLevel 32) x.levels
theorem td_Gram : ∀ (fuel : Nat) (ds : List DV), TD Try.prog big fuel 27 ds → ∃ x : Gram, DGram ds x ∧ BGram x := by
  intro fuel
  intro ds h
  cases fuel with
  | zero => exact h.elim
  | succ n =>
  obtain ⟨hl, hf⟩ := td_struct (fs := _) (show Try.prog.underlying 27 = some (.struct _) from Try.underlying27) h
  rw [cel_27] at hl
  have f0 : TD Try.prog big n 22 ((ds.drop 0).take (Try.prog.cellsOf 22)) := hf 0 _ rfl
  rw [cel_22] at f0
  obtain ⟨x0, e0, b0⟩ := (td_slice und_22 cel_9 byt_9 (fun m0 hm0 ds0 h0_ => (td_str und_9 h0_)) f0)
  obtain ⟨n0, t0, c0, q0, r0, z0⟩ := e0
  have f1 : TD Try.prog big n 22 ((ds.drop 1).take (Try.prog.cellsOf 22)) := hf 1 _ rfl
  rw [cel_22] at f1
  obtain ⟨x1, e1, b1⟩ := (td_slice und_22 cel_9 byt_9 (fun m0 hm0 ds0 h0_ => (td_str und_9 h0_)) f1)
  obtain ⟨n1, t1, c1, q1, r1, z1⟩ := e1
  have f2 : TD Try.prog big n 23 ((ds.drop 2).take (Try.prog.cellsOf 23)) := hf 2 _ rfl
  rw [cel_23] at f2
  obtain ⟨x2, e2, b2⟩ := (td_slice und_23 cel_94 byt_94 (fun m0 hm0 ds0 h0_ => (td_int und_94 h0_)) f2)
  obtain ⟨n2, t2, c2, q2, r2, z2⟩ := e2
  have f3 : TD Try.prog big n 24 ((ds.drop 3).take (Try.prog.cellsOf 24)) := hf 3 _ rfl
  rw [cel_24] at f3
  obtain ⟨x3, e3, b3⟩ := (td_slice und_24 cel_96 byt_96 (fun m0 hm0 ds0 h0_ => (td_Rule m0 _ h0_)) f3)
  obtain ⟨n3, t3, c3, q3, r3, z3⟩ := e3
  have f4 : TD Try.prog big n 25 ((ds.drop 4).take (Try.prog.cellsOf 25)) := hf 4 _ rfl
  rw [cel_25] at f4
  obtain ⟨x4, e4, b4⟩ := (td_slice und_25 cel_123 byt_123 (fun m0 hm0 ds0 h0_ => (td_Level m0 _ h0_)) f4)
  obtain ⟨n4, t4, c4, q4, r4, z4⟩ := e4
  have hcs := (seg_cat ds 0 1 (q0) (seg_cat ds 1 1 (q1) (seg_cat ds 2 1 (q2) (seg_cat ds 3 1 (q3) (seg_cat ds 4 1 (q4) (seg_end hl))))))
  rw [List.drop_zero] at hcs
  refine ⟨(⟨x0, x1, x2, x3, x4⟩ : Gram), ?_, ⟨b0, b1, b2, b3, b4⟩⟩
  rw [hcs]
  simpa only [List.append_assoc, List.cons_append, List.nil_append, List.append_nil] using DGram.mk (⟨x0, x1, x2, x3, x4⟩ : Gram) n0 t0 c0 n1 t1 c1 n2 t2 c2 n3 t3 c3 n4 t4 c4 r0 r1 r2 r3 r4 z0 z1 z2 z3 z4
theorem tv_Gram {p : PV} (h : TV Try.prog big 27 p) : ∃ (ds : List DV) (x : Gram), p = .agg (ds.map .d) ∧ DGram ds x ∧ BGram x := by
  obtain ⟨fuel, ds, h1, h2⟩ := h
  obtain ⟨x, h3, h4⟩ := td_Gram fuel ds h1
  exact ⟨ds, x, (by rw [show agg? Try.prog 27 = some true by kernel_rfl] at h2; exact h2), h3, h4⟩
theorem ts_data : dataT Try.prog [3, 9, 22, 23, 24, 25, 27, 28, 29, 30, 32, 34, 54, 55, 57, 63, 64, 88, 94, 96, 97, 99, 101, 102, 108, 110, 121, 123] = true := by kernel_rfl
end Go.Proofs.Ytpepghaknilmhaa.Vm
