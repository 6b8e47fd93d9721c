/- What the program's table of types says, a fact each. Printed by a program of the prover's. -/
import Derived.Test.YtkjkogmnijfanaaDoorChecked
import Derived.Test.YtkjkogmnijfanaaDoorU7
set_option linter.unusedVariables false
set_option linter.unusedSimpArgs false
namespace Go.Proofs.YtkjkogmnijfanaaDoor
theorem kt_1 : kT Tryd.prog 1 = 3 := by kernel_rfl
theorem sz_1 : szOf Tryd.prog 1 = some 1 := by kernel_rfl
theorem row_1 : rowOf Tryd.prog 1 = some false := by kernel_rfl
theorem sz_2 : szOf Tryd.prog 2 = some 1 := by kernel_rfl
theorem row_2 : rowOf Tryd.prog 2 = some false := by kernel_rfl
theorem zero_2 : zeroOf Tryd.prog 2 = some [.int .i64 0] := by kernel_rfl
theorem by_2 : bytesOf' Tryd.prog 2 = some 8 := by kernel_rfl
theorem str_2 : isStr Tryd.prog 2 = false := by kernel_rfl
theorem kind_2 : kindOf' Tryd.prog 2 = some .i64 := by kernel_rfl
theorem cc_2 : isConc Tryd.prog 2 = true := by kernel_rfl
theorem kt_2 : kT Tryd.prog 2 = 0 := by kernel_rfl
theorem sz_3 : szOf Tryd.prog 3 = some 1 := by kernel_rfl
theorem row_3 : rowOf Tryd.prog 3 = some false := by kernel_rfl
theorem zero_3 : zeroOf Tryd.prog 3 = some [.int .i64 0] := by kernel_rfl
theorem by_3 : bytesOf' Tryd.prog 3 = some 8 := by kernel_rfl
theorem str_3 : isStr Tryd.prog 3 = false := by kernel_rfl
theorem kind_3 : kindOf' Tryd.prog 3 = some .i64 := by kernel_rfl
theorem cc_3 : isConc Tryd.prog 3 = true := by kernel_rfl
theorem kt_3 : kT Tryd.prog 3 = 0 := by kernel_rfl
theorem sz_4 : szOf Tryd.prog 4 = some 1 := by kernel_rfl
theorem row_4 : rowOf Tryd.prog 4 = some false := by kernel_rfl
theorem zero_4 : zeroOf Tryd.prog 4 = some [.bool false] := by kernel_rfl
theorem by_4 : bytesOf' Tryd.prog 4 = some 1 := by kernel_rfl
theorem str_4 : isStr Tryd.prog 4 = false := by kernel_rfl
theorem cc_4 : isConc Tryd.prog 4 = true := by kernel_rfl
theorem kt_4 : kT Tryd.prog 4 = 0 := by kernel_rfl
theorem sz_5 : szOf Tryd.prog 5 = some 1 := by kernel_rfl
theorem row_5 : rowOf Tryd.prog 5 = some false := by kernel_rfl
theorem zero_5 : zeroOf Tryd.prog 5 = some [.int .u8 0] := by kernel_rfl
theorem by_5 : bytesOf' Tryd.prog 5 = some 1 := by kernel_rfl
theorem str_5 : isStr Tryd.prog 5 = false := by kernel_rfl
theorem kind_5 : kindOf' Tryd.prog 5 = some .u8 := by kernel_rfl
theorem cc_5 : isConc Tryd.prog 5 = true := by kernel_rfl
theorem kt_5 : kT Tryd.prog 5 = 0 := by kernel_rfl
theorem sz_7 : szOf Tryd.prog 7 = some 4 := by kernel_rfl
theorem row_7 : rowOf Tryd.prog 7 = some true := by kernel_rfl
theorem zero_7 : zeroOf Tryd.prog 7 = some [.int .i64 0, .int .i64 0, .bool false, .int .u8 0] := by kernel_rfl
theorem by_7 : bytesOf' Tryd.prog 7 = some 24 := by kernel_rfl
theorem str_7 : isStr Tryd.prog 7 = false := by kernel_rfl
theorem cc_7 : isConc Tryd.prog 7 = true := by kernel_rfl
theorem kt_7 : kT Tryd.prog 7 = 0 := by kernel_rfl
theorem pl_7 : placesOf Tryd.prog 7 = some [(0, 1), (1, 1), (2, 1), (3, 1)] := by kernel_rfl
theorem off_7_0 : offOf Tryd.prog 7 0 = some 0 := by kernel_rfl
theorem fld_7_0 : fldOf Tryd.prog 7 0 = some (0, 1, false) := by kernel_rfl
theorem off_7_1 : offOf Tryd.prog 7 1 = some 1 := by kernel_rfl
theorem fld_7_1 : fldOf Tryd.prog 7 1 = some (1, 1, false) := by kernel_rfl
theorem off_7_2 : offOf Tryd.prog 7 2 = some 2 := by kernel_rfl
theorem fld_7_2 : fldOf Tryd.prog 7 2 = some (2, 1, false) := by kernel_rfl
theorem off_7_3 : offOf Tryd.prog 7 3 = some 3 := by kernel_rfl
theorem fld_7_3 : fldOf Tryd.prog 7 3 = some (3, 1, false) := by kernel_rfl
theorem sz_9 : szOf Tryd.prog 9 = some 1 := by kernel_rfl
theorem row_9 : rowOf Tryd.prog 9 = some false := by kernel_rfl
theorem zero_9 : zeroOf Tryd.prog 9 = some [.string ⟨#[]⟩] := by kernel_rfl
theorem by_9 : bytesOf' Tryd.prog 9 = some 16 := by kernel_rfl
theorem str_9 : isStr Tryd.prog 9 = true := by kernel_rfl
theorem bs_9 : isBytes Tryd.prog 9 = false := by kernel_rfl
theorem cc_9 : isConc Tryd.prog 9 = true := by kernel_rfl
theorem kt_9 : kT Tryd.prog 9 = 0 := by kernel_rfl
theorem sz_12 : szOf Tryd.prog 12 = some 1 := by kernel_rfl
theorem row_12 : rowOf Tryd.prog 12 = some false := by kernel_rfl
theorem zero_12 : zeroOf Tryd.prog 12 = some [.int .u64 0] := by kernel_rfl
theorem by_12 : bytesOf' Tryd.prog 12 = some 8 := by kernel_rfl
theorem str_12 : isStr Tryd.prog 12 = false := by kernel_rfl
theorem kind_12 : kindOf' Tryd.prog 12 = some .u64 := by kernel_rfl
theorem cc_12 : isConc Tryd.prog 12 = true := by kernel_rfl
theorem kt_12 : kT Tryd.prog 12 = 0 := by kernel_rfl
theorem sz_13 : szOf Tryd.prog 13 = some 2 := by kernel_rfl
theorem row_13 : rowOf Tryd.prog 13 = some true := by kernel_rfl
theorem zero_13 : zeroOf Tryd.prog 13 = some [.string ⟨#[]⟩, .int .u64 0] := by kernel_rfl
theorem by_13 : bytesOf' Tryd.prog 13 = some 24 := by kernel_rfl
theorem str_13 : isStr Tryd.prog 13 = false := by kernel_rfl
theorem cc_13 : isConc Tryd.prog 13 = true := by kernel_rfl
theorem kt_13 : kT Tryd.prog 13 = 0 := by kernel_rfl
theorem pl_13 : placesOf Tryd.prog 13 = some [(0, 1), (1, 1)] := by kernel_rfl
theorem off_13_0 : offOf Tryd.prog 13 0 = some 0 := by kernel_rfl
theorem fld_13_0 : fldOf Tryd.prog 13 0 = some (0, 1, false) := by kernel_rfl
theorem off_13_1 : offOf Tryd.prog 13 1 = some 1 := by kernel_rfl
theorem fld_13_1 : fldOf Tryd.prog 13 1 = some (1, 1, false) := by kernel_rfl
theorem sz_15 : szOf Tryd.prog 15 = some 1 := by kernel_rfl
theorem row_15 : rowOf Tryd.prog 15 = some false := by kernel_rfl
theorem zero_15 : zeroOf Tryd.prog 15 = some [.pointer none] := by kernel_rfl
theorem by_15 : bytesOf' Tryd.prog 15 = some 8 := by kernel_rfl
theorem str_15 : isStr Tryd.prog 15 = false := by kernel_rfl
theorem cc_15 : isConc Tryd.prog 15 = true := by kernel_rfl
theorem und_15 : Tryd.prog.underlying 15 = some (.pointer 88) := by kernel_rfl
theorem kt_15 : kT Tryd.prog 15 = 2 := by kernel_rfl
theorem sz_16 : szOf Tryd.prog 16 = some 1 := by kernel_rfl
theorem row_16 : rowOf Tryd.prog 16 = some false := by kernel_rfl
theorem zero_16 : zeroOf Tryd.prog 16 = some [.pointer none] := by kernel_rfl
theorem by_16 : bytesOf' Tryd.prog 16 = some 8 := by kernel_rfl
theorem str_16 : isStr Tryd.prog 16 = false := by kernel_rfl
theorem cc_16 : isConc Tryd.prog 16 = true := by kernel_rfl
theorem und_16 : Tryd.prog.underlying 16 = some (.pointer 91) := by kernel_rfl
theorem kt_16 : kT Tryd.prog 16 = 2 := by kernel_rfl
theorem sz_17 : szOf Tryd.prog 17 = some 1 := by kernel_rfl
theorem row_17 : rowOf Tryd.prog 17 = some false := by kernel_rfl
theorem zero_17 : zeroOf Tryd.prog 17 = some [.pointer none] := by kernel_rfl
theorem by_17 : bytesOf' Tryd.prog 17 = some 8 := by kernel_rfl
theorem str_17 : isStr Tryd.prog 17 = false := by kernel_rfl
theorem cc_17 : isConc Tryd.prog 17 = true := by kernel_rfl
theorem und_17 : Tryd.prog.underlying 17 = some (.pointer 100) := by kernel_rfl
theorem kt_17 : kT Tryd.prog 17 = 2 := by kernel_rfl
theorem sz_18 : szOf Tryd.prog 18 = some 1 := by kernel_rfl
theorem row_18 : rowOf Tryd.prog 18 = some true := by kernel_rfl
theorem zero_18 : zeroOf Tryd.prog 18 = some [.pointer none] := by kernel_rfl
theorem by_18 : bytesOf' Tryd.prog 18 = some 8 := by kernel_rfl
theorem str_18 : isStr Tryd.prog 18 = false := by kernel_rfl
theorem cc_18 : isConc Tryd.prog 18 = true := by kernel_rfl
theorem kt_18 : kT Tryd.prog 18 = 0 := by kernel_rfl
theorem pl_18 : placesOf Tryd.prog 18 = some [(0, 1)] := by kernel_rfl
theorem off_18_0 : offOf Tryd.prog 18 0 = some 0 := by kernel_rfl
theorem fld_18_0 : fldOf Tryd.prog 18 0 = some (0, 1, false) := by kernel_rfl
theorem sz_20 : szOf Tryd.prog 20 = some 1 := by kernel_rfl
theorem row_20 : rowOf Tryd.prog 20 = some false := by kernel_rfl
theorem zero_20 : zeroOf Tryd.prog 20 = some [.nilIface] := by kernel_rfl
theorem by_20 : bytesOf' Tryd.prog 20 = some 16 := by kernel_rfl
theorem str_20 : isStr Tryd.prog 20 = false := by kernel_rfl
theorem cc_20 : isConc Tryd.prog 20 = false := by kernel_rfl
theorem kt_20 : kT Tryd.prog 20 = 4 := by kernel_rfl
theorem sz_21 : szOf Tryd.prog 21 = some 1 := by kernel_rfl
theorem row_21 : rowOf Tryd.prog 21 = some false := by kernel_rfl
theorem zero_21 : zeroOf Tryd.prog 21 = some [.int .i32 0] := by kernel_rfl
theorem by_21 : bytesOf' Tryd.prog 21 = some 4 := by kernel_rfl
theorem str_21 : isStr Tryd.prog 21 = false := by kernel_rfl
theorem kind_21 : kindOf' Tryd.prog 21 = some .i32 := by kernel_rfl
theorem cc_21 : isConc Tryd.prog 21 = true := by kernel_rfl
theorem kt_21 : kT Tryd.prog 21 = 0 := by kernel_rfl
theorem sz_22 : szOf Tryd.prog 22 = some 3 := by kernel_rfl
theorem row_22 : rowOf Tryd.prog 22 = some true := by kernel_rfl
theorem zero_22 : zeroOf Tryd.prog 22 = some [.int .i64 0, .bool false, .bool false] := by kernel_rfl
theorem by_22 : bytesOf' Tryd.prog 22 = some 16 := by kernel_rfl
theorem str_22 : isStr Tryd.prog 22 = false := by kernel_rfl
theorem cc_22 : isConc Tryd.prog 22 = true := by kernel_rfl
theorem kt_22 : kT Tryd.prog 22 = 0 := by kernel_rfl
theorem pl_22 : placesOf Tryd.prog 22 = some [(0, 1), (1, 1), (2, 1)] := by kernel_rfl
theorem off_22_0 : offOf Tryd.prog 22 0 = some 0 := by kernel_rfl
theorem fld_22_0 : fldOf Tryd.prog 22 0 = some (0, 1, false) := by kernel_rfl
theorem off_22_1 : offOf Tryd.prog 22 1 = some 1 := by kernel_rfl
theorem fld_22_1 : fldOf Tryd.prog 22 1 = some (1, 1, false) := by kernel_rfl
theorem off_22_2 : offOf Tryd.prog 22 2 = some 2 := by kernel_rfl
theorem fld_22_2 : fldOf Tryd.prog 22 2 = some (2, 1, false) := by kernel_rfl
theorem sz_23 : szOf Tryd.prog 23 = some 3 := by kernel_rfl
theorem row_23 : rowOf Tryd.prog 23 = some true := by kernel_rfl
theorem zero_23 : zeroOf Tryd.prog 23 = some [.int .i64 0, .bool false, .bool false] := by kernel_rfl
theorem by_23 : bytesOf' Tryd.prog 23 = some 16 := by kernel_rfl
theorem str_23 : isStr Tryd.prog 23 = false := by kernel_rfl
theorem cc_23 : isConc Tryd.prog 23 = true := by kernel_rfl
theorem kt_23 : kT Tryd.prog 23 = 0 := by kernel_rfl
theorem pl_23 : placesOf Tryd.prog 23 = some [(0, 1), (1, 1), (2, 1)] := by kernel_rfl
theorem off_23_0 : offOf Tryd.prog 23 0 = some 0 := by kernel_rfl
theorem fld_23_0 : fldOf Tryd.prog 23 0 = some (0, 1, false) := by kernel_rfl
theorem off_23_1 : offOf Tryd.prog 23 1 = some 1 := by kernel_rfl
theorem fld_23_1 : fldOf Tryd.prog 23 1 = some (1, 1, false) := by kernel_rfl
theorem off_23_2 : offOf Tryd.prog 23 2 = some 2 := by kernel_rfl
theorem fld_23_2 : fldOf Tryd.prog 23 2 = some (2, 1, false) := by kernel_rfl
theorem kt_24 : kT Tryd.prog 24 = 3 := by kernel_rfl
theorem sz_24 : szOf Tryd.prog 24 = some 1 := by kernel_rfl
theorem row_24 : rowOf Tryd.prog 24 = some false := by kernel_rfl
theorem sz_25 : szOf Tryd.prog 25 = some 1 := by kernel_rfl
theorem row_25 : rowOf Tryd.prog 25 = some false := by kernel_rfl
theorem zero_25 : zeroOf Tryd.prog 25 = some [.int .i64 0] := by kernel_rfl
theorem by_25 : bytesOf' Tryd.prog 25 = some 8 := by kernel_rfl
theorem str_25 : isStr Tryd.prog 25 = false := by kernel_rfl
theorem kind_25 : kindOf' Tryd.prog 25 = some .i64 := by kernel_rfl
theorem cc_25 : isConc Tryd.prog 25 = true := by kernel_rfl
theorem kt_25 : kT Tryd.prog 25 = 0 := by kernel_rfl
theorem kt_27 : kT Tryd.prog 27 = 3 := by kernel_rfl
theorem sz_27 : szOf Tryd.prog 27 = some 1 := by kernel_rfl
theorem row_27 : rowOf Tryd.prog 27 = some false := by kernel_rfl
theorem kt_29 : kT Tryd.prog 29 = 3 := by kernel_rfl
theorem sz_29 : szOf Tryd.prog 29 = some 1 := by kernel_rfl
theorem row_29 : rowOf Tryd.prog 29 = some false := by kernel_rfl
theorem kt_30 : kT Tryd.prog 30 = 3 := by kernel_rfl
theorem sz_30 : szOf Tryd.prog 30 = some 1 := by kernel_rfl
theorem row_30 : rowOf Tryd.prog 30 = some false := by kernel_rfl
theorem sz_31 : szOf Tryd.prog 31 = some 1 := by kernel_rfl
theorem row_31 : rowOf Tryd.prog 31 = some false := by kernel_rfl
theorem zero_31 : zeroOf Tryd.prog 31 = some [.slice none 0 0] := by kernel_rfl
theorem by_31 : bytesOf' Tryd.prog 31 = some 24 := by kernel_rfl
theorem el_31 : elOf Tryd.prog 31 = some 35 := by kernel_rfl
theorem str_31 : isStr Tryd.prog 31 = false := by kernel_rfl
theorem bs_31 : isBytes Tryd.prog 31 = false := by kernel_rfl
theorem cc_31 : isConc Tryd.prog 31 = true := by kernel_rfl
theorem und_31 : Tryd.prog.underlying 31 = some (.slice 35) := by kernel_rfl
theorem kt_31 : kT Tryd.prog 31 = 1 := by kernel_rfl
theorem kt_32 : kT Tryd.prog 32 = 3 := by kernel_rfl
theorem sz_32 : szOf Tryd.prog 32 = some 1 := by kernel_rfl
theorem row_32 : rowOf Tryd.prog 32 = some false := by kernel_rfl
theorem sz_34 : szOf Tryd.prog 34 = some 2 := by kernel_rfl
theorem row_34 : rowOf Tryd.prog 34 = some true := by kernel_rfl
theorem zero_34 : zeroOf Tryd.prog 34 = some [.string ⟨#[]⟩, .int .i64 0] := by kernel_rfl
theorem by_34 : bytesOf' Tryd.prog 34 = some 24 := by kernel_rfl
theorem str_34 : isStr Tryd.prog 34 = false := by kernel_rfl
theorem cc_34 : isConc Tryd.prog 34 = true := by kernel_rfl
theorem kt_34 : kT Tryd.prog 34 = 0 := by kernel_rfl
theorem pl_34 : placesOf Tryd.prog 34 = some [(0, 1), (1, 1)] := by kernel_rfl
theorem off_34_0 : offOf Tryd.prog 34 0 = some 0 := by kernel_rfl
theorem fld_34_0 : fldOf Tryd.prog 34 0 = some (0, 1, false) := by kernel_rfl
theorem off_34_1 : offOf Tryd.prog 34 1 = some 1 := by kernel_rfl
theorem fld_34_1 : fldOf Tryd.prog 34 1 = some (1, 1, false) := by kernel_rfl
theorem sz_35 : szOf Tryd.prog 35 = some 2 := by kernel_rfl
theorem row_35 : rowOf Tryd.prog 35 = some true := by kernel_rfl
theorem zero_35 : zeroOf Tryd.prog 35 = some [.string ⟨#[]⟩, .int .i64 0] := by kernel_rfl
theorem by_35 : bytesOf' Tryd.prog 35 = some 24 := by kernel_rfl
theorem str_35 : isStr Tryd.prog 35 = false := by kernel_rfl
theorem cc_35 : isConc Tryd.prog 35 = true := by kernel_rfl
theorem kt_35 : kT Tryd.prog 35 = 0 := by kernel_rfl
theorem pl_35 : placesOf Tryd.prog 35 = some [(0, 1), (1, 1)] := by kernel_rfl
theorem off_35_0 : offOf Tryd.prog 35 0 = some 0 := by kernel_rfl
theorem fld_35_0 : fldOf Tryd.prog 35 0 = some (0, 1, false) := by kernel_rfl
theorem off_35_1 : offOf Tryd.prog 35 1 = some 1 := by kernel_rfl
theorem fld_35_1 : fldOf Tryd.prog 35 1 = some (1, 1, false) := by kernel_rfl
theorem kt_36 : kT Tryd.prog 36 = 3 := by kernel_rfl
theorem sz_36 : szOf Tryd.prog 36 = some 1 := by kernel_rfl
theorem row_36 : rowOf Tryd.prog 36 = some false := by kernel_rfl
theorem kt_38 : kT Tryd.prog 38 = 3 := by kernel_rfl
theorem sz_38 : szOf Tryd.prog 38 = some 1 := by kernel_rfl
theorem row_38 : rowOf Tryd.prog 38 = some false := by kernel_rfl
theorem kt_39 : kT Tryd.prog 39 = 3 := by kernel_rfl
theorem sz_39 : szOf Tryd.prog 39 = some 1 := by kernel_rfl
theorem row_39 : rowOf Tryd.prog 39 = some false := by kernel_rfl
theorem kt_40 : kT Tryd.prog 40 = 3 := by kernel_rfl
theorem sz_40 : szOf Tryd.prog 40 = some 1 := by kernel_rfl
theorem row_40 : rowOf Tryd.prog 40 = some false := by kernel_rfl
theorem kt_41 : kT Tryd.prog 41 = 3 := by kernel_rfl
theorem sz_41 : szOf Tryd.prog 41 = some 1 := by kernel_rfl
theorem row_41 : rowOf Tryd.prog 41 = some false := by kernel_rfl
theorem kt_42 : kT Tryd.prog 42 = 3 := by kernel_rfl
theorem sz_42 : szOf Tryd.prog 42 = some 1 := by kernel_rfl
theorem row_42 : rowOf Tryd.prog 42 = some false := by kernel_rfl
theorem kt_44 : kT Tryd.prog 44 = 3 := by kernel_rfl
theorem sz_44 : szOf Tryd.prog 44 = some 1 := by kernel_rfl
theorem row_44 : rowOf Tryd.prog 44 = some false := by kernel_rfl
theorem kt_46 : kT Tryd.prog 46 = 3 := by kernel_rfl
theorem sz_46 : szOf Tryd.prog 46 = some 1 := by kernel_rfl
theorem row_46 : rowOf Tryd.prog 46 = some false := by kernel_rfl
theorem kt_47 : kT Tryd.prog 47 = 3 := by kernel_rfl
theorem sz_47 : szOf Tryd.prog 47 = some 1 := by kernel_rfl
theorem row_47 : rowOf Tryd.prog 47 = some false := by kernel_rfl
theorem kt_48 : kT Tryd.prog 48 = 3 := by kernel_rfl
theorem sz_48 : szOf Tryd.prog 48 = some 1 := by kernel_rfl
theorem row_48 : rowOf Tryd.prog 48 = some false := by kernel_rfl
theorem sz_49 : szOf Tryd.prog 49 = some 1 := by kernel_rfl
theorem row_49 : rowOf Tryd.prog 49 = some false := by kernel_rfl
theorem zero_49 : zeroOf Tryd.prog 49 = some [.nilFunc] := by kernel_rfl
theorem by_49 : bytesOf' Tryd.prog 49 = some 8 := by kernel_rfl
theorem str_49 : isStr Tryd.prog 49 = false := by kernel_rfl
theorem cc_49 : isConc Tryd.prog 49 = true := by kernel_rfl
theorem kt_49 : kT Tryd.prog 49 = 3 := by kernel_rfl
theorem kt_50 : kT Tryd.prog 50 = 3 := by kernel_rfl
theorem sz_50 : szOf Tryd.prog 50 = some 1 := by kernel_rfl
theorem row_50 : rowOf Tryd.prog 50 = some false := by kernel_rfl
theorem kt_51 : kT Tryd.prog 51 = 3 := by kernel_rfl
theorem sz_51 : szOf Tryd.prog 51 = some 1 := by kernel_rfl
theorem row_51 : rowOf Tryd.prog 51 = some false := by kernel_rfl
theorem kt_53 : kT Tryd.prog 53 = 3 := by kernel_rfl
theorem sz_53 : szOf Tryd.prog 53 = some 1 := by kernel_rfl
theorem row_53 : rowOf Tryd.prog 53 = some false := by kernel_rfl
theorem kt_54 : kT Tryd.prog 54 = 3 := by kernel_rfl
theorem sz_54 : szOf Tryd.prog 54 = some 1 := by kernel_rfl
theorem row_54 : rowOf Tryd.prog 54 = some false := by kernel_rfl
theorem sz_55 : szOf Tryd.prog 55 = some 1 := by kernel_rfl
theorem row_55 : rowOf Tryd.prog 55 = some false := by kernel_rfl
theorem zero_55 : zeroOf Tryd.prog 55 = some [.slice none 0 0] := by kernel_rfl
theorem by_55 : bytesOf' Tryd.prog 55 = some 24 := by kernel_rfl
theorem el_55 : elOf Tryd.prog 55 = some 58 := by kernel_rfl
theorem str_55 : isStr Tryd.prog 55 = false := by kernel_rfl
theorem bs_55 : isBytes Tryd.prog 55 = false := by kernel_rfl
theorem cc_55 : isConc Tryd.prog 55 = true := by kernel_rfl
theorem und_55 : Tryd.prog.underlying 55 = some (.slice 58) := by kernel_rfl
theorem kt_55 : kT Tryd.prog 55 = 1 := by kernel_rfl
theorem kt_56 : kT Tryd.prog 56 = 3 := by kernel_rfl
theorem sz_56 : szOf Tryd.prog 56 = some 1 := by kernel_rfl
theorem row_56 : rowOf Tryd.prog 56 = some false := by kernel_rfl
theorem sz_57 : szOf Tryd.prog 57 = some 2 := by kernel_rfl
theorem row_57 : rowOf Tryd.prog 57 = some true := by kernel_rfl
theorem zero_57 : zeroOf Tryd.prog 57 = some [.string ⟨#[]⟩, .int .i64 0] := by kernel_rfl
theorem by_57 : bytesOf' Tryd.prog 57 = some 24 := by kernel_rfl
theorem str_57 : isStr Tryd.prog 57 = false := by kernel_rfl
theorem cc_57 : isConc Tryd.prog 57 = true := by kernel_rfl
theorem kt_57 : kT Tryd.prog 57 = 0 := by kernel_rfl
theorem pl_57 : placesOf Tryd.prog 57 = some [(0, 1), (1, 1)] := by kernel_rfl
theorem off_57_0 : offOf Tryd.prog 57 0 = some 0 := by kernel_rfl
theorem fld_57_0 : fldOf Tryd.prog 57 0 = some (0, 1, false) := by kernel_rfl
theorem off_57_1 : offOf Tryd.prog 57 1 = some 1 := by kernel_rfl
theorem fld_57_1 : fldOf Tryd.prog 57 1 = some (1, 1, false) := by kernel_rfl
theorem sz_58 : szOf Tryd.prog 58 = some 2 := by kernel_rfl
theorem row_58 : rowOf Tryd.prog 58 = some true := by kernel_rfl
theorem zero_58 : zeroOf Tryd.prog 58 = some [.string ⟨#[]⟩, .int .i64 0] := by kernel_rfl
theorem by_58 : bytesOf' Tryd.prog 58 = some 24 := by kernel_rfl
theorem str_58 : isStr Tryd.prog 58 = false := by kernel_rfl
theorem cc_58 : isConc Tryd.prog 58 = true := by kernel_rfl
theorem kt_58 : kT Tryd.prog 58 = 0 := by kernel_rfl
theorem pl_58 : placesOf Tryd.prog 58 = some [(0, 1), (1, 1)] := by kernel_rfl
theorem off_58_0 : offOf Tryd.prog 58 0 = some 0 := by kernel_rfl
theorem fld_58_0 : fldOf Tryd.prog 58 0 = some (0, 1, false) := by kernel_rfl
theorem off_58_1 : offOf Tryd.prog 58 1 = some 1 := by kernel_rfl
theorem fld_58_1 : fldOf Tryd.prog 58 1 = some (1, 1, false) := by kernel_rfl
theorem kt_59 : kT Tryd.prog 59 = 3 := by kernel_rfl
theorem sz_59 : szOf Tryd.prog 59 = some 1 := by kernel_rfl
theorem row_59 : rowOf Tryd.prog 59 = some false := by kernel_rfl
theorem sz_60 : szOf Tryd.prog 60 = some 3 := by kernel_rfl
theorem row_60 : rowOf Tryd.prog 60 = some true := by kernel_rfl
theorem zero_60 : zeroOf Tryd.prog 60 = some [.int .u8 0, .int .u8 0, .int .u8 0] := by kernel_rfl
theorem by_60 : bytesOf' Tryd.prog 60 = some 3 := by kernel_rfl
theorem str_60 : isStr Tryd.prog 60 = false := by kernel_rfl
theorem cc_60 : isConc Tryd.prog 60 = true := by kernel_rfl
theorem und_60 : Tryd.prog.underlying 60 = some (.array 3 5) := by kernel_rfl
theorem kt_60 : kT Tryd.prog 60 = 0 := by kernel_rfl
theorem asz_60 : arrSz Tryd.prog 60 = some 1 := by kernel_rfl
theorem pl_60 : placesOf Tryd.prog 60 = none := by kernel_rfl
theorem arr_60 : arrOf Tryd.prog 60 = some (3, 1) := by kernel_rfl
theorem sz_61 : szOf Tryd.prog 61 = some 1 := by kernel_rfl
theorem row_61 : rowOf Tryd.prog 61 = some false := by kernel_rfl
theorem zero_61 : zeroOf Tryd.prog 61 = some [.slice none 0 0] := by kernel_rfl
theorem by_61 : bytesOf' Tryd.prog 61 = some 24 := by kernel_rfl
theorem el_61 : elOf Tryd.prog 61 = some 5 := by kernel_rfl
theorem str_61 : isStr Tryd.prog 61 = false := by kernel_rfl
theorem bs_61 : isBytes Tryd.prog 61 = true := by kernel_rfl
theorem cc_61 : isConc Tryd.prog 61 = true := by kernel_rfl
theorem und_61 : Tryd.prog.underlying 61 = some (.slice 5) := by kernel_rfl
theorem kt_61 : kT Tryd.prog 61 = 1 := by kernel_rfl
theorem kt_62 : kT Tryd.prog 62 = 3 := by kernel_rfl
theorem sz_62 : szOf Tryd.prog 62 = some 1 := by kernel_rfl
theorem row_62 : rowOf Tryd.prog 62 = some false := by kernel_rfl
theorem sz_63 : szOf Tryd.prog 63 = some 1 := by kernel_rfl
theorem row_63 : rowOf Tryd.prog 63 = some false := by kernel_rfl
theorem zero_63 : zeroOf Tryd.prog 63 = some [.slice none 0 0] := by kernel_rfl
theorem by_63 : bytesOf' Tryd.prog 63 = some 24 := by kernel_rfl
theorem el_63 : elOf Tryd.prog 63 = some 9 := by kernel_rfl
theorem str_63 : isStr Tryd.prog 63 = false := by kernel_rfl
theorem bs_63 : isBytes Tryd.prog 63 = false := by kernel_rfl
theorem cc_63 : isConc Tryd.prog 63 = true := by kernel_rfl
theorem und_63 : Tryd.prog.underlying 63 = some (.slice 9) := by kernel_rfl
theorem kt_63 : kT Tryd.prog 63 = 1 := by kernel_rfl
theorem kt_64 : kT Tryd.prog 64 = 3 := by kernel_rfl
theorem sz_64 : szOf Tryd.prog 64 = some 1 := by kernel_rfl
theorem row_64 : rowOf Tryd.prog 64 = some false := by kernel_rfl
theorem sz_65 : szOf Tryd.prog 65 = some 5 := by kernel_rfl
theorem row_65 : rowOf Tryd.prog 65 = some true := by kernel_rfl
theorem zero_65 : zeroOf Tryd.prog 65 = some [.string ⟨#[]⟩, .string ⟨#[]⟩, .string ⟨#[]⟩, .string ⟨#[]⟩, .string ⟨#[]⟩] := by kernel_rfl
theorem by_65 : bytesOf' Tryd.prog 65 = some 80 := by kernel_rfl
theorem str_65 : isStr Tryd.prog 65 = false := by kernel_rfl
theorem cc_65 : isConc Tryd.prog 65 = true := by kernel_rfl
theorem und_65 : Tryd.prog.underlying 65 = some (.array 5 9) := by kernel_rfl
theorem kt_65 : kT Tryd.prog 65 = 0 := by kernel_rfl
theorem asz_65 : arrSz Tryd.prog 65 = some 1 := by kernel_rfl
theorem pl_65 : placesOf Tryd.prog 65 = none := by kernel_rfl
theorem arr_65 : arrOf Tryd.prog 65 = some (5, 1) := by kernel_rfl
theorem sz_66 : szOf Tryd.prog 66 = some 5 := by kernel_rfl
theorem row_66 : rowOf Tryd.prog 66 = some true := by kernel_rfl
theorem zero_66 : zeroOf Tryd.prog 66 = some [.int .i64 0, .int .i64 0, .int .i64 0, .int .i64 0, .int .i64 0] := by kernel_rfl
theorem by_66 : bytesOf' Tryd.prog 66 = some 40 := by kernel_rfl
theorem str_66 : isStr Tryd.prog 66 = false := by kernel_rfl
theorem cc_66 : isConc Tryd.prog 66 = true := by kernel_rfl
theorem und_66 : Tryd.prog.underlying 66 = some (.array 5 3) := by kernel_rfl
theorem kt_66 : kT Tryd.prog 66 = 0 := by kernel_rfl
theorem asz_66 : arrSz Tryd.prog 66 = some 1 := by kernel_rfl
theorem pl_66 : placesOf Tryd.prog 66 = none := by kernel_rfl
theorem arr_66 : arrOf Tryd.prog 66 = some (5, 1) := by kernel_rfl
theorem kt_67 : kT Tryd.prog 67 = 3 := by kernel_rfl
theorem sz_67 : szOf Tryd.prog 67 = some 1 := by kernel_rfl
theorem row_67 : rowOf Tryd.prog 67 = some false := by kernel_rfl
theorem kt_68 : kT Tryd.prog 68 = 3 := by kernel_rfl
theorem sz_68 : szOf Tryd.prog 68 = some 1 := by kernel_rfl
theorem row_68 : rowOf Tryd.prog 68 = some false := by kernel_rfl
theorem sz_69 : szOf Tryd.prog 69 = some 1 := by kernel_rfl
theorem row_69 : rowOf Tryd.prog 69 = some false := by kernel_rfl
theorem zero_69 : zeroOf Tryd.prog 69 = some [.int .u64 0] := by kernel_rfl
theorem by_69 : bytesOf' Tryd.prog 69 = some 8 := by kernel_rfl
theorem str_69 : isStr Tryd.prog 69 = false := by kernel_rfl
theorem kind_69 : kindOf' Tryd.prog 69 = some .u64 := by kernel_rfl
theorem cc_69 : isConc Tryd.prog 69 = true := by kernel_rfl
theorem kt_69 : kT Tryd.prog 69 = 0 := by kernel_rfl
theorem kt_70 : kT Tryd.prog 70 = 3 := by kernel_rfl
theorem sz_70 : szOf Tryd.prog 70 = some 1 := by kernel_rfl
theorem row_70 : rowOf Tryd.prog 70 = some false := by kernel_rfl
theorem kt_71 : kT Tryd.prog 71 = 3 := by kernel_rfl
theorem sz_71 : szOf Tryd.prog 71 = some 1 := by kernel_rfl
theorem row_71 : rowOf Tryd.prog 71 = some false := by kernel_rfl
theorem kt_72 : kT Tryd.prog 72 = 3 := by kernel_rfl
theorem sz_72 : szOf Tryd.prog 72 = some 1 := by kernel_rfl
theorem row_72 : rowOf Tryd.prog 72 = some false := by kernel_rfl
theorem kt_73 : kT Tryd.prog 73 = 3 := by kernel_rfl
theorem sz_73 : szOf Tryd.prog 73 = some 1 := by kernel_rfl
theorem row_73 : rowOf Tryd.prog 73 = some false := by kernel_rfl
theorem kt_74 : kT Tryd.prog 74 = 3 := by kernel_rfl
theorem sz_74 : szOf Tryd.prog 74 = some 1 := by kernel_rfl
theorem row_74 : rowOf Tryd.prog 74 = some false := by kernel_rfl
theorem kt_76 : kT Tryd.prog 76 = 3 := by kernel_rfl
theorem sz_76 : szOf Tryd.prog 76 = some 1 := by kernel_rfl
theorem row_76 : rowOf Tryd.prog 76 = some false := by kernel_rfl
theorem kt_77 : kT Tryd.prog 77 = 3 := by kernel_rfl
theorem sz_77 : szOf Tryd.prog 77 = some 1 := by kernel_rfl
theorem row_77 : rowOf Tryd.prog 77 = some false := by kernel_rfl
theorem kt_78 : kT Tryd.prog 78 = 3 := by kernel_rfl
theorem sz_78 : szOf Tryd.prog 78 = some 1 := by kernel_rfl
theorem row_78 : rowOf Tryd.prog 78 = some false := by kernel_rfl
theorem sz_79 : szOf Tryd.prog 79 = some 256 := by kernel_rfl
theorem row_79 : rowOf Tryd.prog 79 = some true := by kernel_rfl
theorem by_79 : bytesOf' Tryd.prog 79 = some 256 := by kernel_rfl
theorem str_79 : isStr Tryd.prog 79 = false := by kernel_rfl
theorem cc_79 : isConc Tryd.prog 79 = true := by kernel_rfl
theorem und_79 : Tryd.prog.underlying 79 = some (.array 256 5) := by kernel_rfl
theorem kt_79 : kT Tryd.prog 79 = 0 := by kernel_rfl
theorem asz_79 : arrSz Tryd.prog 79 = some 1 := by kernel_rfl
theorem pl_79 : placesOf Tryd.prog 79 = none := by kernel_rfl
theorem arr_79 : arrOf Tryd.prog 79 = some (256, 1) := by kernel_rfl
theorem sz_80 : szOf Tryd.prog 80 = some 2 := by kernel_rfl
theorem row_80 : rowOf Tryd.prog 80 = some true := by kernel_rfl
theorem zero_80 : zeroOf Tryd.prog 80 = some [.int .u8 0, .int .u8 0] := by kernel_rfl
theorem by_80 : bytesOf' Tryd.prog 80 = some 2 := by kernel_rfl
theorem str_80 : isStr Tryd.prog 80 = false := by kernel_rfl
theorem cc_80 : isConc Tryd.prog 80 = true := by kernel_rfl
theorem kt_80 : kT Tryd.prog 80 = 0 := by kernel_rfl
theorem pl_80 : placesOf Tryd.prog 80 = some [(0, 1), (1, 1)] := by kernel_rfl
theorem off_80_0 : offOf Tryd.prog 80 0 = some 0 := by kernel_rfl
theorem fld_80_0 : fldOf Tryd.prog 80 0 = some (0, 1, false) := by kernel_rfl
theorem off_80_1 : offOf Tryd.prog 80 1 = some 1 := by kernel_rfl
theorem fld_80_1 : fldOf Tryd.prog 80 1 = some (1, 1, false) := by kernel_rfl
theorem sz_81 : szOf Tryd.prog 81 = some 2 := by kernel_rfl
theorem row_81 : rowOf Tryd.prog 81 = some true := by kernel_rfl
theorem zero_81 : zeroOf Tryd.prog 81 = some [.int .u8 0, .int .u8 0] := by kernel_rfl
theorem by_81 : bytesOf' Tryd.prog 81 = some 2 := by kernel_rfl
theorem str_81 : isStr Tryd.prog 81 = false := by kernel_rfl
theorem cc_81 : isConc Tryd.prog 81 = true := by kernel_rfl
theorem kt_81 : kT Tryd.prog 81 = 0 := by kernel_rfl
theorem pl_81 : placesOf Tryd.prog 81 = some [(0, 1), (1, 1)] := by kernel_rfl
theorem off_81_0 : offOf Tryd.prog 81 0 = some 0 := by kernel_rfl
theorem fld_81_0 : fldOf Tryd.prog 81 0 = some (0, 1, false) := by kernel_rfl
theorem off_81_1 : offOf Tryd.prog 81 1 = some 1 := by kernel_rfl
theorem fld_81_1 : fldOf Tryd.prog 81 1 = some (1, 1, false) := by kernel_rfl
theorem sz_82 : szOf Tryd.prog 82 = some 32 := by kernel_rfl
theorem row_82 : rowOf Tryd.prog 82 = some true := by kernel_rfl
theorem zero_82 : zeroOf Tryd.prog 82 = some [.int .u8 0, .int .u8 0, .int .u8 0, .int .u8 0, .int .u8 0, .int .u8 0, .int .u8 0, .int .u8 0, .int .u8 0, .int .u8 0, .int .u8 0, .int .u8 0, .int .u8 0, .int .u8 0, .int .u8 0, .int .u8 0, .int .u8 0, .int .u8 0, .int .u8 0, .int .u8 0, .int .u8 0, .int .u8 0, .int .u8 0, .int .u8 0, .int .u8 0, .int .u8 0, .int .u8 0, .int .u8 0, .int .u8 0, .int .u8 0, .int .u8 0, .int .u8 0] := by kernel_rfl
theorem by_82 : bytesOf' Tryd.prog 82 = some 32 := by kernel_rfl
theorem str_82 : isStr Tryd.prog 82 = false := by kernel_rfl
theorem cc_82 : isConc Tryd.prog 82 = true := by kernel_rfl
theorem und_82 : Tryd.prog.underlying 82 = some (.array 16 81) := by kernel_rfl
theorem kt_82 : kT Tryd.prog 82 = 0 := by kernel_rfl
theorem asz_82 : arrSz Tryd.prog 82 = some 2 := by kernel_rfl
theorem pl_82 : placesOf Tryd.prog 82 = none := by kernel_rfl
theorem arr_82 : arrOf Tryd.prog 82 = some (16, 2) := by kernel_rfl
theorem sz_83 : szOf Tryd.prog 83 = some 1 := by kernel_rfl
theorem row_83 : rowOf Tryd.prog 83 = some false := by kernel_rfl
theorem zero_83 : zeroOf Tryd.prog 83 = some [.int .u32 0] := by kernel_rfl
theorem by_83 : bytesOf' Tryd.prog 83 = some 4 := by kernel_rfl
theorem str_83 : isStr Tryd.prog 83 = false := by kernel_rfl
theorem kind_83 : kindOf' Tryd.prog 83 = some .u32 := by kernel_rfl
theorem cc_83 : isConc Tryd.prog 83 = true := by kernel_rfl
theorem kt_83 : kT Tryd.prog 83 = 0 := by kernel_rfl
theorem kt_85 : kT Tryd.prog 85 = 3 := by kernel_rfl
theorem sz_85 : szOf Tryd.prog 85 = some 1 := by kernel_rfl
theorem row_85 : rowOf Tryd.prog 85 = some false := by kernel_rfl
theorem kt_86 : kT Tryd.prog 86 = 3 := by kernel_rfl
theorem sz_86 : szOf Tryd.prog 86 = some 1 := by kernel_rfl
theorem row_86 : rowOf Tryd.prog 86 = some false := by kernel_rfl
theorem sz_87 : szOf Tryd.prog 87 = some 4 := by kernel_rfl
theorem row_87 : rowOf Tryd.prog 87 = some true := by kernel_rfl
theorem zero_87 : zeroOf Tryd.prog 87 = some [.pointer none, .pointer none, .pointer none, .string ⟨#[]⟩] := by kernel_rfl
theorem by_87 : bytesOf' Tryd.prog 87 = some 40 := by kernel_rfl
theorem str_87 : isStr Tryd.prog 87 = false := by kernel_rfl
theorem cc_87 : isConc Tryd.prog 87 = true := by kernel_rfl
theorem kt_87 : kT Tryd.prog 87 = 0 := by kernel_rfl
theorem pl_87 : placesOf Tryd.prog 87 = some [(0, 1), (1, 1), (2, 1), (3, 1)] := by kernel_rfl
theorem off_87_0 : offOf Tryd.prog 87 0 = some 0 := by kernel_rfl
theorem fld_87_0 : fldOf Tryd.prog 87 0 = some (0, 1, false) := by kernel_rfl
theorem off_87_1 : offOf Tryd.prog 87 1 = some 1 := by kernel_rfl
theorem fld_87_1 : fldOf Tryd.prog 87 1 = some (1, 1, false) := by kernel_rfl
theorem off_87_2 : offOf Tryd.prog 87 2 = some 2 := by kernel_rfl
theorem fld_87_2 : fldOf Tryd.prog 87 2 = some (2, 1, false) := by kernel_rfl
theorem off_87_3 : offOf Tryd.prog 87 3 = some 3 := by kernel_rfl
theorem fld_87_3 : fldOf Tryd.prog 87 3 = some (3, 1, false) := by kernel_rfl
theorem sz_89 : szOf Tryd.prog 89 = some 0 := by kernel_rfl
theorem row_89 : rowOf Tryd.prog 89 = some true := by kernel_rfl
theorem by_89 : bytesOf' Tryd.prog 89 = some 0 := by kernel_rfl
theorem str_89 : isStr Tryd.prog 89 = false := by kernel_rfl
theorem cc_89 : isConc Tryd.prog 89 = true := by kernel_rfl
theorem und_89 : Tryd.prog.underlying 89 = some (.array 0 16) := by kernel_rfl
theorem kt_89 : kT Tryd.prog 89 = 0 := by kernel_rfl
theorem asz_89 : arrSz Tryd.prog 89 = some 1 := by kernel_rfl
theorem pl_89 : placesOf Tryd.prog 89 = none := by kernel_rfl
theorem sz_90 : szOf Tryd.prog 90 = some 0 := by kernel_rfl
theorem row_90 : rowOf Tryd.prog 90 = some true := by kernel_rfl
theorem by_90 : bytesOf' Tryd.prog 90 = some 0 := by kernel_rfl
theorem str_90 : isStr Tryd.prog 90 = false := by kernel_rfl
theorem cc_90 : isConc Tryd.prog 90 = true := by kernel_rfl
theorem kt_90 : kT Tryd.prog 90 = 0 := by kernel_rfl
theorem pl_90 : placesOf Tryd.prog 90 = some [(0, 0)] := by kernel_rfl
theorem kt_92 : kT Tryd.prog 92 = 3 := by kernel_rfl
theorem sz_92 : szOf Tryd.prog 92 = some 1 := by kernel_rfl
theorem row_92 : rowOf Tryd.prog 92 = some false := by kernel_rfl
theorem kt_95 : kT Tryd.prog 95 = 3 := by kernel_rfl
theorem sz_95 : szOf Tryd.prog 95 = some 1 := by kernel_rfl
theorem row_95 : rowOf Tryd.prog 95 = some false := by kernel_rfl
theorem sz_96 : szOf Tryd.prog 96 = some 1 := by kernel_rfl
theorem row_96 : rowOf Tryd.prog 96 = some false := by kernel_rfl
theorem zero_96 : zeroOf Tryd.prog 96 = some [.pointer none] := by kernel_rfl
theorem by_96 : bytesOf' Tryd.prog 96 = some 8 := by kernel_rfl
theorem str_96 : isStr Tryd.prog 96 = false := by kernel_rfl
theorem cc_96 : isConc Tryd.prog 96 = true := by kernel_rfl
theorem und_96 : Tryd.prog.underlying 96 = some (.pointer 5) := by kernel_rfl
theorem kt_96 : kT Tryd.prog 96 = 2 := by kernel_rfl
theorem sz_99 : szOf Tryd.prog 99 = some 11 := by kernel_rfl
theorem row_99 : rowOf Tryd.prog 99 = some true := by kernel_rfl
theorem zero_99 : zeroOf Tryd.prog 99 = some [.int .u64 0, .int .u64 0, .int .u32 0, .int .u8 0, .int .u8 0, .int .u8 0, .int .u8 0, .nilFunc, .pointer none, .int .i32 0, .int .i32 0] := by kernel_rfl
theorem by_99 : bytesOf' Tryd.prog 99 = some 48 := by kernel_rfl
theorem str_99 : isStr Tryd.prog 99 = false := by kernel_rfl
theorem cc_99 : isConc Tryd.prog 99 = true := by kernel_rfl
theorem kt_99 : kT Tryd.prog 99 = 0 := by kernel_rfl
theorem pl_99 : placesOf Tryd.prog 99 = some [(0, 1), (1, 1), (2, 1), (3, 1), (4, 1), (5, 1), (6, 1), (7, 1), (8, 1), (9, 1), (10, 1)] := by kernel_rfl
theorem off_99_0 : offOf Tryd.prog 99 0 = some 0 := by kernel_rfl
theorem fld_99_0 : fldOf Tryd.prog 99 0 = some (0, 1, false) := by kernel_rfl
theorem off_99_1 : offOf Tryd.prog 99 1 = some 1 := by kernel_rfl
theorem fld_99_1 : fldOf Tryd.prog 99 1 = some (1, 1, false) := by kernel_rfl
theorem off_99_2 : offOf Tryd.prog 99 2 = some 2 := by kernel_rfl
theorem fld_99_2 : fldOf Tryd.prog 99 2 = some (2, 1, false) := by kernel_rfl
theorem off_99_3 : offOf Tryd.prog 99 3 = some 3 := by kernel_rfl
theorem fld_99_3 : fldOf Tryd.prog 99 3 = some (3, 1, false) := by kernel_rfl
theorem off_99_4 : offOf Tryd.prog 99 4 = some 4 := by kernel_rfl
theorem fld_99_4 : fldOf Tryd.prog 99 4 = some (4, 1, false) := by kernel_rfl
theorem off_99_5 : offOf Tryd.prog 99 5 = some 5 := by kernel_rfl
theorem fld_99_5 : fldOf Tryd.prog 99 5 = some (5, 1, false) := by kernel_rfl
theorem off_99_6 : offOf Tryd.prog 99 6 = some 6 := by kernel_rfl
theorem fld_99_6 : fldOf Tryd.prog 99 6 = some (6, 1, false) := by kernel_rfl
theorem off_99_7 : offOf Tryd.prog 99 7 = some 7 := by kernel_rfl
theorem fld_99_7 : fldOf Tryd.prog 99 7 = some (7, 1, false) := by kernel_rfl
theorem off_99_8 : offOf Tryd.prog 99 8 = some 8 := by kernel_rfl
theorem fld_99_8 : fldOf Tryd.prog 99 8 = some (8, 1, false) := by kernel_rfl
theorem off_99_9 : offOf Tryd.prog 99 9 = some 9 := by kernel_rfl
theorem fld_99_9 : fldOf Tryd.prog 99 9 = some (9, 1, false) := by kernel_rfl
theorem off_99_10 : offOf Tryd.prog 99 10 = some 10 := by kernel_rfl
theorem fld_99_10 : fldOf Tryd.prog 99 10 = some (10, 1, false) := by kernel_rfl
theorem sz_101 : szOf Tryd.prog 101 = some 1 := by kernel_rfl
theorem row_101 : rowOf Tryd.prog 101 = some false := by kernel_rfl
theorem zero_101 : zeroOf Tryd.prog 101 = some [.pointer none] := by kernel_rfl
theorem by_101 : bytesOf' Tryd.prog 101 = some 8 := by kernel_rfl
theorem str_101 : isStr Tryd.prog 101 = false := by kernel_rfl
theorem cc_101 : isConc Tryd.prog 101 = true := by kernel_rfl
theorem kt_101 : kT Tryd.prog 101 = 0 := by kernel_rfl
end Go.Proofs.YtkjkogmnijfanaaDoor
