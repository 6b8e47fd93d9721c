/- What the program's table of types says, a fact each. Printed by a program of the prover's. -/
import Derived.Test.YtpjlafmhoifkmaaGreatChecked
import Derived.Test.YtpjlafmhoifkmaaGreatU7
set_option linter.unusedVariables false
set_option linter.unusedSimpArgs false
namespace Go.Proofs.YtpjlafmhoifkmaaGreat
theorem kt_1 : kT Tryz.prog 1 = 3 := by kernel_rfl
theorem sz_1 : szOf Tryz.prog 1 = some 1 := by kernel_rfl
theorem row_1 : rowOf Tryz.prog 1 = some false := by kernel_rfl
theorem sz_2 : szOf Tryz.prog 2 = some 1 := by kernel_rfl
theorem row_2 : rowOf Tryz.prog 2 = some false := by kernel_rfl
theorem zero_2 : zeroOf Tryz.prog 2 = some [.int .i64 0] := by kernel_rfl
theorem by_2 : bytesOf' Tryz.prog 2 = some 8 := by kernel_rfl
theorem str_2 : isStr Tryz.prog 2 = false := by kernel_rfl
theorem kind_2 : kindOf' Tryz.prog 2 = some .i64 := by kernel_rfl
theorem cc_2 : isConc Tryz.prog 2 = true := by kernel_rfl
theorem kt_2 : kT Tryz.prog 2 = 0 := by kernel_rfl
theorem sz_3 : szOf Tryz.prog 3 = some 1 := by kernel_rfl
theorem row_3 : rowOf Tryz.prog 3 = some false := by kernel_rfl
theorem zero_3 : zeroOf Tryz.prog 3 = some [.int .i64 0] := by kernel_rfl
theorem by_3 : bytesOf' Tryz.prog 3 = some 8 := by kernel_rfl
theorem str_3 : isStr Tryz.prog 3 = false := by kernel_rfl
theorem kind_3 : kindOf' Tryz.prog 3 = some .i64 := by kernel_rfl
theorem cc_3 : isConc Tryz.prog 3 = true := by kernel_rfl
theorem kt_3 : kT Tryz.prog 3 = 0 := by kernel_rfl
theorem sz_4 : szOf Tryz.prog 4 = some 1 := by kernel_rfl
theorem row_4 : rowOf Tryz.prog 4 = some false := by kernel_rfl
theorem zero_4 : zeroOf Tryz.prog 4 = some [.bool false] := by kernel_rfl
theorem by_4 : bytesOf' Tryz.prog 4 = some 1 := by kernel_rfl
theorem str_4 : isStr Tryz.prog 4 = false := by kernel_rfl
theorem cc_4 : isConc Tryz.prog 4 = true := by kernel_rfl
theorem kt_4 : kT Tryz.prog 4 = 0 := by kernel_rfl
theorem sz_5 : szOf Tryz.prog 5 = some 1 := by kernel_rfl
theorem row_5 : rowOf Tryz.prog 5 = some false := by kernel_rfl
theorem zero_5 : zeroOf Tryz.prog 5 = some [.int .u8 0] := by kernel_rfl
theorem by_5 : bytesOf' Tryz.prog 5 = some 1 := by kernel_rfl
theorem str_5 : isStr Tryz.prog 5 = false := by kernel_rfl
theorem kind_5 : kindOf' Tryz.prog 5 = some .u8 := by kernel_rfl
theorem cc_5 : isConc Tryz.prog 5 = true := by kernel_rfl
theorem kt_5 : kT Tryz.prog 5 = 0 := by kernel_rfl
theorem sz_7 : szOf Tryz.prog 7 = some 4 := by kernel_rfl
theorem row_7 : rowOf Tryz.prog 7 = some true := by kernel_rfl
theorem zero_7 : zeroOf Tryz.prog 7 = some [.int .i64 0, .int .i64 0, .bool false, .int .u8 0] := by kernel_rfl
theorem by_7 : bytesOf' Tryz.prog 7 = some 24 := by kernel_rfl
theorem str_7 : isStr Tryz.prog 7 = false := by kernel_rfl
theorem cc_7 : isConc Tryz.prog 7 = true := by kernel_rfl
theorem kt_7 : kT Tryz.prog 7 = 0 := by kernel_rfl
theorem pl_7 : placesOf Tryz.prog 7 = some [(0, 1), (1, 1), (2, 1), (3, 1)] := by kernel_rfl
theorem off_7_0 : offOf Tryz.prog 7 0 = some 0 := by kernel_rfl
theorem fld_7_0 : fldOf Tryz.prog 7 0 = some (0, 1, false) := by kernel_rfl
theorem off_7_1 : offOf Tryz.prog 7 1 = some 1 := by kernel_rfl
theorem fld_7_1 : fldOf Tryz.prog 7 1 = some (1, 1, false) := by kernel_rfl
theorem off_7_2 : offOf Tryz.prog 7 2 = some 2 := by kernel_rfl
theorem fld_7_2 : fldOf Tryz.prog 7 2 = some (2, 1, false) := by kernel_rfl
theorem off_7_3 : offOf Tryz.prog 7 3 = some 3 := by kernel_rfl
theorem fld_7_3 : fldOf Tryz.prog 7 3 = some (3, 1, false) := by kernel_rfl
theorem sz_9 : szOf Tryz.prog 9 = some 1 := by kernel_rfl
theorem row_9 : rowOf Tryz.prog 9 = some false := by kernel_rfl
theorem zero_9 : zeroOf Tryz.prog 9 = some [.string ⟨#[]⟩] := by kernel_rfl
theorem by_9 : bytesOf' Tryz.prog 9 = some 16 := by kernel_rfl
theorem str_9 : isStr Tryz.prog 9 = true := by kernel_rfl
theorem bs_9 : isBytes Tryz.prog 9 = false := by kernel_rfl
theorem cc_9 : isConc Tryz.prog 9 = true := by kernel_rfl
theorem kt_9 : kT Tryz.prog 9 = 0 := by kernel_rfl
theorem sz_12 : szOf Tryz.prog 12 = some 1 := by kernel_rfl
theorem row_12 : rowOf Tryz.prog 12 = some false := by kernel_rfl
theorem zero_12 : zeroOf Tryz.prog 12 = some [.int .u64 0] := by kernel_rfl
theorem by_12 : bytesOf' Tryz.prog 12 = some 8 := by kernel_rfl
theorem str_12 : isStr Tryz.prog 12 = false := by kernel_rfl
theorem kind_12 : kindOf' Tryz.prog 12 = some .u64 := by kernel_rfl
theorem cc_12 : isConc Tryz.prog 12 = true := by kernel_rfl
theorem kt_12 : kT Tryz.prog 12 = 0 := by kernel_rfl
theorem sz_13 : szOf Tryz.prog 13 = some 2 := by kernel_rfl
theorem row_13 : rowOf Tryz.prog 13 = some true := by kernel_rfl
theorem zero_13 : zeroOf Tryz.prog 13 = some [.string ⟨#[]⟩, .int .u64 0] := by kernel_rfl
theorem by_13 : bytesOf' Tryz.prog 13 = some 24 := by kernel_rfl
theorem str_13 : isStr Tryz.prog 13 = false := by kernel_rfl
theorem cc_13 : isConc Tryz.prog 13 = true := by kernel_rfl
theorem kt_13 : kT Tryz.prog 13 = 0 := by kernel_rfl
theorem pl_13 : placesOf Tryz.prog 13 = some [(0, 1), (1, 1)] := by kernel_rfl
theorem off_13_0 : offOf Tryz.prog 13 0 = some 0 := by kernel_rfl
theorem fld_13_0 : fldOf Tryz.prog 13 0 = some (0, 1, false) := by kernel_rfl
theorem off_13_1 : offOf Tryz.prog 13 1 = some 1 := by kernel_rfl
theorem fld_13_1 : fldOf Tryz.prog 13 1 = some (1, 1, false) := by kernel_rfl
theorem sz_15 : szOf Tryz.prog 15 = some 1 := by kernel_rfl
theorem row_15 : rowOf Tryz.prog 15 = some false := by kernel_rfl
theorem zero_15 : zeroOf Tryz.prog 15 = some [.pointer none] := by kernel_rfl
theorem by_15 : bytesOf' Tryz.prog 15 = some 8 := by kernel_rfl
theorem str_15 : isStr Tryz.prog 15 = false := by kernel_rfl
theorem cc_15 : isConc Tryz.prog 15 = true := by kernel_rfl
theorem und_15 : Tryz.prog.underlying 15 = some (.pointer 143) := by kernel_rfl
theorem kt_15 : kT Tryz.prog 15 = 2 := by kernel_rfl
theorem sz_16 : szOf Tryz.prog 16 = some 1 := by kernel_rfl
theorem row_16 : rowOf Tryz.prog 16 = some false := by kernel_rfl
theorem zero_16 : zeroOf Tryz.prog 16 = some [.pointer none] := by kernel_rfl
theorem by_16 : bytesOf' Tryz.prog 16 = some 8 := by kernel_rfl
theorem str_16 : isStr Tryz.prog 16 = false := by kernel_rfl
theorem cc_16 : isConc Tryz.prog 16 = true := by kernel_rfl
theorem und_16 : Tryz.prog.underlying 16 = some (.pointer 146) := by kernel_rfl
theorem kt_16 : kT Tryz.prog 16 = 2 := by kernel_rfl
theorem sz_17 : szOf Tryz.prog 17 = some 1 := by kernel_rfl
theorem row_17 : rowOf Tryz.prog 17 = some false := by kernel_rfl
theorem zero_17 : zeroOf Tryz.prog 17 = some [.pointer none] := by kernel_rfl
theorem by_17 : bytesOf' Tryz.prog 17 = some 8 := by kernel_rfl
theorem str_17 : isStr Tryz.prog 17 = false := by kernel_rfl
theorem cc_17 : isConc Tryz.prog 17 = true := by kernel_rfl
theorem und_17 : Tryz.prog.underlying 17 = some (.pointer 155) := by kernel_rfl
theorem kt_17 : kT Tryz.prog 17 = 2 := by kernel_rfl
theorem sz_18 : szOf Tryz.prog 18 = some 1 := by kernel_rfl
theorem row_18 : rowOf Tryz.prog 18 = some true := by kernel_rfl
theorem zero_18 : zeroOf Tryz.prog 18 = some [.pointer none] := by kernel_rfl
theorem by_18 : bytesOf' Tryz.prog 18 = some 8 := by kernel_rfl
theorem str_18 : isStr Tryz.prog 18 = false := by kernel_rfl
theorem cc_18 : isConc Tryz.prog 18 = true := by kernel_rfl
theorem kt_18 : kT Tryz.prog 18 = 0 := by kernel_rfl
theorem pl_18 : placesOf Tryz.prog 18 = some [(0, 1)] := by kernel_rfl
theorem off_18_0 : offOf Tryz.prog 18 0 = some 0 := by kernel_rfl
theorem fld_18_0 : fldOf Tryz.prog 18 0 = some (0, 1, false) := by kernel_rfl
theorem sz_20 : szOf Tryz.prog 20 = some 1 := by kernel_rfl
theorem row_20 : rowOf Tryz.prog 20 = some false := by kernel_rfl
theorem zero_20 : zeroOf Tryz.prog 20 = some [.nilIface] := by kernel_rfl
theorem by_20 : bytesOf' Tryz.prog 20 = some 16 := by kernel_rfl
theorem str_20 : isStr Tryz.prog 20 = false := by kernel_rfl
theorem cc_20 : isConc Tryz.prog 20 = false := by kernel_rfl
theorem kt_20 : kT Tryz.prog 20 = 4 := by kernel_rfl
theorem sz_21 : szOf Tryz.prog 21 = some 1 := by kernel_rfl
theorem row_21 : rowOf Tryz.prog 21 = some false := by kernel_rfl
theorem zero_21 : zeroOf Tryz.prog 21 = some [.int .i32 0] := by kernel_rfl
theorem by_21 : bytesOf' Tryz.prog 21 = some 4 := by kernel_rfl
theorem str_21 : isStr Tryz.prog 21 = false := by kernel_rfl
theorem kind_21 : kindOf' Tryz.prog 21 = some .i32 := by kernel_rfl
theorem cc_21 : isConc Tryz.prog 21 = true := by kernel_rfl
theorem kt_21 : kT Tryz.prog 21 = 0 := by kernel_rfl
theorem sz_22 : szOf Tryz.prog 22 = some 3 := by kernel_rfl
theorem row_22 : rowOf Tryz.prog 22 = some true := by kernel_rfl
theorem zero_22 : zeroOf Tryz.prog 22 = some [.int .i64 0, .bool false, .bool false] := by kernel_rfl
theorem by_22 : bytesOf' Tryz.prog 22 = some 16 := by kernel_rfl
theorem str_22 : isStr Tryz.prog 22 = false := by kernel_rfl
theorem cc_22 : isConc Tryz.prog 22 = true := by kernel_rfl
theorem kt_22 : kT Tryz.prog 22 = 0 := by kernel_rfl
theorem pl_22 : placesOf Tryz.prog 22 = some [(0, 1), (1, 1), (2, 1)] := by kernel_rfl
theorem off_22_0 : offOf Tryz.prog 22 0 = some 0 := by kernel_rfl
theorem fld_22_0 : fldOf Tryz.prog 22 0 = some (0, 1, false) := by kernel_rfl
theorem off_22_1 : offOf Tryz.prog 22 1 = some 1 := by kernel_rfl
theorem fld_22_1 : fldOf Tryz.prog 22 1 = some (1, 1, false) := by kernel_rfl
theorem off_22_2 : offOf Tryz.prog 22 2 = some 2 := by kernel_rfl
theorem fld_22_2 : fldOf Tryz.prog 22 2 = some (2, 1, false) := by kernel_rfl
theorem sz_23 : szOf Tryz.prog 23 = some 3 := by kernel_rfl
theorem row_23 : rowOf Tryz.prog 23 = some true := by kernel_rfl
theorem zero_23 : zeroOf Tryz.prog 23 = some [.int .i64 0, .bool false, .bool false] := by kernel_rfl
theorem by_23 : bytesOf' Tryz.prog 23 = some 16 := by kernel_rfl
theorem str_23 : isStr Tryz.prog 23 = false := by kernel_rfl
theorem cc_23 : isConc Tryz.prog 23 = true := by kernel_rfl
theorem kt_23 : kT Tryz.prog 23 = 0 := by kernel_rfl
theorem pl_23 : placesOf Tryz.prog 23 = some [(0, 1), (1, 1), (2, 1)] := by kernel_rfl
theorem off_23_0 : offOf Tryz.prog 23 0 = some 0 := by kernel_rfl
theorem fld_23_0 : fldOf Tryz.prog 23 0 = some (0, 1, false) := by kernel_rfl
theorem off_23_1 : offOf Tryz.prog 23 1 = some 1 := by kernel_rfl
theorem fld_23_1 : fldOf Tryz.prog 23 1 = some (1, 1, false) := by kernel_rfl
theorem off_23_2 : offOf Tryz.prog 23 2 = some 2 := by kernel_rfl
theorem fld_23_2 : fldOf Tryz.prog 23 2 = some (2, 1, false) := by kernel_rfl
theorem sz_24 : szOf Tryz.prog 24 = some 1 := by kernel_rfl
theorem row_24 : rowOf Tryz.prog 24 = some false := by kernel_rfl
theorem zero_24 : zeroOf Tryz.prog 24 = some [.int .u64 0] := by kernel_rfl
theorem by_24 : bytesOf' Tryz.prog 24 = some 8 := by kernel_rfl
theorem str_24 : isStr Tryz.prog 24 = false := by kernel_rfl
theorem kind_24 : kindOf' Tryz.prog 24 = some .u64 := by kernel_rfl
theorem cc_24 : isConc Tryz.prog 24 = true := by kernel_rfl
theorem kt_24 : kT Tryz.prog 24 = 0 := by kernel_rfl
theorem kt_25 : kT Tryz.prog 25 = 3 := by kernel_rfl
theorem sz_25 : szOf Tryz.prog 25 = some 1 := by kernel_rfl
theorem row_25 : rowOf Tryz.prog 25 = some false := by kernel_rfl
theorem sz_26 : szOf Tryz.prog 26 = some 10 := by kernel_rfl
theorem row_26 : rowOf Tryz.prog 26 = some true := by kernel_rfl
theorem zero_26 : zeroOf Tryz.prog 26 = some [.int .i64 0, .bool false, .bool false, .int .i64 0, .int .i64 0, .int .i64 0, .int .i64 0, .int .i64 0, .int .i64 0, .int .i64 0] := by kernel_rfl
theorem by_26 : bytesOf' Tryz.prog 26 = some 72 := by kernel_rfl
theorem str_26 : isStr Tryz.prog 26 = false := by kernel_rfl
theorem cc_26 : isConc Tryz.prog 26 = true := by kernel_rfl
theorem kt_26 : kT Tryz.prog 26 = 0 := by kernel_rfl
theorem pl_26 : placesOf Tryz.prog 26 = some [(0, 1), (1, 1), (2, 1), (3, 1), (4, 1), (5, 1), (6, 1), (7, 1), (8, 1), (9, 1)] := by kernel_rfl
theorem off_26_0 : offOf Tryz.prog 26 0 = some 0 := by kernel_rfl
theorem fld_26_0 : fldOf Tryz.prog 26 0 = some (0, 1, false) := by kernel_rfl
theorem off_26_1 : offOf Tryz.prog 26 1 = some 1 := by kernel_rfl
theorem fld_26_1 : fldOf Tryz.prog 26 1 = some (1, 1, false) := by kernel_rfl
theorem off_26_2 : offOf Tryz.prog 26 2 = some 2 := by kernel_rfl
theorem fld_26_2 : fldOf Tryz.prog 26 2 = some (2, 1, false) := by kernel_rfl
theorem off_26_3 : offOf Tryz.prog 26 3 = some 3 := by kernel_rfl
theorem fld_26_3 : fldOf Tryz.prog 26 3 = some (3, 1, false) := by kernel_rfl
theorem off_26_4 : offOf Tryz.prog 26 4 = some 4 := by kernel_rfl
theorem fld_26_4 : fldOf Tryz.prog 26 4 = some (4, 1, false) := by kernel_rfl
theorem off_26_5 : offOf Tryz.prog 26 5 = some 5 := by kernel_rfl
theorem fld_26_5 : fldOf Tryz.prog 26 5 = some (5, 1, false) := by kernel_rfl
theorem off_26_6 : offOf Tryz.prog 26 6 = some 6 := by kernel_rfl
theorem fld_26_6 : fldOf Tryz.prog 26 6 = some (6, 1, false) := by kernel_rfl
theorem off_26_7 : offOf Tryz.prog 26 7 = some 7 := by kernel_rfl
theorem fld_26_7 : fldOf Tryz.prog 26 7 = some (7, 1, false) := by kernel_rfl
theorem off_26_8 : offOf Tryz.prog 26 8 = some 8 := by kernel_rfl
theorem fld_26_8 : fldOf Tryz.prog 26 8 = some (8, 1, false) := by kernel_rfl
theorem off_26_9 : offOf Tryz.prog 26 9 = some 9 := by kernel_rfl
theorem fld_26_9 : fldOf Tryz.prog 26 9 = some (9, 1, false) := by kernel_rfl
theorem sz_27 : szOf Tryz.prog 27 = some 10 := by kernel_rfl
theorem row_27 : rowOf Tryz.prog 27 = some true := by kernel_rfl
theorem zero_27 : zeroOf Tryz.prog 27 = some [.int .i64 0, .bool false, .bool false, .int .i64 0, .int .i64 0, .int .i64 0, .int .i64 0, .int .i64 0, .int .i64 0, .int .i64 0] := by kernel_rfl
theorem by_27 : bytesOf' Tryz.prog 27 = some 72 := by kernel_rfl
theorem str_27 : isStr Tryz.prog 27 = false := by kernel_rfl
theorem cc_27 : isConc Tryz.prog 27 = true := by kernel_rfl
theorem kt_27 : kT Tryz.prog 27 = 0 := by kernel_rfl
theorem pl_27 : placesOf Tryz.prog 27 = some [(0, 1), (1, 1), (2, 1), (3, 1), (4, 1), (5, 1), (6, 1), (7, 1), (8, 1), (9, 1)] := by kernel_rfl
theorem off_27_0 : offOf Tryz.prog 27 0 = some 0 := by kernel_rfl
theorem fld_27_0 : fldOf Tryz.prog 27 0 = some (0, 1, false) := by kernel_rfl
theorem off_27_1 : offOf Tryz.prog 27 1 = some 1 := by kernel_rfl
theorem fld_27_1 : fldOf Tryz.prog 27 1 = some (1, 1, false) := by kernel_rfl
theorem off_27_2 : offOf Tryz.prog 27 2 = some 2 := by kernel_rfl
theorem fld_27_2 : fldOf Tryz.prog 27 2 = some (2, 1, false) := by kernel_rfl
theorem off_27_3 : offOf Tryz.prog 27 3 = some 3 := by kernel_rfl
theorem fld_27_3 : fldOf Tryz.prog 27 3 = some (3, 1, false) := by kernel_rfl
theorem off_27_4 : offOf Tryz.prog 27 4 = some 4 := by kernel_rfl
theorem fld_27_4 : fldOf Tryz.prog 27 4 = some (4, 1, false) := by kernel_rfl
theorem off_27_5 : offOf Tryz.prog 27 5 = some 5 := by kernel_rfl
theorem fld_27_5 : fldOf Tryz.prog 27 5 = some (5, 1, false) := by kernel_rfl
theorem off_27_6 : offOf Tryz.prog 27 6 = some 6 := by kernel_rfl
theorem fld_27_6 : fldOf Tryz.prog 27 6 = some (6, 1, false) := by kernel_rfl
theorem off_27_7 : offOf Tryz.prog 27 7 = some 7 := by kernel_rfl
theorem fld_27_7 : fldOf Tryz.prog 27 7 = some (7, 1, false) := by kernel_rfl
theorem off_27_8 : offOf Tryz.prog 27 8 = some 8 := by kernel_rfl
theorem fld_27_8 : fldOf Tryz.prog 27 8 = some (8, 1, false) := by kernel_rfl
theorem off_27_9 : offOf Tryz.prog 27 9 = some 9 := by kernel_rfl
theorem fld_27_9 : fldOf Tryz.prog 27 9 = some (9, 1, false) := by kernel_rfl
theorem sz_28 : szOf Tryz.prog 28 = some 1 := by kernel_rfl
theorem row_28 : rowOf Tryz.prog 28 = some false := by kernel_rfl
theorem zero_28 : zeroOf Tryz.prog 28 = some [.int .i64 0] := by kernel_rfl
theorem by_28 : bytesOf' Tryz.prog 28 = some 8 := by kernel_rfl
theorem str_28 : isStr Tryz.prog 28 = false := by kernel_rfl
theorem kind_28 : kindOf' Tryz.prog 28 = some .i64 := by kernel_rfl
theorem cc_28 : isConc Tryz.prog 28 = true := by kernel_rfl
theorem kt_28 : kT Tryz.prog 28 = 0 := by kernel_rfl
theorem kt_30 : kT Tryz.prog 30 = 3 := by kernel_rfl
theorem sz_30 : szOf Tryz.prog 30 = some 1 := by kernel_rfl
theorem row_30 : rowOf Tryz.prog 30 = some false := by kernel_rfl
theorem sz_31 : szOf Tryz.prog 31 = some 1 := by kernel_rfl
theorem row_31 : rowOf Tryz.prog 31 = some false := by kernel_rfl
theorem zero_31 : zeroOf Tryz.prog 31 = some [.slice none 0 0] := by kernel_rfl
theorem by_31 : bytesOf' Tryz.prog 31 = some 24 := by kernel_rfl
theorem el_31 : elOf Tryz.prog 31 = some 40 := by kernel_rfl
theorem str_31 : isStr Tryz.prog 31 = false := by kernel_rfl
theorem bs_31 : isBytes Tryz.prog 31 = false := by kernel_rfl
theorem cc_31 : isConc Tryz.prog 31 = true := by kernel_rfl
theorem und_31 : Tryz.prog.underlying 31 = some (.slice 40) := by kernel_rfl
theorem kt_31 : kT Tryz.prog 31 = 1 := by kernel_rfl
theorem sz_32 : szOf Tryz.prog 32 = some 2 := by kernel_rfl
theorem row_32 : rowOf Tryz.prog 32 = some true := by kernel_rfl
theorem zero_32 : zeroOf Tryz.prog 32 = some [.string ⟨#[]⟩, .slice none 0 0] := by kernel_rfl
theorem by_32 : bytesOf' Tryz.prog 32 = some 40 := by kernel_rfl
theorem str_32 : isStr Tryz.prog 32 = false := by kernel_rfl
theorem cc_32 : isConc Tryz.prog 32 = true := by kernel_rfl
theorem kt_32 : kT Tryz.prog 32 = 0 := by kernel_rfl
theorem pl_32 : placesOf Tryz.prog 32 = some [(0, 1), (1, 1)] := by kernel_rfl
theorem off_32_0 : offOf Tryz.prog 32 0 = some 0 := by kernel_rfl
theorem fld_32_0 : fldOf Tryz.prog 32 0 = some (0, 1, false) := by kernel_rfl
theorem off_32_1 : offOf Tryz.prog 32 1 = some 1 := by kernel_rfl
theorem fld_32_1 : fldOf Tryz.prog 32 1 = some (1, 1, false) := by kernel_rfl
theorem sz_33 : szOf Tryz.prog 33 = some 2 := by kernel_rfl
theorem row_33 : rowOf Tryz.prog 33 = some true := by kernel_rfl
theorem zero_33 : zeroOf Tryz.prog 33 = some [.string ⟨#[]⟩, .slice none 0 0] := by kernel_rfl
theorem by_33 : bytesOf' Tryz.prog 33 = some 40 := by kernel_rfl
theorem str_33 : isStr Tryz.prog 33 = false := by kernel_rfl
theorem cc_33 : isConc Tryz.prog 33 = true := by kernel_rfl
theorem kt_33 : kT Tryz.prog 33 = 0 := by kernel_rfl
theorem pl_33 : placesOf Tryz.prog 33 = some [(0, 1), (1, 1)] := by kernel_rfl
theorem off_33_0 : offOf Tryz.prog 33 0 = some 0 := by kernel_rfl
theorem fld_33_0 : fldOf Tryz.prog 33 0 = some (0, 1, false) := by kernel_rfl
theorem off_33_1 : offOf Tryz.prog 33 1 = some 1 := by kernel_rfl
theorem fld_33_1 : fldOf Tryz.prog 33 1 = some (1, 1, false) := by kernel_rfl
theorem kt_35 : kT Tryz.prog 35 = 3 := by kernel_rfl
theorem sz_35 : szOf Tryz.prog 35 = some 1 := by kernel_rfl
theorem row_35 : rowOf Tryz.prog 35 = some false := by kernel_rfl
theorem kt_36 : kT Tryz.prog 36 = 3 := by kernel_rfl
theorem sz_36 : szOf Tryz.prog 36 = some 1 := by kernel_rfl
theorem row_36 : rowOf Tryz.prog 36 = some false := by kernel_rfl
theorem sz_37 : szOf Tryz.prog 37 = some 3 := by kernel_rfl
theorem row_37 : rowOf Tryz.prog 37 = some true := by kernel_rfl
theorem zero_37 : zeroOf Tryz.prog 37 = some [.int .i64 0, .string ⟨#[]⟩, .string ⟨#[]⟩] := by kernel_rfl
theorem by_37 : bytesOf' Tryz.prog 37 = some 40 := by kernel_rfl
theorem str_37 : isStr Tryz.prog 37 = false := by kernel_rfl
theorem cc_37 : isConc Tryz.prog 37 = true := by kernel_rfl
theorem kt_37 : kT Tryz.prog 37 = 0 := by kernel_rfl
theorem pl_37 : placesOf Tryz.prog 37 = some [(0, 1), (1, 1), (2, 1)] := by kernel_rfl
theorem off_37_0 : offOf Tryz.prog 37 0 = some 0 := by kernel_rfl
theorem fld_37_0 : fldOf Tryz.prog 37 0 = some (0, 1, false) := by kernel_rfl
theorem off_37_1 : offOf Tryz.prog 37 1 = some 1 := by kernel_rfl
theorem fld_37_1 : fldOf Tryz.prog 37 1 = some (1, 1, false) := by kernel_rfl
theorem off_37_2 : offOf Tryz.prog 37 2 = some 2 := by kernel_rfl
theorem fld_37_2 : fldOf Tryz.prog 37 2 = some (2, 1, false) := by kernel_rfl
theorem sz_38 : szOf Tryz.prog 38 = some 3 := by kernel_rfl
theorem row_38 : rowOf Tryz.prog 38 = some true := by kernel_rfl
theorem zero_38 : zeroOf Tryz.prog 38 = some [.int .i64 0, .string ⟨#[]⟩, .string ⟨#[]⟩] := by kernel_rfl
theorem by_38 : bytesOf' Tryz.prog 38 = some 40 := by kernel_rfl
theorem str_38 : isStr Tryz.prog 38 = false := by kernel_rfl
theorem cc_38 : isConc Tryz.prog 38 = true := by kernel_rfl
theorem kt_38 : kT Tryz.prog 38 = 0 := by kernel_rfl
theorem pl_38 : placesOf Tryz.prog 38 = some [(0, 1), (1, 1), (2, 1)] := by kernel_rfl
theorem off_38_0 : offOf Tryz.prog 38 0 = some 0 := by kernel_rfl
theorem fld_38_0 : fldOf Tryz.prog 38 0 = some (0, 1, false) := by kernel_rfl
theorem off_38_1 : offOf Tryz.prog 38 1 = some 1 := by kernel_rfl
theorem fld_38_1 : fldOf Tryz.prog 38 1 = some (1, 1, false) := by kernel_rfl
theorem off_38_2 : offOf Tryz.prog 38 2 = some 2 := by kernel_rfl
theorem fld_38_2 : fldOf Tryz.prog 38 2 = some (2, 1, false) := by kernel_rfl
theorem sz_39 : szOf Tryz.prog 39 = some 15 := by kernel_rfl
theorem row_39 : rowOf Tryz.prog 39 = some true := by kernel_rfl
theorem zero_39 : zeroOf Tryz.prog 39 = some [.int .i64 0, .int .i64 0, .bool false, .bool false, .int .i64 0, .bool false, .bool false, .int .i64 0, .int .i64 0, .int .i64 0, .int .i64 0, .string ⟨#[]⟩, .string ⟨#[]⟩, .bool false, .int .i64 0] := by kernel_rfl
theorem by_39 : bytesOf' Tryz.prog 39 = some 120 := by kernel_rfl
theorem str_39 : isStr Tryz.prog 39 = false := by kernel_rfl
theorem cc_39 : isConc Tryz.prog 39 = true := by kernel_rfl
theorem kt_39 : kT Tryz.prog 39 = 0 := by kernel_rfl
theorem pl_39 : placesOf Tryz.prog 39 = some [(0, 1), (1, 3), (4, 3), (7, 1), (8, 1), (9, 1), (10, 3), (13, 1), (14, 1)] := by kernel_rfl
theorem off_39_0 : offOf Tryz.prog 39 0 = some 0 := by kernel_rfl
theorem fld_39_0 : fldOf Tryz.prog 39 0 = some (0, 1, false) := by kernel_rfl
theorem off_39_1 : offOf Tryz.prog 39 1 = some 1 := by kernel_rfl
theorem fld_39_1 : fldOf Tryz.prog 39 1 = some (1, 3, true) := by kernel_rfl
theorem off_39_2 : offOf Tryz.prog 39 2 = some 4 := by kernel_rfl
theorem fld_39_2 : fldOf Tryz.prog 39 2 = some (4, 3, true) := by kernel_rfl
theorem off_39_3 : offOf Tryz.prog 39 3 = some 7 := by kernel_rfl
theorem fld_39_3 : fldOf Tryz.prog 39 3 = some (7, 1, false) := by kernel_rfl
theorem off_39_4 : offOf Tryz.prog 39 4 = some 8 := by kernel_rfl
theorem fld_39_4 : fldOf Tryz.prog 39 4 = some (8, 1, false) := by kernel_rfl
theorem off_39_5 : offOf Tryz.prog 39 5 = some 9 := by kernel_rfl
theorem fld_39_5 : fldOf Tryz.prog 39 5 = some (9, 1, false) := by kernel_rfl
theorem off_39_6 : offOf Tryz.prog 39 6 = some 10 := by kernel_rfl
theorem fld_39_6 : fldOf Tryz.prog 39 6 = some (10, 3, true) := by kernel_rfl
theorem off_39_7 : offOf Tryz.prog 39 7 = some 13 := by kernel_rfl
theorem fld_39_7 : fldOf Tryz.prog 39 7 = some (13, 1, false) := by kernel_rfl
theorem off_39_8 : offOf Tryz.prog 39 8 = some 14 := by kernel_rfl
theorem fld_39_8 : fldOf Tryz.prog 39 8 = some (14, 1, false) := by kernel_rfl
theorem sz_40 : szOf Tryz.prog 40 = some 15 := by kernel_rfl
theorem row_40 : rowOf Tryz.prog 40 = some true := by kernel_rfl
theorem zero_40 : zeroOf Tryz.prog 40 = some [.int .i64 0, .int .i64 0, .bool false, .bool false, .int .i64 0, .bool false, .bool false, .int .i64 0, .int .i64 0, .int .i64 0, .int .i64 0, .string ⟨#[]⟩, .string ⟨#[]⟩, .bool false, .int .i64 0] := by kernel_rfl
theorem by_40 : bytesOf' Tryz.prog 40 = some 120 := by kernel_rfl
theorem str_40 : isStr Tryz.prog 40 = false := by kernel_rfl
theorem cc_40 : isConc Tryz.prog 40 = true := by kernel_rfl
theorem kt_40 : kT Tryz.prog 40 = 0 := by kernel_rfl
theorem pl_40 : placesOf Tryz.prog 40 = some [(0, 1), (1, 3), (4, 3), (7, 1), (8, 1), (9, 1), (10, 3), (13, 1), (14, 1)] := by kernel_rfl
theorem off_40_0 : offOf Tryz.prog 40 0 = some 0 := by kernel_rfl
theorem fld_40_0 : fldOf Tryz.prog 40 0 = some (0, 1, false) := by kernel_rfl
theorem off_40_1 : offOf Tryz.prog 40 1 = some 1 := by kernel_rfl
theorem fld_40_1 : fldOf Tryz.prog 40 1 = some (1, 3, true) := by kernel_rfl
theorem off_40_2 : offOf Tryz.prog 40 2 = some 4 := by kernel_rfl
theorem fld_40_2 : fldOf Tryz.prog 40 2 = some (4, 3, true) := by kernel_rfl
theorem off_40_3 : offOf Tryz.prog 40 3 = some 7 := by kernel_rfl
theorem fld_40_3 : fldOf Tryz.prog 40 3 = some (7, 1, false) := by kernel_rfl
theorem off_40_4 : offOf Tryz.prog 40 4 = some 8 := by kernel_rfl
theorem fld_40_4 : fldOf Tryz.prog 40 4 = some (8, 1, false) := by kernel_rfl
theorem off_40_5 : offOf Tryz.prog 40 5 = some 9 := by kernel_rfl
theorem fld_40_5 : fldOf Tryz.prog 40 5 = some (9, 1, false) := by kernel_rfl
theorem off_40_6 : offOf Tryz.prog 40 6 = some 10 := by kernel_rfl
theorem fld_40_6 : fldOf Tryz.prog 40 6 = some (10, 3, true) := by kernel_rfl
theorem off_40_7 : offOf Tryz.prog 40 7 = some 13 := by kernel_rfl
theorem fld_40_7 : fldOf Tryz.prog 40 7 = some (13, 1, false) := by kernel_rfl
theorem off_40_8 : offOf Tryz.prog 40 8 = some 14 := by kernel_rfl
theorem fld_40_8 : fldOf Tryz.prog 40 8 = some (14, 1, false) := by kernel_rfl
theorem kt_41 : kT Tryz.prog 41 = 3 := by kernel_rfl
theorem sz_41 : szOf Tryz.prog 41 = some 1 := by kernel_rfl
theorem row_41 : rowOf Tryz.prog 41 = some false := by kernel_rfl
theorem kt_43 : kT Tryz.prog 43 = 3 := by kernel_rfl
theorem sz_43 : szOf Tryz.prog 43 = some 1 := by kernel_rfl
theorem row_43 : rowOf Tryz.prog 43 = some false := by kernel_rfl
theorem kt_44 : kT Tryz.prog 44 = 3 := by kernel_rfl
theorem sz_44 : szOf Tryz.prog 44 = some 1 := by kernel_rfl
theorem row_44 : rowOf Tryz.prog 44 = some false := by kernel_rfl
theorem kt_45 : kT Tryz.prog 45 = 3 := by kernel_rfl
theorem sz_45 : szOf Tryz.prog 45 = some 1 := by kernel_rfl
theorem row_45 : rowOf Tryz.prog 45 = some false := by kernel_rfl
theorem kt_46 : kT Tryz.prog 46 = 3 := by kernel_rfl
theorem sz_46 : szOf Tryz.prog 46 = some 1 := by kernel_rfl
theorem row_46 : rowOf Tryz.prog 46 = some false := by kernel_rfl
theorem kt_47 : kT Tryz.prog 47 = 3 := by kernel_rfl
theorem sz_47 : szOf Tryz.prog 47 = some 1 := by kernel_rfl
theorem row_47 : rowOf Tryz.prog 47 = some false := by kernel_rfl
theorem kt_49 : kT Tryz.prog 49 = 3 := by kernel_rfl
theorem sz_49 : szOf Tryz.prog 49 = some 1 := by kernel_rfl
theorem row_49 : rowOf Tryz.prog 49 = some false := by kernel_rfl
theorem kt_50 : kT Tryz.prog 50 = 3 := by kernel_rfl
theorem sz_50 : szOf Tryz.prog 50 = some 1 := by kernel_rfl
theorem row_50 : rowOf Tryz.prog 50 = some false := by kernel_rfl
theorem kt_52 : kT Tryz.prog 52 = 3 := by kernel_rfl
theorem sz_52 : szOf Tryz.prog 52 = some 1 := by kernel_rfl
theorem row_52 : rowOf Tryz.prog 52 = some false := by kernel_rfl
theorem kt_54 : kT Tryz.prog 54 = 3 := by kernel_rfl
theorem sz_54 : szOf Tryz.prog 54 = some 1 := by kernel_rfl
theorem row_54 : rowOf Tryz.prog 54 = some false := by kernel_rfl
theorem kt_55 : kT Tryz.prog 55 = 3 := by kernel_rfl
theorem sz_55 : szOf Tryz.prog 55 = some 1 := by kernel_rfl
theorem row_55 : rowOf Tryz.prog 55 = some false := by kernel_rfl
theorem kt_57 : kT Tryz.prog 57 = 3 := by kernel_rfl
theorem sz_57 : szOf Tryz.prog 57 = some 1 := by kernel_rfl
theorem row_57 : rowOf Tryz.prog 57 = some false := by kernel_rfl
theorem kt_58 : kT Tryz.prog 58 = 3 := by kernel_rfl
theorem sz_58 : szOf Tryz.prog 58 = some 1 := by kernel_rfl
theorem row_58 : rowOf Tryz.prog 58 = some false := by kernel_rfl
theorem kt_59 : kT Tryz.prog 59 = 3 := by kernel_rfl
theorem sz_59 : szOf Tryz.prog 59 = some 1 := by kernel_rfl
theorem row_59 : rowOf Tryz.prog 59 = some false := by kernel_rfl
theorem kt_60 : kT Tryz.prog 60 = 3 := by kernel_rfl
theorem sz_60 : szOf Tryz.prog 60 = some 1 := by kernel_rfl
theorem row_60 : rowOf Tryz.prog 60 = some false := by kernel_rfl
theorem kt_61 : kT Tryz.prog 61 = 3 := by kernel_rfl
theorem sz_61 : szOf Tryz.prog 61 = some 1 := by kernel_rfl
theorem row_61 : rowOf Tryz.prog 61 = some false := by kernel_rfl
theorem kt_62 : kT Tryz.prog 62 = 3 := by kernel_rfl
theorem sz_62 : szOf Tryz.prog 62 = some 1 := by kernel_rfl
theorem row_62 : rowOf Tryz.prog 62 = some false := by kernel_rfl
theorem kt_64 : kT Tryz.prog 64 = 3 := by kernel_rfl
theorem sz_64 : szOf Tryz.prog 64 = some 1 := by kernel_rfl
theorem row_64 : rowOf Tryz.prog 64 = some false := by kernel_rfl
theorem sz_65 : szOf Tryz.prog 65 = some 1 := by kernel_rfl
theorem row_65 : rowOf Tryz.prog 65 = some false := by kernel_rfl
theorem zero_65 : zeroOf Tryz.prog 65 = some [.int .u64 0] := by kernel_rfl
theorem by_65 : bytesOf' Tryz.prog 65 = some 8 := by kernel_rfl
theorem str_65 : isStr Tryz.prog 65 = false := by kernel_rfl
theorem kind_65 : kindOf' Tryz.prog 65 = some .u64 := by kernel_rfl
theorem cc_65 : isConc Tryz.prog 65 = true := by kernel_rfl
theorem kt_65 : kT Tryz.prog 65 = 0 := by kernel_rfl
theorem sz_66 : szOf Tryz.prog 66 = some 1 := by kernel_rfl
theorem row_66 : rowOf Tryz.prog 66 = some false := by kernel_rfl
theorem zero_66 : zeroOf Tryz.prog 66 = some [.pointer none] := by kernel_rfl
theorem by_66 : bytesOf' Tryz.prog 66 = some 8 := by kernel_rfl
theorem str_66 : isStr Tryz.prog 66 = false := by kernel_rfl
theorem cc_66 : isConc Tryz.prog 66 = true := by kernel_rfl
theorem und_66 : Tryz.prog.underlying 66 = some (.pointer 68) := by kernel_rfl
theorem kt_66 : kT Tryz.prog 66 = 2 := by kernel_rfl
theorem sz_67 : szOf Tryz.prog 67 = some 12 := by kernel_rfl
theorem row_67 : rowOf Tryz.prog 67 = some true := by kernel_rfl
theorem zero_67 : zeroOf Tryz.prog 67 = some [.int .i64 0, .bool false, .bool false, .int .i64 0, .int .i64 0, .int .i64 0, .int .i64 0, .int .i64 0, .int .i64 0, .int .i64 0, .string ⟨#[]⟩, .slice none 0 0] := by kernel_rfl
theorem by_67 : bytesOf' Tryz.prog 67 = some 112 := by kernel_rfl
theorem str_67 : isStr Tryz.prog 67 = false := by kernel_rfl
theorem cc_67 : isConc Tryz.prog 67 = true := by kernel_rfl
theorem kt_67 : kT Tryz.prog 67 = 0 := by kernel_rfl
theorem pl_67 : placesOf Tryz.prog 67 = some [(0, 10), (10, 2)] := by kernel_rfl
theorem off_67_0 : offOf Tryz.prog 67 0 = some 0 := by kernel_rfl
theorem fld_67_0 : fldOf Tryz.prog 67 0 = some (0, 10, true) := by kernel_rfl
theorem off_67_1 : offOf Tryz.prog 67 1 = some 10 := by kernel_rfl
theorem fld_67_1 : fldOf Tryz.prog 67 1 = some (10, 2, true) := by kernel_rfl
theorem sz_68 : szOf Tryz.prog 68 = some 12 := by kernel_rfl
theorem row_68 : rowOf Tryz.prog 68 = some true := by kernel_rfl
theorem zero_68 : zeroOf Tryz.prog 68 = some [.int .i64 0, .bool false, .bool false, .int .i64 0, .int .i64 0, .int .i64 0, .int .i64 0, .int .i64 0, .int .i64 0, .int .i64 0, .string ⟨#[]⟩, .slice none 0 0] := by kernel_rfl
theorem by_68 : bytesOf' Tryz.prog 68 = some 112 := by kernel_rfl
theorem str_68 : isStr Tryz.prog 68 = false := by kernel_rfl
theorem cc_68 : isConc Tryz.prog 68 = true := by kernel_rfl
theorem kt_68 : kT Tryz.prog 68 = 0 := by kernel_rfl
theorem pl_68 : placesOf Tryz.prog 68 = some [(0, 10), (10, 2)] := by kernel_rfl
theorem off_68_0 : offOf Tryz.prog 68 0 = some 0 := by kernel_rfl
theorem fld_68_0 : fldOf Tryz.prog 68 0 = some (0, 10, true) := by kernel_rfl
theorem off_68_1 : offOf Tryz.prog 68 1 = some 10 := by kernel_rfl
theorem fld_68_1 : fldOf Tryz.prog 68 1 = some (10, 2, true) := by kernel_rfl
theorem kt_69 : kT Tryz.prog 69 = 3 := by kernel_rfl
theorem sz_69 : szOf Tryz.prog 69 = some 1 := by kernel_rfl
theorem row_69 : rowOf Tryz.prog 69 = some false := by kernel_rfl
theorem sz_70 : szOf Tryz.prog 70 = some 1 := by kernel_rfl
theorem row_70 : rowOf Tryz.prog 70 = some false := by kernel_rfl
theorem zero_70 : zeroOf Tryz.prog 70 = some [.slice none 0 0] := by kernel_rfl
theorem by_70 : bytesOf' Tryz.prog 70 = some 24 := by kernel_rfl
theorem el_70 : elOf Tryz.prog 70 = some 75 := by kernel_rfl
theorem str_70 : isStr Tryz.prog 70 = false := by kernel_rfl
theorem bs_70 : isBytes Tryz.prog 70 = false := by kernel_rfl
theorem cc_70 : isConc Tryz.prog 70 = true := by kernel_rfl
theorem und_70 : Tryz.prog.underlying 70 = some (.slice 75) := by kernel_rfl
theorem kt_70 : kT Tryz.prog 70 = 1 := by kernel_rfl
theorem kt_71 : kT Tryz.prog 71 = 3 := by kernel_rfl
theorem sz_71 : szOf Tryz.prog 71 = some 1 := by kernel_rfl
theorem row_71 : rowOf Tryz.prog 71 = some false := by kernel_rfl
theorem kt_73 : kT Tryz.prog 73 = 3 := by kernel_rfl
theorem sz_73 : szOf Tryz.prog 73 = some 1 := by kernel_rfl
theorem row_73 : rowOf Tryz.prog 73 = some false := by kernel_rfl
theorem sz_74 : szOf Tryz.prog 74 = some 3 := by kernel_rfl
theorem row_74 : rowOf Tryz.prog 74 = some true := by kernel_rfl
theorem zero_74 : zeroOf Tryz.prog 74 = some [.int .i64 0, .int .i64 0, .int .i64 0] := by kernel_rfl
theorem by_74 : bytesOf' Tryz.prog 74 = some 24 := by kernel_rfl
theorem str_74 : isStr Tryz.prog 74 = false := by kernel_rfl
theorem cc_74 : isConc Tryz.prog 74 = true := by kernel_rfl
theorem kt_74 : kT Tryz.prog 74 = 0 := by kernel_rfl
theorem pl_74 : placesOf Tryz.prog 74 = some [(0, 1), (1, 1), (2, 1)] := by kernel_rfl
theorem off_74_0 : offOf Tryz.prog 74 0 = some 0 := by kernel_rfl
theorem fld_74_0 : fldOf Tryz.prog 74 0 = some (0, 1, false) := by kernel_rfl
theorem off_74_1 : offOf Tryz.prog 74 1 = some 1 := by kernel_rfl
theorem fld_74_1 : fldOf Tryz.prog 74 1 = some (1, 1, false) := by kernel_rfl
theorem off_74_2 : offOf Tryz.prog 74 2 = some 2 := by kernel_rfl
theorem fld_74_2 : fldOf Tryz.prog 74 2 = some (2, 1, false) := by kernel_rfl
theorem sz_75 : szOf Tryz.prog 75 = some 3 := by kernel_rfl
theorem row_75 : rowOf Tryz.prog 75 = some true := by kernel_rfl
theorem zero_75 : zeroOf Tryz.prog 75 = some [.int .i64 0, .int .i64 0, .int .i64 0] := by kernel_rfl
theorem by_75 : bytesOf' Tryz.prog 75 = some 24 := by kernel_rfl
theorem str_75 : isStr Tryz.prog 75 = false := by kernel_rfl
theorem cc_75 : isConc Tryz.prog 75 = true := by kernel_rfl
theorem kt_75 : kT Tryz.prog 75 = 0 := by kernel_rfl
theorem pl_75 : placesOf Tryz.prog 75 = some [(0, 1), (1, 1), (2, 1)] := by kernel_rfl
theorem off_75_0 : offOf Tryz.prog 75 0 = some 0 := by kernel_rfl
theorem fld_75_0 : fldOf Tryz.prog 75 0 = some (0, 1, false) := by kernel_rfl
theorem off_75_1 : offOf Tryz.prog 75 1 = some 1 := by kernel_rfl
theorem fld_75_1 : fldOf Tryz.prog 75 1 = some (1, 1, false) := by kernel_rfl
theorem off_75_2 : offOf Tryz.prog 75 2 = some 2 := by kernel_rfl
theorem fld_75_2 : fldOf Tryz.prog 75 2 = some (2, 1, false) := by kernel_rfl
theorem kt_76 : kT Tryz.prog 76 = 3 := by kernel_rfl
theorem sz_76 : szOf Tryz.prog 76 = some 1 := by kernel_rfl
theorem row_76 : rowOf Tryz.prog 76 = some false := by kernel_rfl
theorem sz_77 : szOf Tryz.prog 77 = some 1 := by kernel_rfl
theorem row_77 : rowOf Tryz.prog 77 = some false := by kernel_rfl
theorem zero_77 : zeroOf Tryz.prog 77 = some [.slice none 0 0] := by kernel_rfl
theorem by_77 : bytesOf' Tryz.prog 77 = some 24 := by kernel_rfl
theorem el_77 : elOf Tryz.prog 77 = some 9 := by kernel_rfl
theorem str_77 : isStr Tryz.prog 77 = false := by kernel_rfl
theorem bs_77 : isBytes Tryz.prog 77 = false := by kernel_rfl
theorem cc_77 : isConc Tryz.prog 77 = true := by kernel_rfl
theorem und_77 : Tryz.prog.underlying 77 = some (.slice 9) := by kernel_rfl
theorem kt_77 : kT Tryz.prog 77 = 1 := by kernel_rfl
theorem kt_78 : kT Tryz.prog 78 = 3 := by kernel_rfl
theorem sz_78 : szOf Tryz.prog 78 = some 1 := by kernel_rfl
theorem row_78 : rowOf Tryz.prog 78 = some false := by kernel_rfl
theorem kt_79 : kT Tryz.prog 79 = 3 := by kernel_rfl
theorem sz_79 : szOf Tryz.prog 79 = some 1 := by kernel_rfl
theorem row_79 : rowOf Tryz.prog 79 = some false := by kernel_rfl
theorem kt_80 : kT Tryz.prog 80 = 3 := by kernel_rfl
theorem sz_80 : szOf Tryz.prog 80 = some 1 := by kernel_rfl
theorem row_80 : rowOf Tryz.prog 80 = some false := by kernel_rfl
theorem kt_81 : kT Tryz.prog 81 = 3 := by kernel_rfl
theorem sz_81 : szOf Tryz.prog 81 = some 1 := by kernel_rfl
theorem row_81 : rowOf Tryz.prog 81 = some false := by kernel_rfl
theorem kt_82 : kT Tryz.prog 82 = 3 := by kernel_rfl
theorem sz_82 : szOf Tryz.prog 82 = some 1 := by kernel_rfl
theorem row_82 : rowOf Tryz.prog 82 = some false := by kernel_rfl
theorem kt_83 : kT Tryz.prog 83 = 3 := by kernel_rfl
theorem sz_83 : szOf Tryz.prog 83 = some 1 := by kernel_rfl
theorem row_83 : rowOf Tryz.prog 83 = some false := by kernel_rfl
theorem kt_84 : kT Tryz.prog 84 = 3 := by kernel_rfl
theorem sz_84 : szOf Tryz.prog 84 = some 1 := by kernel_rfl
theorem row_84 : rowOf Tryz.prog 84 = some false := by kernel_rfl
theorem kt_85 : kT Tryz.prog 85 = 3 := by kernel_rfl
theorem sz_85 : szOf Tryz.prog 85 = some 1 := by kernel_rfl
theorem row_85 : rowOf Tryz.prog 85 = some false := by kernel_rfl
theorem kt_86 : kT Tryz.prog 86 = 3 := by kernel_rfl
theorem sz_86 : szOf Tryz.prog 86 = some 1 := by kernel_rfl
theorem row_86 : rowOf Tryz.prog 86 = some false := by kernel_rfl
theorem kt_87 : kT Tryz.prog 87 = 3 := by kernel_rfl
theorem sz_87 : szOf Tryz.prog 87 = some 1 := by kernel_rfl
theorem row_87 : rowOf Tryz.prog 87 = some false := by kernel_rfl
theorem sz_88 : szOf Tryz.prog 88 = some 3 := by kernel_rfl
theorem row_88 : rowOf Tryz.prog 88 = some true := by kernel_rfl
theorem zero_88 : zeroOf Tryz.prog 88 = some [.int .u8 0, .int .u8 0, .int .u8 0] := by kernel_rfl
theorem by_88 : bytesOf' Tryz.prog 88 = some 3 := by kernel_rfl
theorem str_88 : isStr Tryz.prog 88 = false := by kernel_rfl
theorem cc_88 : isConc Tryz.prog 88 = true := by kernel_rfl
theorem und_88 : Tryz.prog.underlying 88 = some (.array 3 5) := by kernel_rfl
theorem kt_88 : kT Tryz.prog 88 = 0 := by kernel_rfl
theorem asz_88 : arrSz Tryz.prog 88 = some 1 := by kernel_rfl
theorem pl_88 : placesOf Tryz.prog 88 = none := by kernel_rfl
theorem arr_88 : arrOf Tryz.prog 88 = some (3, 1) := by kernel_rfl
theorem sz_89 : szOf Tryz.prog 89 = some 1 := by kernel_rfl
theorem row_89 : rowOf Tryz.prog 89 = some false := by kernel_rfl
theorem zero_89 : zeroOf Tryz.prog 89 = some [.slice none 0 0] := by kernel_rfl
theorem by_89 : bytesOf' Tryz.prog 89 = some 24 := by kernel_rfl
theorem el_89 : elOf Tryz.prog 89 = some 5 := by kernel_rfl
theorem str_89 : isStr Tryz.prog 89 = false := by kernel_rfl
theorem bs_89 : isBytes Tryz.prog 89 = true := by kernel_rfl
theorem cc_89 : isConc Tryz.prog 89 = true := by kernel_rfl
theorem und_89 : Tryz.prog.underlying 89 = some (.slice 5) := by kernel_rfl
theorem kt_89 : kT Tryz.prog 89 = 1 := by kernel_rfl
theorem sz_90 : szOf Tryz.prog 90 = some 3 := by kernel_rfl
theorem row_90 : rowOf Tryz.prog 90 = some true := by kernel_rfl
theorem zero_90 : zeroOf Tryz.prog 90 = some [.int .i64 0, .int .i64 0, .int .i64 0] := by kernel_rfl
theorem by_90 : bytesOf' Tryz.prog 90 = some 24 := by kernel_rfl
theorem str_90 : isStr Tryz.prog 90 = false := by kernel_rfl
theorem cc_90 : isConc Tryz.prog 90 = true := by kernel_rfl
theorem kt_90 : kT Tryz.prog 90 = 0 := by kernel_rfl
theorem pl_90 : placesOf Tryz.prog 90 = some [(0, 1), (1, 1), (2, 1)] := by kernel_rfl
theorem off_90_0 : offOf Tryz.prog 90 0 = some 0 := by kernel_rfl
theorem fld_90_0 : fldOf Tryz.prog 90 0 = some (0, 1, false) := by kernel_rfl
theorem off_90_1 : offOf Tryz.prog 90 1 = some 1 := by kernel_rfl
theorem fld_90_1 : fldOf Tryz.prog 90 1 = some (1, 1, false) := by kernel_rfl
theorem off_90_2 : offOf Tryz.prog 90 2 = some 2 := by kernel_rfl
theorem fld_90_2 : fldOf Tryz.prog 90 2 = some (2, 1, false) := by kernel_rfl
theorem sz_91 : szOf Tryz.prog 91 = some 3 := by kernel_rfl
theorem row_91 : rowOf Tryz.prog 91 = some true := by kernel_rfl
theorem zero_91 : zeroOf Tryz.prog 91 = some [.int .i64 0, .int .i64 0, .int .i64 0] := by kernel_rfl
theorem by_91 : bytesOf' Tryz.prog 91 = some 24 := by kernel_rfl
theorem str_91 : isStr Tryz.prog 91 = false := by kernel_rfl
theorem cc_91 : isConc Tryz.prog 91 = true := by kernel_rfl
theorem kt_91 : kT Tryz.prog 91 = 0 := by kernel_rfl
theorem pl_91 : placesOf Tryz.prog 91 = some [(0, 1), (1, 1), (2, 1)] := by kernel_rfl
theorem off_91_0 : offOf Tryz.prog 91 0 = some 0 := by kernel_rfl
theorem fld_91_0 : fldOf Tryz.prog 91 0 = some (0, 1, false) := by kernel_rfl
theorem off_91_1 : offOf Tryz.prog 91 1 = some 1 := by kernel_rfl
theorem fld_91_1 : fldOf Tryz.prog 91 1 = some (1, 1, false) := by kernel_rfl
theorem off_91_2 : offOf Tryz.prog 91 2 = some 2 := by kernel_rfl
theorem fld_91_2 : fldOf Tryz.prog 91 2 = some (2, 1, false) := by kernel_rfl
theorem kt_93 : kT Tryz.prog 93 = 3 := by kernel_rfl
theorem sz_93 : szOf Tryz.prog 93 = some 1 := by kernel_rfl
theorem row_93 : rowOf Tryz.prog 93 = some false := by kernel_rfl
theorem kt_95 : kT Tryz.prog 95 = 3 := by kernel_rfl
theorem sz_95 : szOf Tryz.prog 95 = some 1 := by kernel_rfl
theorem row_95 : rowOf Tryz.prog 95 = some false := by kernel_rfl
theorem kt_96 : kT Tryz.prog 96 = 3 := by kernel_rfl
theorem sz_96 : szOf Tryz.prog 96 = some 1 := by kernel_rfl
theorem row_96 : rowOf Tryz.prog 96 = some false := by kernel_rfl
theorem kt_97 : kT Tryz.prog 97 = 3 := by kernel_rfl
theorem sz_97 : szOf Tryz.prog 97 = some 1 := by kernel_rfl
theorem row_97 : rowOf Tryz.prog 97 = some false := by kernel_rfl
theorem sz_98 : szOf Tryz.prog 98 = some 1 := by kernel_rfl
theorem row_98 : rowOf Tryz.prog 98 = some false := by kernel_rfl
theorem zero_98 : zeroOf Tryz.prog 98 = some [.slice none 0 0] := by kernel_rfl
theorem by_98 : bytesOf' Tryz.prog 98 = some 24 := by kernel_rfl
theorem el_98 : elOf Tryz.prog 98 = some 1 := by kernel_rfl
theorem str_98 : isStr Tryz.prog 98 = false := by kernel_rfl
theorem bs_98 : isBytes Tryz.prog 98 = false := by kernel_rfl
theorem cc_98 : isConc Tryz.prog 98 = true := by kernel_rfl
theorem und_98 : Tryz.prog.underlying 98 = some (.slice 1) := by kernel_rfl
theorem kt_98 : kT Tryz.prog 98 = 1 := by kernel_rfl
theorem sz_99 : szOf Tryz.prog 99 = some 1 := by kernel_rfl
theorem row_99 : rowOf Tryz.prog 99 = some false := by kernel_rfl
theorem zero_99 : zeroOf Tryz.prog 99 = some [.pointer none] := by kernel_rfl
theorem by_99 : bytesOf' Tryz.prog 99 = some 8 := by kernel_rfl
theorem str_99 : isStr Tryz.prog 99 = false := by kernel_rfl
theorem cc_99 : isConc Tryz.prog 99 = true := by kernel_rfl
theorem und_99 : Tryz.prog.underlying 99 = some (.pointer 40) := by kernel_rfl
theorem kt_99 : kT Tryz.prog 99 = 2 := by kernel_rfl
theorem kt_100 : kT Tryz.prog 100 = 3 := by kernel_rfl
theorem sz_100 : szOf Tryz.prog 100 = some 1 := by kernel_rfl
theorem row_100 : rowOf Tryz.prog 100 = some false := by kernel_rfl
theorem kt_101 : kT Tryz.prog 101 = 3 := by kernel_rfl
theorem sz_101 : szOf Tryz.prog 101 = some 1 := by kernel_rfl
theorem row_101 : rowOf Tryz.prog 101 = some false := by kernel_rfl
theorem kt_102 : kT Tryz.prog 102 = 3 := by kernel_rfl
theorem sz_102 : szOf Tryz.prog 102 = some 1 := by kernel_rfl
theorem row_102 : rowOf Tryz.prog 102 = some false := by kernel_rfl
theorem kt_103 : kT Tryz.prog 103 = 3 := by kernel_rfl
theorem sz_103 : szOf Tryz.prog 103 = some 1 := by kernel_rfl
theorem row_103 : rowOf Tryz.prog 103 = some false := by kernel_rfl
theorem kt_104 : kT Tryz.prog 104 = 3 := by kernel_rfl
theorem sz_104 : szOf Tryz.prog 104 = some 1 := by kernel_rfl
theorem row_104 : rowOf Tryz.prog 104 = some false := by kernel_rfl
theorem kt_105 : kT Tryz.prog 105 = 3 := by kernel_rfl
theorem sz_105 : szOf Tryz.prog 105 = some 1 := by kernel_rfl
theorem row_105 : rowOf Tryz.prog 105 = some false := by kernel_rfl
theorem kt_106 : kT Tryz.prog 106 = 3 := by kernel_rfl
theorem sz_106 : szOf Tryz.prog 106 = some 1 := by kernel_rfl
theorem row_106 : rowOf Tryz.prog 106 = some false := by kernel_rfl
theorem kt_107 : kT Tryz.prog 107 = 3 := by kernel_rfl
theorem sz_107 : szOf Tryz.prog 107 = some 1 := by kernel_rfl
theorem row_107 : rowOf Tryz.prog 107 = some false := by kernel_rfl
theorem sz_108 : szOf Tryz.prog 108 = some 1 := by kernel_rfl
theorem row_108 : rowOf Tryz.prog 108 = some false := by kernel_rfl
theorem zero_108 : zeroOf Tryz.prog 108 = some [.slice none 0 0] := by kernel_rfl
theorem by_108 : bytesOf' Tryz.prog 108 = some 24 := by kernel_rfl
theorem el_108 : elOf Tryz.prog 108 = some 111 := by kernel_rfl
theorem str_108 : isStr Tryz.prog 108 = false := by kernel_rfl
theorem bs_108 : isBytes Tryz.prog 108 = false := by kernel_rfl
theorem cc_108 : isConc Tryz.prog 108 = true := by kernel_rfl
theorem und_108 : Tryz.prog.underlying 108 = some (.slice 111) := by kernel_rfl
theorem kt_108 : kT Tryz.prog 108 = 1 := by kernel_rfl
theorem kt_109 : kT Tryz.prog 109 = 3 := by kernel_rfl
theorem sz_109 : szOf Tryz.prog 109 = some 1 := by kernel_rfl
theorem row_109 : rowOf Tryz.prog 109 = some false := by kernel_rfl
theorem sz_110 : szOf Tryz.prog 110 = some 2 := by kernel_rfl
theorem row_110 : rowOf Tryz.prog 110 = some true := by kernel_rfl
theorem zero_110 : zeroOf Tryz.prog 110 = some [.string ⟨#[]⟩, .int .i64 0] := by kernel_rfl
theorem by_110 : bytesOf' Tryz.prog 110 = some 24 := by kernel_rfl
theorem str_110 : isStr Tryz.prog 110 = false := by kernel_rfl
theorem cc_110 : isConc Tryz.prog 110 = true := by kernel_rfl
theorem kt_110 : kT Tryz.prog 110 = 0 := by kernel_rfl
theorem pl_110 : placesOf Tryz.prog 110 = some [(0, 1), (1, 1)] := by kernel_rfl
theorem off_110_0 : offOf Tryz.prog 110 0 = some 0 := by kernel_rfl
theorem fld_110_0 : fldOf Tryz.prog 110 0 = some (0, 1, false) := by kernel_rfl
theorem off_110_1 : offOf Tryz.prog 110 1 = some 1 := by kernel_rfl
theorem fld_110_1 : fldOf Tryz.prog 110 1 = some (1, 1, false) := by kernel_rfl
theorem sz_111 : szOf Tryz.prog 111 = some 2 := by kernel_rfl
theorem row_111 : rowOf Tryz.prog 111 = some true := by kernel_rfl
theorem zero_111 : zeroOf Tryz.prog 111 = some [.string ⟨#[]⟩, .int .i64 0] := by kernel_rfl
theorem by_111 : bytesOf' Tryz.prog 111 = some 24 := by kernel_rfl
theorem str_111 : isStr Tryz.prog 111 = false := by kernel_rfl
theorem cc_111 : isConc Tryz.prog 111 = true := by kernel_rfl
theorem kt_111 : kT Tryz.prog 111 = 0 := by kernel_rfl
theorem pl_111 : placesOf Tryz.prog 111 = some [(0, 1), (1, 1)] := by kernel_rfl
theorem off_111_0 : offOf Tryz.prog 111 0 = some 0 := by kernel_rfl
theorem fld_111_0 : fldOf Tryz.prog 111 0 = some (0, 1, false) := by kernel_rfl
theorem off_111_1 : offOf Tryz.prog 111 1 = some 1 := by kernel_rfl
theorem fld_111_1 : fldOf Tryz.prog 111 1 = some (1, 1, false) := by kernel_rfl
theorem kt_112 : kT Tryz.prog 112 = 3 := by kernel_rfl
theorem sz_112 : szOf Tryz.prog 112 = some 1 := by kernel_rfl
theorem row_112 : rowOf Tryz.prog 112 = some false := by kernel_rfl
theorem kt_113 : kT Tryz.prog 113 = 3 := by kernel_rfl
theorem sz_113 : szOf Tryz.prog 113 = some 1 := by kernel_rfl
theorem row_113 : rowOf Tryz.prog 113 = some false := by kernel_rfl
theorem sz_114 : szOf Tryz.prog 114 = some 1 := by kernel_rfl
theorem row_114 : rowOf Tryz.prog 114 = some false := by kernel_rfl
theorem zero_114 : zeroOf Tryz.prog 114 = some [.nilFunc] := by kernel_rfl
theorem by_114 : bytesOf' Tryz.prog 114 = some 8 := by kernel_rfl
theorem str_114 : isStr Tryz.prog 114 = false := by kernel_rfl
theorem cc_114 : isConc Tryz.prog 114 = true := by kernel_rfl
theorem kt_114 : kT Tryz.prog 114 = 3 := by kernel_rfl
theorem kt_115 : kT Tryz.prog 115 = 3 := by kernel_rfl
theorem sz_115 : szOf Tryz.prog 115 = some 1 := by kernel_rfl
theorem row_115 : rowOf Tryz.prog 115 = some false := by kernel_rfl
theorem kt_116 : kT Tryz.prog 116 = 3 := by kernel_rfl
theorem sz_116 : szOf Tryz.prog 116 = some 1 := by kernel_rfl
theorem row_116 : rowOf Tryz.prog 116 = some false := by kernel_rfl
theorem kt_117 : kT Tryz.prog 117 = 3 := by kernel_rfl
theorem sz_117 : szOf Tryz.prog 117 = some 1 := by kernel_rfl
theorem row_117 : rowOf Tryz.prog 117 = some false := by kernel_rfl
theorem sz_118 : szOf Tryz.prog 118 = some 1 := by kernel_rfl
theorem row_118 : rowOf Tryz.prog 118 = some false := by kernel_rfl
theorem zero_118 : zeroOf Tryz.prog 118 = some [.slice none 0 0] := by kernel_rfl
theorem by_118 : bytesOf' Tryz.prog 118 = some 24 := by kernel_rfl
theorem el_118 : elOf Tryz.prog 118 = some 2 := by kernel_rfl
theorem str_118 : isStr Tryz.prog 118 = false := by kernel_rfl
theorem bs_118 : isBytes Tryz.prog 118 = false := by kernel_rfl
theorem cc_118 : isConc Tryz.prog 118 = true := by kernel_rfl
theorem und_118 : Tryz.prog.underlying 118 = some (.slice 2) := by kernel_rfl
theorem kt_118 : kT Tryz.prog 118 = 1 := by kernel_rfl
theorem kt_119 : kT Tryz.prog 119 = 3 := by kernel_rfl
theorem sz_119 : szOf Tryz.prog 119 = some 1 := by kernel_rfl
theorem row_119 : rowOf Tryz.prog 119 = some false := by kernel_rfl
theorem sz_120 : szOf Tryz.prog 120 = some 1 := by kernel_rfl
theorem row_120 : rowOf Tryz.prog 120 = some false := by kernel_rfl
theorem zero_120 : zeroOf Tryz.prog 120 = some [.nilFunc] := by kernel_rfl
theorem by_120 : bytesOf' Tryz.prog 120 = some 8 := by kernel_rfl
theorem str_120 : isStr Tryz.prog 120 = false := by kernel_rfl
theorem cc_120 : isConc Tryz.prog 120 = true := by kernel_rfl
theorem kt_120 : kT Tryz.prog 120 = 3 := by kernel_rfl
theorem kt_121 : kT Tryz.prog 121 = 3 := by kernel_rfl
theorem sz_121 : szOf Tryz.prog 121 = some 1 := by kernel_rfl
theorem row_121 : rowOf Tryz.prog 121 = some false := by kernel_rfl
theorem kt_122 : kT Tryz.prog 122 = 3 := by kernel_rfl
theorem sz_122 : szOf Tryz.prog 122 = some 1 := by kernel_rfl
theorem row_122 : rowOf Tryz.prog 122 = some false := by kernel_rfl
theorem sz_123 : szOf Tryz.prog 123 = some 1 := by kernel_rfl
theorem row_123 : rowOf Tryz.prog 123 = some false := by kernel_rfl
theorem zero_123 : zeroOf Tryz.prog 123 = some [.slice none 0 0] := by kernel_rfl
theorem by_123 : bytesOf' Tryz.prog 123 = some 24 := by kernel_rfl
theorem el_123 : elOf Tryz.prog 123 = some 126 := by kernel_rfl
theorem str_123 : isStr Tryz.prog 123 = false := by kernel_rfl
theorem bs_123 : isBytes Tryz.prog 123 = false := by kernel_rfl
theorem cc_123 : isConc Tryz.prog 123 = true := by kernel_rfl
theorem und_123 : Tryz.prog.underlying 123 = some (.slice 126) := by kernel_rfl
theorem kt_123 : kT Tryz.prog 123 = 1 := by kernel_rfl
theorem kt_124 : kT Tryz.prog 124 = 3 := by kernel_rfl
theorem sz_124 : szOf Tryz.prog 124 = some 1 := by kernel_rfl
theorem row_124 : rowOf Tryz.prog 124 = some false := by kernel_rfl
theorem sz_125 : szOf Tryz.prog 125 = some 2 := by kernel_rfl
theorem row_125 : rowOf Tryz.prog 125 = some true := by kernel_rfl
theorem zero_125 : zeroOf Tryz.prog 125 = some [.string ⟨#[]⟩, .int .i64 0] := by kernel_rfl
theorem by_125 : bytesOf' Tryz.prog 125 = some 24 := by kernel_rfl
theorem str_125 : isStr Tryz.prog 125 = false := by kernel_rfl
theorem cc_125 : isConc Tryz.prog 125 = true := by kernel_rfl
theorem kt_125 : kT Tryz.prog 125 = 0 := by kernel_rfl
theorem pl_125 : placesOf Tryz.prog 125 = some [(0, 1), (1, 1)] := by kernel_rfl
theorem off_125_0 : offOf Tryz.prog 125 0 = some 0 := by kernel_rfl
theorem fld_125_0 : fldOf Tryz.prog 125 0 = some (0, 1, false) := by kernel_rfl
theorem off_125_1 : offOf Tryz.prog 125 1 = some 1 := by kernel_rfl
theorem fld_125_1 : fldOf Tryz.prog 125 1 = some (1, 1, false) := by kernel_rfl
theorem sz_126 : szOf Tryz.prog 126 = some 2 := by kernel_rfl
theorem row_126 : rowOf Tryz.prog 126 = some true := by kernel_rfl
theorem zero_126 : zeroOf Tryz.prog 126 = some [.string ⟨#[]⟩, .int .i64 0] := by kernel_rfl
theorem by_126 : bytesOf' Tryz.prog 126 = some 24 := by kernel_rfl
theorem str_126 : isStr Tryz.prog 126 = false := by kernel_rfl
theorem cc_126 : isConc Tryz.prog 126 = true := by kernel_rfl
theorem kt_126 : kT Tryz.prog 126 = 0 := by kernel_rfl
theorem pl_126 : placesOf Tryz.prog 126 = some [(0, 1), (1, 1)] := by kernel_rfl
theorem off_126_0 : offOf Tryz.prog 126 0 = some 0 := by kernel_rfl
theorem fld_126_0 : fldOf Tryz.prog 126 0 = some (0, 1, false) := by kernel_rfl
theorem off_126_1 : offOf Tryz.prog 126 1 = some 1 := by kernel_rfl
theorem fld_126_1 : fldOf Tryz.prog 126 1 = some (1, 1, false) := by kernel_rfl
theorem kt_127 : kT Tryz.prog 127 = 3 := by kernel_rfl
theorem sz_127 : szOf Tryz.prog 127 = some 1 := by kernel_rfl
theorem row_127 : rowOf Tryz.prog 127 = some false := by kernel_rfl
theorem sz_128 : szOf Tryz.prog 128 = some 2 := by kernel_rfl
theorem row_128 : rowOf Tryz.prog 128 = some true := by kernel_rfl
theorem zero_128 : zeroOf Tryz.prog 128 = some [.int .i64 0, .int .i64 0] := by kernel_rfl
theorem by_128 : bytesOf' Tryz.prog 128 = some 16 := by kernel_rfl
theorem str_128 : isStr Tryz.prog 128 = false := by kernel_rfl
theorem cc_128 : isConc Tryz.prog 128 = true := by kernel_rfl
theorem und_128 : Tryz.prog.underlying 128 = some (.array 2 3) := by kernel_rfl
theorem kt_128 : kT Tryz.prog 128 = 0 := by kernel_rfl
theorem asz_128 : arrSz Tryz.prog 128 = some 1 := by kernel_rfl
theorem pl_128 : placesOf Tryz.prog 128 = none := by kernel_rfl
theorem arr_128 : arrOf Tryz.prog 128 = some (2, 1) := by kernel_rfl
theorem sz_129 : szOf Tryz.prog 129 = some 8 := by kernel_rfl
theorem row_129 : rowOf Tryz.prog 129 = some true := by kernel_rfl
theorem zero_129 : zeroOf Tryz.prog 129 = some [.int .i64 0, .int .i64 0, .int .i64 0, .int .i64 0, .int .i64 0, .int .i64 0, .int .i64 0, .int .i64 0] := by kernel_rfl
theorem by_129 : bytesOf' Tryz.prog 129 = some 64 := by kernel_rfl
theorem str_129 : isStr Tryz.prog 129 = false := by kernel_rfl
theorem cc_129 : isConc Tryz.prog 129 = true := by kernel_rfl
theorem und_129 : Tryz.prog.underlying 129 = some (.array 4 128) := by kernel_rfl
theorem kt_129 : kT Tryz.prog 129 = 0 := by kernel_rfl
theorem asz_129 : arrSz Tryz.prog 129 = some 2 := by kernel_rfl
theorem pl_129 : placesOf Tryz.prog 129 = none := by kernel_rfl
theorem arr_129 : arrOf Tryz.prog 129 = some (4, 2) := by kernel_rfl
theorem kt_130 : kT Tryz.prog 130 = 3 := by kernel_rfl
theorem sz_130 : szOf Tryz.prog 130 = some 1 := by kernel_rfl
theorem row_130 : rowOf Tryz.prog 130 = some false := by kernel_rfl
theorem sz_131 : szOf Tryz.prog 131 = some 1 := by kernel_rfl
theorem row_131 : rowOf Tryz.prog 131 = some false := by kernel_rfl
theorem zero_131 : zeroOf Tryz.prog 131 = some [.slice none 0 0] := by kernel_rfl
theorem by_131 : bytesOf' Tryz.prog 131 = some 24 := by kernel_rfl
theorem el_131 : elOf Tryz.prog 131 = some 3 := by kernel_rfl
theorem str_131 : isStr Tryz.prog 131 = false := by kernel_rfl
theorem bs_131 : isBytes Tryz.prog 131 = false := by kernel_rfl
theorem cc_131 : isConc Tryz.prog 131 = true := by kernel_rfl
theorem und_131 : Tryz.prog.underlying 131 = some (.slice 3) := by kernel_rfl
theorem kt_131 : kT Tryz.prog 131 = 1 := by kernel_rfl
theorem kt_132 : kT Tryz.prog 132 = 3 := by kernel_rfl
theorem sz_132 : szOf Tryz.prog 132 = some 1 := by kernel_rfl
theorem row_132 : rowOf Tryz.prog 132 = some false := by kernel_rfl
theorem kt_133 : kT Tryz.prog 133 = 3 := by kernel_rfl
theorem sz_133 : szOf Tryz.prog 133 = some 1 := by kernel_rfl
theorem row_133 : rowOf Tryz.prog 133 = some false := by kernel_rfl
theorem kt_134 : kT Tryz.prog 134 = 3 := by kernel_rfl
theorem sz_134 : szOf Tryz.prog 134 = some 1 := by kernel_rfl
theorem row_134 : rowOf Tryz.prog 134 = some false := by kernel_rfl
theorem kt_135 : kT Tryz.prog 135 = 3 := by kernel_rfl
theorem sz_135 : szOf Tryz.prog 135 = some 1 := by kernel_rfl
theorem row_135 : rowOf Tryz.prog 135 = some false := by kernel_rfl
theorem kt_136 : kT Tryz.prog 136 = 3 := by kernel_rfl
theorem sz_136 : szOf Tryz.prog 136 = some 1 := by kernel_rfl
theorem row_136 : rowOf Tryz.prog 136 = some false := by kernel_rfl
theorem kt_137 : kT Tryz.prog 137 = 3 := by kernel_rfl
theorem sz_137 : szOf Tryz.prog 137 = some 1 := by kernel_rfl
theorem row_137 : rowOf Tryz.prog 137 = some false := by kernel_rfl
theorem kt_138 : kT Tryz.prog 138 = 3 := by kernel_rfl
theorem sz_138 : szOf Tryz.prog 138 = some 1 := by kernel_rfl
theorem row_138 : rowOf Tryz.prog 138 = some false := by kernel_rfl
theorem kt_139 : kT Tryz.prog 139 = 3 := by kernel_rfl
theorem sz_139 : szOf Tryz.prog 139 = some 1 := by kernel_rfl
theorem row_139 : rowOf Tryz.prog 139 = some false := by kernel_rfl
theorem kt_140 : kT Tryz.prog 140 = 3 := by kernel_rfl
theorem sz_140 : szOf Tryz.prog 140 = some 1 := by kernel_rfl
theorem row_140 : rowOf Tryz.prog 140 = some false := by kernel_rfl
theorem kt_141 : kT Tryz.prog 141 = 3 := by kernel_rfl
theorem sz_141 : szOf Tryz.prog 141 = some 1 := by kernel_rfl
theorem row_141 : rowOf Tryz.prog 141 = some false := by kernel_rfl
theorem sz_142 : szOf Tryz.prog 142 = some 4 := by kernel_rfl
theorem row_142 : rowOf Tryz.prog 142 = some true := by kernel_rfl
theorem zero_142 : zeroOf Tryz.prog 142 = some [.pointer none, .pointer none, .pointer none, .string ⟨#[]⟩] := by kernel_rfl
theorem by_142 : bytesOf' Tryz.prog 142 = some 40 := by kernel_rfl
theorem str_142 : isStr Tryz.prog 142 = false := by kernel_rfl
theorem cc_142 : isConc Tryz.prog 142 = true := by kernel_rfl
theorem kt_142 : kT Tryz.prog 142 = 0 := by kernel_rfl
theorem pl_142 : placesOf Tryz.prog 142 = some [(0, 1), (1, 1), (2, 1), (3, 1)] := by kernel_rfl
theorem off_142_0 : offOf Tryz.prog 142 0 = some 0 := by kernel_rfl
theorem fld_142_0 : fldOf Tryz.prog 142 0 = some (0, 1, false) := by kernel_rfl
theorem off_142_1 : offOf Tryz.prog 142 1 = some 1 := by kernel_rfl
theorem fld_142_1 : fldOf Tryz.prog 142 1 = some (1, 1, false) := by kernel_rfl
theorem off_142_2 : offOf Tryz.prog 142 2 = some 2 := by kernel_rfl
theorem fld_142_2 : fldOf Tryz.prog 142 2 = some (2, 1, false) := by kernel_rfl
theorem off_142_3 : offOf Tryz.prog 142 3 = some 3 := by kernel_rfl
theorem fld_142_3 : fldOf Tryz.prog 142 3 = some (3, 1, false) := by kernel_rfl
theorem sz_144 : szOf Tryz.prog 144 = some 0 := by kernel_rfl
theorem row_144 : rowOf Tryz.prog 144 = some true := by kernel_rfl
theorem by_144 : bytesOf' Tryz.prog 144 = some 0 := by kernel_rfl
theorem str_144 : isStr Tryz.prog 144 = false := by kernel_rfl
theorem cc_144 : isConc Tryz.prog 144 = true := by kernel_rfl
theorem und_144 : Tryz.prog.underlying 144 = some (.array 0 16) := by kernel_rfl
theorem kt_144 : kT Tryz.prog 144 = 0 := by kernel_rfl
theorem asz_144 : arrSz Tryz.prog 144 = some 1 := by kernel_rfl
theorem pl_144 : placesOf Tryz.prog 144 = none := by kernel_rfl
theorem sz_145 : szOf Tryz.prog 145 = some 0 := by kernel_rfl
theorem row_145 : rowOf Tryz.prog 145 = some true := by kernel_rfl
theorem by_145 : bytesOf' Tryz.prog 145 = some 0 := by kernel_rfl
theorem str_145 : isStr Tryz.prog 145 = false := by kernel_rfl
theorem cc_145 : isConc Tryz.prog 145 = true := by kernel_rfl
theorem kt_145 : kT Tryz.prog 145 = 0 := by kernel_rfl
theorem pl_145 : placesOf Tryz.prog 145 = some [(0, 0)] := by kernel_rfl
theorem sz_147 : szOf Tryz.prog 147 = some 1 := by kernel_rfl
theorem row_147 : rowOf Tryz.prog 147 = some false := by kernel_rfl
theorem zero_147 : zeroOf Tryz.prog 147 = some [.int .u32 0] := by kernel_rfl
theorem by_147 : bytesOf' Tryz.prog 147 = some 4 := by kernel_rfl
theorem str_147 : isStr Tryz.prog 147 = false := by kernel_rfl
theorem kind_147 : kindOf' Tryz.prog 147 = some .u32 := by kernel_rfl
theorem cc_147 : isConc Tryz.prog 147 = true := by kernel_rfl
theorem kt_147 : kT Tryz.prog 147 = 0 := by kernel_rfl
theorem kt_150 : kT Tryz.prog 150 = 3 := by kernel_rfl
theorem sz_150 : szOf Tryz.prog 150 = some 1 := by kernel_rfl
theorem row_150 : rowOf Tryz.prog 150 = some false := by kernel_rfl
theorem sz_151 : szOf Tryz.prog 151 = some 1 := by kernel_rfl
theorem row_151 : rowOf Tryz.prog 151 = some false := by kernel_rfl
theorem zero_151 : zeroOf Tryz.prog 151 = some [.pointer none] := by kernel_rfl
theorem by_151 : bytesOf' Tryz.prog 151 = some 8 := by kernel_rfl
theorem str_151 : isStr Tryz.prog 151 = false := by kernel_rfl
theorem cc_151 : isConc Tryz.prog 151 = true := by kernel_rfl
theorem und_151 : Tryz.prog.underlying 151 = some (.pointer 5) := by kernel_rfl
theorem kt_151 : kT Tryz.prog 151 = 2 := by kernel_rfl
theorem sz_154 : szOf Tryz.prog 154 = some 11 := by kernel_rfl
theorem row_154 : rowOf Tryz.prog 154 = some true := by kernel_rfl
theorem zero_154 : zeroOf Tryz.prog 154 = some [.int .u64 0, .int .u64 0, .int .u32 0, .int .u8 0, .int .u8 0, .int .u8 0, .int .u8 0, .nilFunc, .pointer none, .int .i32 0, .int .i32 0] := by kernel_rfl
theorem by_154 : bytesOf' Tryz.prog 154 = some 48 := by kernel_rfl
theorem str_154 : isStr Tryz.prog 154 = false := by kernel_rfl
theorem cc_154 : isConc Tryz.prog 154 = true := by kernel_rfl
theorem kt_154 : kT Tryz.prog 154 = 0 := by kernel_rfl
theorem pl_154 : placesOf Tryz.prog 154 = some [(0, 1), (1, 1), (2, 1), (3, 1), (4, 1), (5, 1), (6, 1), (7, 1), (8, 1), (9, 1), (10, 1)] := by kernel_rfl
theorem off_154_0 : offOf Tryz.prog 154 0 = some 0 := by kernel_rfl
theorem fld_154_0 : fldOf Tryz.prog 154 0 = some (0, 1, false) := by kernel_rfl
theorem off_154_1 : offOf Tryz.prog 154 1 = some 1 := by kernel_rfl
theorem fld_154_1 : fldOf Tryz.prog 154 1 = some (1, 1, false) := by kernel_rfl
theorem off_154_2 : offOf Tryz.prog 154 2 = some 2 := by kernel_rfl
theorem fld_154_2 : fldOf Tryz.prog 154 2 = some (2, 1, false) := by kernel_rfl
theorem off_154_3 : offOf Tryz.prog 154 3 = some 3 := by kernel_rfl
theorem fld_154_3 : fldOf Tryz.prog 154 3 = some (3, 1, false) := by kernel_rfl
theorem off_154_4 : offOf Tryz.prog 154 4 = some 4 := by kernel_rfl
theorem fld_154_4 : fldOf Tryz.prog 154 4 = some (4, 1, false) := by kernel_rfl
theorem off_154_5 : offOf Tryz.prog 154 5 = some 5 := by kernel_rfl
theorem fld_154_5 : fldOf Tryz.prog 154 5 = some (5, 1, false) := by kernel_rfl
theorem off_154_6 : offOf Tryz.prog 154 6 = some 6 := by kernel_rfl
theorem fld_154_6 : fldOf Tryz.prog 154 6 = some (6, 1, false) := by kernel_rfl
theorem off_154_7 : offOf Tryz.prog 154 7 = some 7 := by kernel_rfl
theorem fld_154_7 : fldOf Tryz.prog 154 7 = some (7, 1, false) := by kernel_rfl
theorem off_154_8 : offOf Tryz.prog 154 8 = some 8 := by kernel_rfl
theorem fld_154_8 : fldOf Tryz.prog 154 8 = some (8, 1, false) := by kernel_rfl
theorem off_154_9 : offOf Tryz.prog 154 9 = some 9 := by kernel_rfl
theorem fld_154_9 : fldOf Tryz.prog 154 9 = some (9, 1, false) := by kernel_rfl
theorem off_154_10 : offOf Tryz.prog 154 10 = some 10 := by kernel_rfl
theorem fld_154_10 : fldOf Tryz.prog 154 10 = some (10, 1, false) := by kernel_rfl
theorem sz_156 : szOf Tryz.prog 156 = some 1 := by kernel_rfl
theorem row_156 : rowOf Tryz.prog 156 = some false := by kernel_rfl
theorem zero_156 : zeroOf Tryz.prog 156 = some [.pointer none] := by kernel_rfl
theorem by_156 : bytesOf' Tryz.prog 156 = some 8 := by kernel_rfl
theorem str_156 : isStr Tryz.prog 156 = false := by kernel_rfl
theorem cc_156 : isConc Tryz.prog 156 = true := by kernel_rfl
theorem kt_156 : kT Tryz.prog 156 = 0 := by kernel_rfl
end Go.Proofs.YtpjlafmhoifkmaaGreat
