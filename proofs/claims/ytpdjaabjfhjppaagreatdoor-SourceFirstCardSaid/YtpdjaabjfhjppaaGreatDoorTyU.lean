/- What the program's table of types says, a fact each. Printed by a program of the prover's. -/
import Derived.Test.YtpdjaabjfhjppaaGreatDoorChecked
import Derived.Test.YtpdjaabjfhjppaaGreatDoorU7
set_option linter.unusedVariables false
set_option linter.unusedSimpArgs false
namespace Go.Proofs.YtpdjaabjfhjppaaGreatDoor
theorem kt_1 : kT Tryz.prog 1 = 3 := by kernel_rfl
theorem sz_1 : szOf Tryz.prog 1 = some 1 := by kernel_rfl
theorem row_1 : rowOf Tryz.prog 1 = some false := by kernel_rfl
theorem sz_2 : szOf Tryz.prog 2 = some 1 := by kernel_rfl
theorem row_2 : rowOf Tryz.prog 2 = some false := by kernel_rfl
theorem zero_2 : zeroOf Tryz.prog 2 = some [.int .i64 0] := by kernel_rfl
theorem by_2 : bytesOf' Tryz.prog 2 = some 8 := by kernel_rfl
theorem str_2 : isStr Tryz.prog 2 = false := by kernel_rfl
theorem kind_2 : kindOf' Tryz.prog 2 = some .i64 := by kernel_rfl
theorem cc_2 : isConc Tryz.prog 2 = true := by kernel_rfl
theorem kt_2 : kT Tryz.prog 2 = 0 := by kernel_rfl
theorem sz_3 : szOf Tryz.prog 3 = some 1 := by kernel_rfl
theorem row_3 : rowOf Tryz.prog 3 = some false := by kernel_rfl
theorem zero_3 : zeroOf Tryz.prog 3 = some [.int .i64 0] := by kernel_rfl
theorem by_3 : bytesOf' Tryz.prog 3 = some 8 := by kernel_rfl
theorem str_3 : isStr Tryz.prog 3 = false := by kernel_rfl
theorem kind_3 : kindOf' Tryz.prog 3 = some .i64 := by kernel_rfl
theorem cc_3 : isConc Tryz.prog 3 = true := by kernel_rfl
theorem kt_3 : kT Tryz.prog 3 = 0 := by kernel_rfl
theorem sz_4 : szOf Tryz.prog 4 = some 1 := by kernel_rfl
theorem row_4 : rowOf Tryz.prog 4 = some false := by kernel_rfl
theorem zero_4 : zeroOf Tryz.prog 4 = some [.bool false] := by kernel_rfl
theorem by_4 : bytesOf' Tryz.prog 4 = some 1 := by kernel_rfl
theorem str_4 : isStr Tryz.prog 4 = false := by kernel_rfl
theorem cc_4 : isConc Tryz.prog 4 = true := by kernel_rfl
theorem kt_4 : kT Tryz.prog 4 = 0 := by kernel_rfl
theorem sz_5 : szOf Tryz.prog 5 = some 1 := by kernel_rfl
theorem row_5 : rowOf Tryz.prog 5 = some false := by kernel_rfl
theorem zero_5 : zeroOf Tryz.prog 5 = some [.int .u8 0] := by kernel_rfl
theorem by_5 : bytesOf' Tryz.prog 5 = some 1 := by kernel_rfl
theorem str_5 : isStr Tryz.prog 5 = false := by kernel_rfl
theorem kind_5 : kindOf' Tryz.prog 5 = some .u8 := by kernel_rfl
theorem cc_5 : isConc Tryz.prog 5 = true := by kernel_rfl
theorem kt_5 : kT Tryz.prog 5 = 0 := by kernel_rfl
theorem sz_7 : szOf Tryz.prog 7 = some 4 := by kernel_rfl
theorem row_7 : rowOf Tryz.prog 7 = some true := by kernel_rfl
theorem zero_7 : zeroOf Tryz.prog 7 = some [.int .i64 0, .int .i64 0, .bool false, .int .u8 0] := by kernel_rfl
theorem by_7 : bytesOf' Tryz.prog 7 = some 24 := by kernel_rfl
theorem str_7 : isStr Tryz.prog 7 = false := by kernel_rfl
theorem cc_7 : isConc Tryz.prog 7 = true := by kernel_rfl
theorem kt_7 : kT Tryz.prog 7 = 0 := by kernel_rfl
theorem pl_7 : placesOf Tryz.prog 7 = some [(0, 1), (1, 1), (2, 1), (3, 1)] := by kernel_rfl
theorem off_7_0 : offOf Tryz.prog 7 0 = some 0 := by kernel_rfl
theorem fld_7_0 : fldOf Tryz.prog 7 0 = some (0, 1, false) := by kernel_rfl
theorem off_7_1 : offOf Tryz.prog 7 1 = some 1 := by kernel_rfl
theorem fld_7_1 : fldOf Tryz.prog 7 1 = some (1, 1, false) := by kernel_rfl
theorem off_7_2 : offOf Tryz.prog 7 2 = some 2 := by kernel_rfl
theorem fld_7_2 : fldOf Tryz.prog 7 2 = some (2, 1, false) := by kernel_rfl
theorem off_7_3 : offOf Tryz.prog 7 3 = some 3 := by kernel_rfl
theorem fld_7_3 : fldOf Tryz.prog 7 3 = some (3, 1, false) := by kernel_rfl
theorem sz_9 : szOf Tryz.prog 9 = some 1 := by kernel_rfl
theorem row_9 : rowOf Tryz.prog 9 = some false := by kernel_rfl
theorem zero_9 : zeroOf Tryz.prog 9 = some [.string ⟨#[]⟩] := by kernel_rfl
theorem by_9 : bytesOf' Tryz.prog 9 = some 16 := by kernel_rfl
theorem str_9 : isStr Tryz.prog 9 = true := by kernel_rfl
theorem bs_9 : isBytes Tryz.prog 9 = false := by kernel_rfl
theorem cc_9 : isConc Tryz.prog 9 = true := by kernel_rfl
theorem kt_9 : kT Tryz.prog 9 = 0 := by kernel_rfl
theorem sz_12 : szOf Tryz.prog 12 = some 1 := by kernel_rfl
theorem row_12 : rowOf Tryz.prog 12 = some false := by kernel_rfl
theorem zero_12 : zeroOf Tryz.prog 12 = some [.int .u64 0] := by kernel_rfl
theorem by_12 : bytesOf' Tryz.prog 12 = some 8 := by kernel_rfl
theorem str_12 : isStr Tryz.prog 12 = false := by kernel_rfl
theorem kind_12 : kindOf' Tryz.prog 12 = some .u64 := by kernel_rfl
theorem cc_12 : isConc Tryz.prog 12 = true := by kernel_rfl
theorem kt_12 : kT Tryz.prog 12 = 0 := by kernel_rfl
theorem sz_13 : szOf Tryz.prog 13 = some 2 := by kernel_rfl
theorem row_13 : rowOf Tryz.prog 13 = some true := by kernel_rfl
theorem zero_13 : zeroOf Tryz.prog 13 = some [.string ⟨#[]⟩, .int .u64 0] := by kernel_rfl
theorem by_13 : bytesOf' Tryz.prog 13 = some 24 := by kernel_rfl
theorem str_13 : isStr Tryz.prog 13 = false := by kernel_rfl
theorem cc_13 : isConc Tryz.prog 13 = true := by kernel_rfl
theorem kt_13 : kT Tryz.prog 13 = 0 := by kernel_rfl
theorem pl_13 : placesOf Tryz.prog 13 = some [(0, 1), (1, 1)] := by kernel_rfl
theorem off_13_0 : offOf Tryz.prog 13 0 = some 0 := by kernel_rfl
theorem fld_13_0 : fldOf Tryz.prog 13 0 = some (0, 1, false) := by kernel_rfl
theorem off_13_1 : offOf Tryz.prog 13 1 = some 1 := by kernel_rfl
theorem fld_13_1 : fldOf Tryz.prog 13 1 = some (1, 1, false) := by kernel_rfl
theorem sz_15 : szOf Tryz.prog 15 = some 1 := by kernel_rfl
theorem row_15 : rowOf Tryz.prog 15 = some false := by kernel_rfl
theorem zero_15 : zeroOf Tryz.prog 15 = some [.pointer none] := by kernel_rfl
theorem by_15 : bytesOf' Tryz.prog 15 = some 8 := by kernel_rfl
theorem str_15 : isStr Tryz.prog 15 = false := by kernel_rfl
theorem cc_15 : isConc Tryz.prog 15 = true := by kernel_rfl
theorem und_15 : Tryz.prog.underlying 15 = some (.pointer 239) := by kernel_rfl
theorem kt_15 : kT Tryz.prog 15 = 2 := by kernel_rfl
theorem sz_16 : szOf Tryz.prog 16 = some 1 := by kernel_rfl
theorem row_16 : rowOf Tryz.prog 16 = some false := by kernel_rfl
theorem zero_16 : zeroOf Tryz.prog 16 = some [.pointer none] := by kernel_rfl
theorem by_16 : bytesOf' Tryz.prog 16 = some 8 := by kernel_rfl
theorem str_16 : isStr Tryz.prog 16 = false := by kernel_rfl
theorem cc_16 : isConc Tryz.prog 16 = true := by kernel_rfl
theorem und_16 : Tryz.prog.underlying 16 = some (.pointer 242) := by kernel_rfl
theorem kt_16 : kT Tryz.prog 16 = 2 := by kernel_rfl
theorem sz_17 : szOf Tryz.prog 17 = some 1 := by kernel_rfl
theorem row_17 : rowOf Tryz.prog 17 = some false := by kernel_rfl
theorem zero_17 : zeroOf Tryz.prog 17 = some [.pointer none] := by kernel_rfl
theorem by_17 : bytesOf' Tryz.prog 17 = some 8 := by kernel_rfl
theorem str_17 : isStr Tryz.prog 17 = false := by kernel_rfl
theorem cc_17 : isConc Tryz.prog 17 = true := by kernel_rfl
theorem und_17 : Tryz.prog.underlying 17 = some (.pointer 249) := by kernel_rfl
theorem kt_17 : kT Tryz.prog 17 = 2 := by kernel_rfl
theorem sz_18 : szOf Tryz.prog 18 = some 1 := by kernel_rfl
theorem row_18 : rowOf Tryz.prog 18 = some true := by kernel_rfl
theorem zero_18 : zeroOf Tryz.prog 18 = some [.pointer none] := by kernel_rfl
theorem by_18 : bytesOf' Tryz.prog 18 = some 8 := by kernel_rfl
theorem str_18 : isStr Tryz.prog 18 = false := by kernel_rfl
theorem cc_18 : isConc Tryz.prog 18 = true := by kernel_rfl
theorem kt_18 : kT Tryz.prog 18 = 0 := by kernel_rfl
theorem pl_18 : placesOf Tryz.prog 18 = some [(0, 1)] := by kernel_rfl
theorem off_18_0 : offOf Tryz.prog 18 0 = some 0 := by kernel_rfl
theorem fld_18_0 : fldOf Tryz.prog 18 0 = some (0, 1, false) := by kernel_rfl
theorem sz_20 : szOf Tryz.prog 20 = some 1 := by kernel_rfl
theorem row_20 : rowOf Tryz.prog 20 = some false := by kernel_rfl
theorem zero_20 : zeroOf Tryz.prog 20 = some [.nilIface] := by kernel_rfl
theorem by_20 : bytesOf' Tryz.prog 20 = some 16 := by kernel_rfl
theorem str_20 : isStr Tryz.prog 20 = false := by kernel_rfl
theorem cc_20 : isConc Tryz.prog 20 = false := by kernel_rfl
theorem kt_20 : kT Tryz.prog 20 = 4 := by kernel_rfl
theorem sz_21 : szOf Tryz.prog 21 = some 1 := by kernel_rfl
theorem row_21 : rowOf Tryz.prog 21 = some false := by kernel_rfl
theorem zero_21 : zeroOf Tryz.prog 21 = some [.int .i32 0] := by kernel_rfl
theorem by_21 : bytesOf' Tryz.prog 21 = some 4 := by kernel_rfl
theorem str_21 : isStr Tryz.prog 21 = false := by kernel_rfl
theorem kind_21 : kindOf' Tryz.prog 21 = some .i32 := by kernel_rfl
theorem cc_21 : isConc Tryz.prog 21 = true := by kernel_rfl
theorem kt_21 : kT Tryz.prog 21 = 0 := by kernel_rfl
theorem sz_22 : szOf Tryz.prog 22 = some 1 := by kernel_rfl
theorem row_22 : rowOf Tryz.prog 22 = some false := by kernel_rfl
theorem zero_22 : zeroOf Tryz.prog 22 = some [.slice none 0 0] := by kernel_rfl
theorem by_22 : bytesOf' Tryz.prog 22 = some 24 := by kernel_rfl
theorem el_22 : elOf Tryz.prog 22 = some 25 := by kernel_rfl
theorem str_22 : isStr Tryz.prog 22 = false := by kernel_rfl
theorem bs_22 : isBytes Tryz.prog 22 = false := by kernel_rfl
theorem cc_22 : isConc Tryz.prog 22 = true := by kernel_rfl
theorem und_22 : Tryz.prog.underlying 22 = some (.slice 25) := by kernel_rfl
theorem kt_22 : kT Tryz.prog 22 = 1 := by kernel_rfl
theorem sz_23 : szOf Tryz.prog 23 = some 1 := by kernel_rfl
theorem row_23 : rowOf Tryz.prog 23 = some false := by kernel_rfl
theorem zero_23 : zeroOf Tryz.prog 23 = some [.int .i64 0] := by kernel_rfl
theorem by_23 : bytesOf' Tryz.prog 23 = some 8 := by kernel_rfl
theorem str_23 : isStr Tryz.prog 23 = false := by kernel_rfl
theorem kind_23 : kindOf' Tryz.prog 23 = some .i64 := by kernel_rfl
theorem cc_23 : isConc Tryz.prog 23 = true := by kernel_rfl
theorem kt_23 : kT Tryz.prog 23 = 0 := by kernel_rfl
theorem sz_24 : szOf Tryz.prog 24 = some 3 := by kernel_rfl
theorem row_24 : rowOf Tryz.prog 24 = some true := by kernel_rfl
theorem zero_24 : zeroOf Tryz.prog 24 = some [.int .i64 0, .int .i64 0, .int .i64 0] := by kernel_rfl
theorem by_24 : bytesOf' Tryz.prog 24 = some 24 := by kernel_rfl
theorem str_24 : isStr Tryz.prog 24 = false := by kernel_rfl
theorem cc_24 : isConc Tryz.prog 24 = true := by kernel_rfl
theorem kt_24 : kT Tryz.prog 24 = 0 := by kernel_rfl
theorem pl_24 : placesOf Tryz.prog 24 = some [(0, 1), (1, 1), (2, 1)] := by kernel_rfl
theorem off_24_0 : offOf Tryz.prog 24 0 = some 0 := by kernel_rfl
theorem fld_24_0 : fldOf Tryz.prog 24 0 = some (0, 1, false) := by kernel_rfl
theorem off_24_1 : offOf Tryz.prog 24 1 = some 1 := by kernel_rfl
theorem fld_24_1 : fldOf Tryz.prog 24 1 = some (1, 1, false) := by kernel_rfl
theorem off_24_2 : offOf Tryz.prog 24 2 = some 2 := by kernel_rfl
theorem fld_24_2 : fldOf Tryz.prog 24 2 = some (2, 1, false) := by kernel_rfl
theorem sz_25 : szOf Tryz.prog 25 = some 3 := by kernel_rfl
theorem row_25 : rowOf Tryz.prog 25 = some true := by kernel_rfl
theorem zero_25 : zeroOf Tryz.prog 25 = some [.int .i64 0, .int .i64 0, .int .i64 0] := by kernel_rfl
theorem by_25 : bytesOf' Tryz.prog 25 = some 24 := by kernel_rfl
theorem str_25 : isStr Tryz.prog 25 = false := by kernel_rfl
theorem cc_25 : isConc Tryz.prog 25 = true := by kernel_rfl
theorem kt_25 : kT Tryz.prog 25 = 0 := by kernel_rfl
theorem pl_25 : placesOf Tryz.prog 25 = some [(0, 1), (1, 1), (2, 1)] := by kernel_rfl
theorem off_25_0 : offOf Tryz.prog 25 0 = some 0 := by kernel_rfl
theorem fld_25_0 : fldOf Tryz.prog 25 0 = some (0, 1, false) := by kernel_rfl
theorem off_25_1 : offOf Tryz.prog 25 1 = some 1 := by kernel_rfl
theorem fld_25_1 : fldOf Tryz.prog 25 1 = some (1, 1, false) := by kernel_rfl
theorem off_25_2 : offOf Tryz.prog 25 2 = some 2 := by kernel_rfl
theorem fld_25_2 : fldOf Tryz.prog 25 2 = some (2, 1, false) := by kernel_rfl
theorem kt_26 : kT Tryz.prog 26 = 3 := by kernel_rfl
theorem sz_26 : szOf Tryz.prog 26 = some 1 := by kernel_rfl
theorem row_26 : rowOf Tryz.prog 26 = some false := by kernel_rfl
theorem kt_28 : kT Tryz.prog 28 = 3 := by kernel_rfl
theorem sz_28 : szOf Tryz.prog 28 = some 1 := by kernel_rfl
theorem row_28 : rowOf Tryz.prog 28 = some false := by kernel_rfl
theorem kt_29 : kT Tryz.prog 29 = 3 := by kernel_rfl
theorem sz_29 : szOf Tryz.prog 29 = some 1 := by kernel_rfl
theorem row_29 : rowOf Tryz.prog 29 = some false := by kernel_rfl
theorem kt_30 : kT Tryz.prog 30 = 3 := by kernel_rfl
theorem sz_30 : szOf Tryz.prog 30 = some 1 := by kernel_rfl
theorem row_30 : rowOf Tryz.prog 30 = some false := by kernel_rfl
theorem kt_31 : kT Tryz.prog 31 = 3 := by kernel_rfl
theorem sz_31 : szOf Tryz.prog 31 = some 1 := by kernel_rfl
theorem row_31 : rowOf Tryz.prog 31 = some false := by kernel_rfl
theorem kt_32 : kT Tryz.prog 32 = 3 := by kernel_rfl
theorem sz_32 : szOf Tryz.prog 32 = some 1 := by kernel_rfl
theorem row_32 : rowOf Tryz.prog 32 = some false := by kernel_rfl
theorem sz_33 : szOf Tryz.prog 33 = some 1 := by kernel_rfl
theorem row_33 : rowOf Tryz.prog 33 = some false := by kernel_rfl
theorem zero_33 : zeroOf Tryz.prog 33 = some [.slice none 0 0] := by kernel_rfl
theorem by_33 : bytesOf' Tryz.prog 33 = some 24 := by kernel_rfl
theorem el_33 : elOf Tryz.prog 33 = some 45 := by kernel_rfl
theorem str_33 : isStr Tryz.prog 33 = false := by kernel_rfl
theorem bs_33 : isBytes Tryz.prog 33 = false := by kernel_rfl
theorem cc_33 : isConc Tryz.prog 33 = true := by kernel_rfl
theorem und_33 : Tryz.prog.underlying 33 = some (.slice 45) := by kernel_rfl
theorem kt_33 : kT Tryz.prog 33 = 1 := by kernel_rfl
theorem kt_35 : kT Tryz.prog 35 = 3 := by kernel_rfl
theorem sz_35 : szOf Tryz.prog 35 = some 1 := by kernel_rfl
theorem row_35 : rowOf Tryz.prog 35 = some false := by kernel_rfl
theorem sz_36 : szOf Tryz.prog 36 = some 1 := by kernel_rfl
theorem row_36 : rowOf Tryz.prog 36 = some false := by kernel_rfl
theorem zero_36 : zeroOf Tryz.prog 36 = some [.slice none 0 0] := by kernel_rfl
theorem by_36 : bytesOf' Tryz.prog 36 = some 24 := by kernel_rfl
theorem el_36 : elOf Tryz.prog 36 = some 9 := by kernel_rfl
theorem str_36 : isStr Tryz.prog 36 = false := by kernel_rfl
theorem bs_36 : isBytes Tryz.prog 36 = false := by kernel_rfl
theorem cc_36 : isConc Tryz.prog 36 = true := by kernel_rfl
theorem und_36 : Tryz.prog.underlying 36 = some (.slice 9) := by kernel_rfl
theorem kt_36 : kT Tryz.prog 36 = 1 := by kernel_rfl
theorem sz_37 : szOf Tryz.prog 37 = some 1 := by kernel_rfl
theorem row_37 : rowOf Tryz.prog 37 = some false := by kernel_rfl
theorem zero_37 : zeroOf Tryz.prog 37 = some [.slice none 0 0] := by kernel_rfl
theorem by_37 : bytesOf' Tryz.prog 37 = some 24 := by kernel_rfl
theorem el_37 : elOf Tryz.prog 37 = some 98 := by kernel_rfl
theorem str_37 : isStr Tryz.prog 37 = false := by kernel_rfl
theorem bs_37 : isBytes Tryz.prog 37 = false := by kernel_rfl
theorem cc_37 : isConc Tryz.prog 37 = true := by kernel_rfl
theorem und_37 : Tryz.prog.underlying 37 = some (.slice 98) := by kernel_rfl
theorem kt_37 : kT Tryz.prog 37 = 1 := by kernel_rfl
theorem sz_38 : szOf Tryz.prog 38 = some 2 := by kernel_rfl
theorem row_38 : rowOf Tryz.prog 38 = some true := by kernel_rfl
theorem zero_38 : zeroOf Tryz.prog 38 = some [.string ⟨#[]⟩, .slice none 0 0] := by kernel_rfl
theorem by_38 : bytesOf' Tryz.prog 38 = some 40 := by kernel_rfl
theorem str_38 : isStr Tryz.prog 38 = false := by kernel_rfl
theorem cc_38 : isConc Tryz.prog 38 = true := by kernel_rfl
theorem kt_38 : kT Tryz.prog 38 = 0 := by kernel_rfl
theorem pl_38 : placesOf Tryz.prog 38 = some [(0, 1), (1, 1)] := by kernel_rfl
theorem off_38_0 : offOf Tryz.prog 38 0 = some 0 := by kernel_rfl
theorem fld_38_0 : fldOf Tryz.prog 38 0 = some (0, 1, false) := by kernel_rfl
theorem off_38_1 : offOf Tryz.prog 38 1 = some 1 := by kernel_rfl
theorem fld_38_1 : fldOf Tryz.prog 38 1 = some (1, 1, false) := by kernel_rfl
theorem sz_39 : szOf Tryz.prog 39 = some 2 := by kernel_rfl
theorem row_39 : rowOf Tryz.prog 39 = some true := by kernel_rfl
theorem zero_39 : zeroOf Tryz.prog 39 = some [.string ⟨#[]⟩, .slice none 0 0] := by kernel_rfl
theorem by_39 : bytesOf' Tryz.prog 39 = some 40 := by kernel_rfl
theorem str_39 : isStr Tryz.prog 39 = false := by kernel_rfl
theorem cc_39 : isConc Tryz.prog 39 = true := by kernel_rfl
theorem kt_39 : kT Tryz.prog 39 = 0 := by kernel_rfl
theorem pl_39 : placesOf Tryz.prog 39 = some [(0, 1), (1, 1)] := by kernel_rfl
theorem off_39_0 : offOf Tryz.prog 39 0 = some 0 := by kernel_rfl
theorem fld_39_0 : fldOf Tryz.prog 39 0 = some (0, 1, false) := by kernel_rfl
theorem off_39_1 : offOf Tryz.prog 39 1 = some 1 := by kernel_rfl
theorem fld_39_1 : fldOf Tryz.prog 39 1 = some (1, 1, false) := by kernel_rfl
theorem sz_40 : szOf Tryz.prog 40 = some 1 := by kernel_rfl
theorem row_40 : rowOf Tryz.prog 40 = some false := by kernel_rfl
theorem zero_40 : zeroOf Tryz.prog 40 = some [.slice none 0 0] := by kernel_rfl
theorem by_40 : bytesOf' Tryz.prog 40 = some 24 := by kernel_rfl
theorem el_40 : elOf Tryz.prog 40 = some 92 := by kernel_rfl
theorem str_40 : isStr Tryz.prog 40 = false := by kernel_rfl
theorem bs_40 : isBytes Tryz.prog 40 = false := by kernel_rfl
theorem cc_40 : isConc Tryz.prog 40 = true := by kernel_rfl
theorem und_40 : Tryz.prog.underlying 40 = some (.slice 92) := by kernel_rfl
theorem kt_40 : kT Tryz.prog 40 = 1 := by kernel_rfl
theorem sz_41 : szOf Tryz.prog 41 = some 1 := by kernel_rfl
theorem row_41 : rowOf Tryz.prog 41 = some false := by kernel_rfl
theorem zero_41 : zeroOf Tryz.prog 41 = some [.slice none 0 0] := by kernel_rfl
theorem by_41 : bytesOf' Tryz.prog 41 = some 24 := by kernel_rfl
theorem el_41 : elOf Tryz.prog 41 = some 5 := by kernel_rfl
theorem str_41 : isStr Tryz.prog 41 = false := by kernel_rfl
theorem bs_41 : isBytes Tryz.prog 41 = true := by kernel_rfl
theorem cc_41 : isConc Tryz.prog 41 = true := by kernel_rfl
theorem und_41 : Tryz.prog.underlying 41 = some (.slice 5) := by kernel_rfl
theorem kt_41 : kT Tryz.prog 41 = 1 := by kernel_rfl
theorem sz_42 : szOf Tryz.prog 42 = some 8 := by kernel_rfl
theorem row_42 : rowOf Tryz.prog 42 = some true := by kernel_rfl
theorem zero_42 : zeroOf Tryz.prog 42 = some [.slice none 0 0, .int .i64 0, .string ⟨#[]⟩, .slice none 0 0, .slice none 0 0, .int .i64 0, .slice none 0 0, .slice none 0 0] := by kernel_rfl
theorem by_42 : bytesOf' Tryz.prog 42 = some 152 := by kernel_rfl
theorem str_42 : isStr Tryz.prog 42 = false := by kernel_rfl
theorem cc_42 : isConc Tryz.prog 42 = true := by kernel_rfl
theorem kt_42 : kT Tryz.prog 42 = 0 := by kernel_rfl
theorem pl_42 : placesOf Tryz.prog 42 = some [(0, 1), (1, 1), (2, 2), (4, 1), (5, 1), (6, 1), (7, 1)] := by kernel_rfl
theorem off_42_0 : offOf Tryz.prog 42 0 = some 0 := by kernel_rfl
theorem fld_42_0 : fldOf Tryz.prog 42 0 = some (0, 1, false) := by kernel_rfl
theorem off_42_1 : offOf Tryz.prog 42 1 = some 1 := by kernel_rfl
theorem fld_42_1 : fldOf Tryz.prog 42 1 = some (1, 1, false) := by kernel_rfl
theorem off_42_2 : offOf Tryz.prog 42 2 = some 2 := by kernel_rfl
theorem fld_42_2 : fldOf Tryz.prog 42 2 = some (2, 2, true) := by kernel_rfl
theorem off_42_3 : offOf Tryz.prog 42 3 = some 4 := by kernel_rfl
theorem fld_42_3 : fldOf Tryz.prog 42 3 = some (4, 1, false) := by kernel_rfl
theorem off_42_4 : offOf Tryz.prog 42 4 = some 5 := by kernel_rfl
theorem fld_42_4 : fldOf Tryz.prog 42 4 = some (5, 1, false) := by kernel_rfl
theorem off_42_5 : offOf Tryz.prog 42 5 = some 6 := by kernel_rfl
theorem fld_42_5 : fldOf Tryz.prog 42 5 = some (6, 1, false) := by kernel_rfl
theorem off_42_6 : offOf Tryz.prog 42 6 = some 7 := by kernel_rfl
theorem fld_42_6 : fldOf Tryz.prog 42 6 = some (7, 1, false) := by kernel_rfl
theorem sz_43 : szOf Tryz.prog 43 = some 8 := by kernel_rfl
theorem row_43 : rowOf Tryz.prog 43 = some true := by kernel_rfl
theorem zero_43 : zeroOf Tryz.prog 43 = some [.slice none 0 0, .int .i64 0, .string ⟨#[]⟩, .slice none 0 0, .slice none 0 0, .int .i64 0, .slice none 0 0, .slice none 0 0] := by kernel_rfl
theorem by_43 : bytesOf' Tryz.prog 43 = some 152 := by kernel_rfl
theorem str_43 : isStr Tryz.prog 43 = false := by kernel_rfl
theorem cc_43 : isConc Tryz.prog 43 = true := by kernel_rfl
theorem kt_43 : kT Tryz.prog 43 = 0 := by kernel_rfl
theorem pl_43 : placesOf Tryz.prog 43 = some [(0, 1), (1, 1), (2, 2), (4, 1), (5, 1), (6, 1), (7, 1)] := by kernel_rfl
theorem off_43_0 : offOf Tryz.prog 43 0 = some 0 := by kernel_rfl
theorem fld_43_0 : fldOf Tryz.prog 43 0 = some (0, 1, false) := by kernel_rfl
theorem off_43_1 : offOf Tryz.prog 43 1 = some 1 := by kernel_rfl
theorem fld_43_1 : fldOf Tryz.prog 43 1 = some (1, 1, false) := by kernel_rfl
theorem off_43_2 : offOf Tryz.prog 43 2 = some 2 := by kernel_rfl
theorem fld_43_2 : fldOf Tryz.prog 43 2 = some (2, 2, true) := by kernel_rfl
theorem off_43_3 : offOf Tryz.prog 43 3 = some 4 := by kernel_rfl
theorem fld_43_3 : fldOf Tryz.prog 43 3 = some (4, 1, false) := by kernel_rfl
theorem off_43_4 : offOf Tryz.prog 43 4 = some 5 := by kernel_rfl
theorem fld_43_4 : fldOf Tryz.prog 43 4 = some (5, 1, false) := by kernel_rfl
theorem off_43_5 : offOf Tryz.prog 43 5 = some 6 := by kernel_rfl
theorem fld_43_5 : fldOf Tryz.prog 43 5 = some (6, 1, false) := by kernel_rfl
theorem off_43_6 : offOf Tryz.prog 43 6 = some 7 := by kernel_rfl
theorem fld_43_6 : fldOf Tryz.prog 43 6 = some (7, 1, false) := by kernel_rfl
theorem sz_44 : szOf Tryz.prog 44 = some 9 := by kernel_rfl
theorem row_44 : rowOf Tryz.prog 44 = some true := by kernel_rfl
theorem zero_44 : zeroOf Tryz.prog 44 = some [.int .i64 0, .slice none 0 0, .int .i64 0, .string ⟨#[]⟩, .slice none 0 0, .slice none 0 0, .int .i64 0, .slice none 0 0, .slice none 0 0] := by kernel_rfl
theorem by_44 : bytesOf' Tryz.prog 44 = some 160 := by kernel_rfl
theorem str_44 : isStr Tryz.prog 44 = false := by kernel_rfl
theorem cc_44 : isConc Tryz.prog 44 = true := by kernel_rfl
theorem kt_44 : kT Tryz.prog 44 = 0 := by kernel_rfl
theorem pl_44 : placesOf Tryz.prog 44 = some [(0, 1), (1, 8)] := by kernel_rfl
theorem off_44_0 : offOf Tryz.prog 44 0 = some 0 := by kernel_rfl
theorem fld_44_0 : fldOf Tryz.prog 44 0 = some (0, 1, false) := by kernel_rfl
theorem off_44_1 : offOf Tryz.prog 44 1 = some 1 := by kernel_rfl
theorem fld_44_1 : fldOf Tryz.prog 44 1 = some (1, 8, true) := by kernel_rfl
theorem sz_45 : szOf Tryz.prog 45 = some 9 := by kernel_rfl
theorem row_45 : rowOf Tryz.prog 45 = some true := by kernel_rfl
theorem zero_45 : zeroOf Tryz.prog 45 = some [.int .i64 0, .slice none 0 0, .int .i64 0, .string ⟨#[]⟩, .slice none 0 0, .slice none 0 0, .int .i64 0, .slice none 0 0, .slice none 0 0] := by kernel_rfl
theorem by_45 : bytesOf' Tryz.prog 45 = some 160 := by kernel_rfl
theorem str_45 : isStr Tryz.prog 45 = false := by kernel_rfl
theorem cc_45 : isConc Tryz.prog 45 = true := by kernel_rfl
theorem kt_45 : kT Tryz.prog 45 = 0 := by kernel_rfl
theorem pl_45 : placesOf Tryz.prog 45 = some [(0, 1), (1, 8)] := by kernel_rfl
theorem off_45_0 : offOf Tryz.prog 45 0 = some 0 := by kernel_rfl
theorem fld_45_0 : fldOf Tryz.prog 45 0 = some (0, 1, false) := by kernel_rfl
theorem off_45_1 : offOf Tryz.prog 45 1 = some 1 := by kernel_rfl
theorem fld_45_1 : fldOf Tryz.prog 45 1 = some (1, 8, true) := by kernel_rfl
theorem kt_46 : kT Tryz.prog 46 = 3 := by kernel_rfl
theorem sz_46 : szOf Tryz.prog 46 = some 1 := by kernel_rfl
theorem row_46 : rowOf Tryz.prog 46 = some false := by kernel_rfl
theorem kt_47 : kT Tryz.prog 47 = 3 := by kernel_rfl
theorem sz_47 : szOf Tryz.prog 47 = some 1 := by kernel_rfl
theorem row_47 : rowOf Tryz.prog 47 = some false := by kernel_rfl
theorem sz_48 : szOf Tryz.prog 48 = some 1 := by kernel_rfl
theorem row_48 : rowOf Tryz.prog 48 = some false := by kernel_rfl
theorem zero_48 : zeroOf Tryz.prog 48 = some [.nilFunc] := by kernel_rfl
theorem by_48 : bytesOf' Tryz.prog 48 = some 8 := by kernel_rfl
theorem str_48 : isStr Tryz.prog 48 = false := by kernel_rfl
theorem cc_48 : isConc Tryz.prog 48 = true := by kernel_rfl
theorem kt_48 : kT Tryz.prog 48 = 3 := by kernel_rfl
theorem kt_49 : kT Tryz.prog 49 = 3 := by kernel_rfl
theorem sz_49 : szOf Tryz.prog 49 = some 1 := by kernel_rfl
theorem row_49 : rowOf Tryz.prog 49 = some false := by kernel_rfl
theorem kt_51 : kT Tryz.prog 51 = 3 := by kernel_rfl
theorem sz_51 : szOf Tryz.prog 51 = some 1 := by kernel_rfl
theorem row_51 : rowOf Tryz.prog 51 = some false := by kernel_rfl
theorem kt_52 : kT Tryz.prog 52 = 3 := by kernel_rfl
theorem sz_52 : szOf Tryz.prog 52 = some 1 := by kernel_rfl
theorem row_52 : rowOf Tryz.prog 52 = some false := by kernel_rfl
theorem kt_54 : kT Tryz.prog 54 = 3 := by kernel_rfl
theorem sz_54 : szOf Tryz.prog 54 = some 1 := by kernel_rfl
theorem row_54 : rowOf Tryz.prog 54 = some false := by kernel_rfl
theorem sz_55 : szOf Tryz.prog 55 = some 1 := by kernel_rfl
theorem row_55 : rowOf Tryz.prog 55 = some true := by kernel_rfl
theorem zero_55 : zeroOf Tryz.prog 55 = some [.int .i64 0] := by kernel_rfl
theorem by_55 : bytesOf' Tryz.prog 55 = some 8 := by kernel_rfl
theorem str_55 : isStr Tryz.prog 55 = false := by kernel_rfl
theorem cc_55 : isConc Tryz.prog 55 = true := by kernel_rfl
theorem kt_55 : kT Tryz.prog 55 = 0 := by kernel_rfl
theorem pl_55 : placesOf Tryz.prog 55 = some [(0, 1)] := by kernel_rfl
theorem off_55_0 : offOf Tryz.prog 55 0 = some 0 := by kernel_rfl
theorem fld_55_0 : fldOf Tryz.prog 55 0 = some (0, 1, false) := by kernel_rfl
theorem sz_56 : szOf Tryz.prog 56 = some 1 := by kernel_rfl
theorem row_56 : rowOf Tryz.prog 56 = some true := by kernel_rfl
theorem zero_56 : zeroOf Tryz.prog 56 = some [.int .i64 0] := by kernel_rfl
theorem by_56 : bytesOf' Tryz.prog 56 = some 8 := by kernel_rfl
theorem str_56 : isStr Tryz.prog 56 = false := by kernel_rfl
theorem cc_56 : isConc Tryz.prog 56 = true := by kernel_rfl
theorem kt_56 : kT Tryz.prog 56 = 0 := by kernel_rfl
theorem pl_56 : placesOf Tryz.prog 56 = some [(0, 1)] := by kernel_rfl
theorem off_56_0 : offOf Tryz.prog 56 0 = some 0 := by kernel_rfl
theorem fld_56_0 : fldOf Tryz.prog 56 0 = some (0, 1, false) := by kernel_rfl
theorem sz_57 : szOf Tryz.prog 57 = some 1 := by kernel_rfl
theorem row_57 : rowOf Tryz.prog 57 = some false := by kernel_rfl
theorem zero_57 : zeroOf Tryz.prog 57 = some [.slice none 0 0] := by kernel_rfl
theorem by_57 : bytesOf' Tryz.prog 57 = some 24 := by kernel_rfl
theorem el_57 : elOf Tryz.prog 57 = some 73 := by kernel_rfl
theorem str_57 : isStr Tryz.prog 57 = false := by kernel_rfl
theorem bs_57 : isBytes Tryz.prog 57 = false := by kernel_rfl
theorem cc_57 : isConc Tryz.prog 57 = true := by kernel_rfl
theorem und_57 : Tryz.prog.underlying 57 = some (.slice 73) := by kernel_rfl
theorem kt_57 : kT Tryz.prog 57 = 1 := by kernel_rfl
theorem kt_59 : kT Tryz.prog 59 = 3 := by kernel_rfl
theorem sz_59 : szOf Tryz.prog 59 = some 1 := by kernel_rfl
theorem row_59 : rowOf Tryz.prog 59 = some false := by kernel_rfl
theorem sz_60 : szOf Tryz.prog 60 = some 1 := by kernel_rfl
theorem row_60 : rowOf Tryz.prog 60 = some false := by kernel_rfl
theorem zero_60 : zeroOf Tryz.prog 60 = some [.pointer none] := by kernel_rfl
theorem by_60 : bytesOf' Tryz.prog 60 = some 8 := by kernel_rfl
theorem str_60 : isStr Tryz.prog 60 = false := by kernel_rfl
theorem cc_60 : isConc Tryz.prog 60 = true := by kernel_rfl
theorem und_60 : Tryz.prog.underlying 60 = some (.pointer 62) := by kernel_rfl
theorem kt_60 : kT Tryz.prog 60 = 2 := by kernel_rfl
theorem sz_61 : szOf Tryz.prog 61 = some 9 := by kernel_rfl
theorem row_61 : rowOf Tryz.prog 61 = some true := by kernel_rfl
theorem zero_61 : zeroOf Tryz.prog 61 = some [.slice none 0 0, .slice none 0 0, .int .i64 0, .string ⟨#[]⟩, .slice none 0 0, .slice none 0 0, .int .i64 0, .slice none 0 0, .slice none 0 0] := by kernel_rfl
theorem by_61 : bytesOf' Tryz.prog 61 = some 176 := by kernel_rfl
theorem str_61 : isStr Tryz.prog 61 = false := by kernel_rfl
theorem cc_61 : isConc Tryz.prog 61 = true := by kernel_rfl
theorem kt_61 : kT Tryz.prog 61 = 0 := by kernel_rfl
theorem pl_61 : placesOf Tryz.prog 61 = some [(0, 1), (1, 8)] := by kernel_rfl
theorem off_61_0 : offOf Tryz.prog 61 0 = some 0 := by kernel_rfl
theorem fld_61_0 : fldOf Tryz.prog 61 0 = some (0, 1, false) := by kernel_rfl
theorem off_61_1 : offOf Tryz.prog 61 1 = some 1 := by kernel_rfl
theorem fld_61_1 : fldOf Tryz.prog 61 1 = some (1, 8, true) := by kernel_rfl
theorem sz_62 : szOf Tryz.prog 62 = some 9 := by kernel_rfl
theorem row_62 : rowOf Tryz.prog 62 = some true := by kernel_rfl
theorem zero_62 : zeroOf Tryz.prog 62 = some [.slice none 0 0, .slice none 0 0, .int .i64 0, .string ⟨#[]⟩, .slice none 0 0, .slice none 0 0, .int .i64 0, .slice none 0 0, .slice none 0 0] := by kernel_rfl
theorem by_62 : bytesOf' Tryz.prog 62 = some 176 := by kernel_rfl
theorem str_62 : isStr Tryz.prog 62 = false := by kernel_rfl
theorem cc_62 : isConc Tryz.prog 62 = true := by kernel_rfl
theorem kt_62 : kT Tryz.prog 62 = 0 := by kernel_rfl
theorem pl_62 : placesOf Tryz.prog 62 = some [(0, 1), (1, 8)] := by kernel_rfl
theorem off_62_0 : offOf Tryz.prog 62 0 = some 0 := by kernel_rfl
theorem fld_62_0 : fldOf Tryz.prog 62 0 = some (0, 1, false) := by kernel_rfl
theorem off_62_1 : offOf Tryz.prog 62 1 = some 1 := by kernel_rfl
theorem fld_62_1 : fldOf Tryz.prog 62 1 = some (1, 8, true) := by kernel_rfl
theorem kt_63 : kT Tryz.prog 63 = 3 := by kernel_rfl
theorem sz_63 : szOf Tryz.prog 63 = some 1 := by kernel_rfl
theorem row_63 : rowOf Tryz.prog 63 = some false := by kernel_rfl
theorem kt_64 : kT Tryz.prog 64 = 3 := by kernel_rfl
theorem sz_64 : szOf Tryz.prog 64 = some 1 := by kernel_rfl
theorem row_64 : rowOf Tryz.prog 64 = some false := by kernel_rfl
theorem kt_65 : kT Tryz.prog 65 = 3 := by kernel_rfl
theorem sz_65 : szOf Tryz.prog 65 = some 1 := by kernel_rfl
theorem row_65 : rowOf Tryz.prog 65 = some false := by kernel_rfl
theorem kt_66 : kT Tryz.prog 66 = 3 := by kernel_rfl
theorem sz_66 : szOf Tryz.prog 66 = some 1 := by kernel_rfl
theorem row_66 : rowOf Tryz.prog 66 = some false := by kernel_rfl
theorem kt_68 : kT Tryz.prog 68 = 3 := by kernel_rfl
theorem sz_68 : szOf Tryz.prog 68 = some 1 := by kernel_rfl
theorem row_68 : rowOf Tryz.prog 68 = some false := by kernel_rfl
theorem kt_69 : kT Tryz.prog 69 = 3 := by kernel_rfl
theorem sz_69 : szOf Tryz.prog 69 = some 1 := by kernel_rfl
theorem row_69 : rowOf Tryz.prog 69 = some false := by kernel_rfl
theorem kt_70 : kT Tryz.prog 70 = 3 := by kernel_rfl
theorem sz_70 : szOf Tryz.prog 70 = some 1 := by kernel_rfl
theorem row_70 : rowOf Tryz.prog 70 = some false := by kernel_rfl
theorem sz_71 : szOf Tryz.prog 71 = some 1 := by kernel_rfl
theorem row_71 : rowOf Tryz.prog 71 = some false := by kernel_rfl
theorem zero_71 : zeroOf Tryz.prog 71 = some [.int .u64 0] := by kernel_rfl
theorem by_71 : bytesOf' Tryz.prog 71 = some 8 := by kernel_rfl
theorem str_71 : isStr Tryz.prog 71 = false := by kernel_rfl
theorem kind_71 : kindOf' Tryz.prog 71 = some .u64 := by kernel_rfl
theorem cc_71 : isConc Tryz.prog 71 = true := by kernel_rfl
theorem kt_71 : kT Tryz.prog 71 = 0 := by kernel_rfl
theorem sz_72 : szOf Tryz.prog 72 = some 4 := by kernel_rfl
theorem row_72 : rowOf Tryz.prog 72 = some true := by kernel_rfl
theorem zero_72 : zeroOf Tryz.prog 72 = some [.int .i64 0, .string ⟨#[]⟩, .int .u64 0, .int .i64 0] := by kernel_rfl
theorem by_72 : bytesOf' Tryz.prog 72 = some 40 := by kernel_rfl
theorem str_72 : isStr Tryz.prog 72 = false := by kernel_rfl
theorem cc_72 : isConc Tryz.prog 72 = true := by kernel_rfl
theorem kt_72 : kT Tryz.prog 72 = 0 := by kernel_rfl
theorem pl_72 : placesOf Tryz.prog 72 = some [(0, 1), (1, 1), (2, 1), (3, 1)] := by kernel_rfl
theorem off_72_0 : offOf Tryz.prog 72 0 = some 0 := by kernel_rfl
theorem fld_72_0 : fldOf Tryz.prog 72 0 = some (0, 1, false) := by kernel_rfl
theorem off_72_1 : offOf Tryz.prog 72 1 = some 1 := by kernel_rfl
theorem fld_72_1 : fldOf Tryz.prog 72 1 = some (1, 1, false) := by kernel_rfl
theorem off_72_2 : offOf Tryz.prog 72 2 = some 2 := by kernel_rfl
theorem fld_72_2 : fldOf Tryz.prog 72 2 = some (2, 1, false) := by kernel_rfl
theorem off_72_3 : offOf Tryz.prog 72 3 = some 3 := by kernel_rfl
theorem fld_72_3 : fldOf Tryz.prog 72 3 = some (3, 1, false) := by kernel_rfl
theorem sz_73 : szOf Tryz.prog 73 = some 4 := by kernel_rfl
theorem row_73 : rowOf Tryz.prog 73 = some true := by kernel_rfl
theorem zero_73 : zeroOf Tryz.prog 73 = some [.int .i64 0, .string ⟨#[]⟩, .int .u64 0, .int .i64 0] := by kernel_rfl
theorem by_73 : bytesOf' Tryz.prog 73 = some 40 := by kernel_rfl
theorem str_73 : isStr Tryz.prog 73 = false := by kernel_rfl
theorem cc_73 : isConc Tryz.prog 73 = true := by kernel_rfl
theorem kt_73 : kT Tryz.prog 73 = 0 := by kernel_rfl
theorem pl_73 : placesOf Tryz.prog 73 = some [(0, 1), (1, 1), (2, 1), (3, 1)] := by kernel_rfl
theorem off_73_0 : offOf Tryz.prog 73 0 = some 0 := by kernel_rfl
theorem fld_73_0 : fldOf Tryz.prog 73 0 = some (0, 1, false) := by kernel_rfl
theorem off_73_1 : offOf Tryz.prog 73 1 = some 1 := by kernel_rfl
theorem fld_73_1 : fldOf Tryz.prog 73 1 = some (1, 1, false) := by kernel_rfl
theorem off_73_2 : offOf Tryz.prog 73 2 = some 2 := by kernel_rfl
theorem fld_73_2 : fldOf Tryz.prog 73 2 = some (2, 1, false) := by kernel_rfl
theorem off_73_3 : offOf Tryz.prog 73 3 = some 3 := by kernel_rfl
theorem fld_73_3 : fldOf Tryz.prog 73 3 = some (3, 1, false) := by kernel_rfl
theorem kt_74 : kT Tryz.prog 74 = 3 := by kernel_rfl
theorem sz_74 : szOf Tryz.prog 74 = some 1 := by kernel_rfl
theorem row_74 : rowOf Tryz.prog 74 = some false := by kernel_rfl
theorem kt_75 : kT Tryz.prog 75 = 3 := by kernel_rfl
theorem sz_75 : szOf Tryz.prog 75 = some 1 := by kernel_rfl
theorem row_75 : rowOf Tryz.prog 75 = some false := by kernel_rfl
theorem kt_76 : kT Tryz.prog 76 = 3 := by kernel_rfl
theorem sz_76 : szOf Tryz.prog 76 = some 1 := by kernel_rfl
theorem row_76 : rowOf Tryz.prog 76 = some false := by kernel_rfl
theorem sz_77 : szOf Tryz.prog 77 = some 1 := by kernel_rfl
theorem row_77 : rowOf Tryz.prog 77 = some false := by kernel_rfl
theorem zero_77 : zeroOf Tryz.prog 77 = some [.pointer none] := by kernel_rfl
theorem by_77 : bytesOf' Tryz.prog 77 = some 8 := by kernel_rfl
theorem str_77 : isStr Tryz.prog 77 = false := by kernel_rfl
theorem cc_77 : isConc Tryz.prog 77 = true := by kernel_rfl
theorem und_77 : Tryz.prog.underlying 77 = some (.pointer 23) := by kernel_rfl
theorem kt_77 : kT Tryz.prog 77 = 2 := by kernel_rfl
theorem sz_78 : szOf Tryz.prog 78 = some 1 := by kernel_rfl
theorem row_78 : rowOf Tryz.prog 78 = some false := by kernel_rfl
theorem zero_78 : zeroOf Tryz.prog 78 = some [.pointer none] := by kernel_rfl
theorem by_78 : bytesOf' Tryz.prog 78 = some 8 := by kernel_rfl
theorem str_78 : isStr Tryz.prog 78 = false := by kernel_rfl
theorem cc_78 : isConc Tryz.prog 78 = true := by kernel_rfl
theorem und_78 : Tryz.prog.underlying 78 = some (.pointer 37) := by kernel_rfl
theorem kt_78 : kT Tryz.prog 78 = 2 := by kernel_rfl
theorem sz_79 : szOf Tryz.prog 79 = some 1 := by kernel_rfl
theorem row_79 : rowOf Tryz.prog 79 = some false := by kernel_rfl
theorem zero_79 : zeroOf Tryz.prog 79 = some [.pointer none] := by kernel_rfl
theorem by_79 : bytesOf' Tryz.prog 79 = some 8 := by kernel_rfl
theorem str_79 : isStr Tryz.prog 79 = false := by kernel_rfl
theorem cc_79 : isConc Tryz.prog 79 = true := by kernel_rfl
theorem und_79 : Tryz.prog.underlying 79 = some (.pointer 81) := by kernel_rfl
theorem kt_79 : kT Tryz.prog 79 = 2 := by kernel_rfl
theorem sz_80 : szOf Tryz.prog 80 = some 1 := by kernel_rfl
theorem row_80 : rowOf Tryz.prog 80 = some true := by kernel_rfl
theorem zero_80 : zeroOf Tryz.prog 80 = some [.slice none 0 0] := by kernel_rfl
theorem by_80 : bytesOf' Tryz.prog 80 = some 24 := by kernel_rfl
theorem str_80 : isStr Tryz.prog 80 = false := by kernel_rfl
theorem cc_80 : isConc Tryz.prog 80 = true := by kernel_rfl
theorem kt_80 : kT Tryz.prog 80 = 0 := by kernel_rfl
theorem pl_80 : placesOf Tryz.prog 80 = some [(0, 1)] := by kernel_rfl
theorem off_80_0 : offOf Tryz.prog 80 0 = some 0 := by kernel_rfl
theorem fld_80_0 : fldOf Tryz.prog 80 0 = some (0, 1, false) := by kernel_rfl
theorem sz_81 : szOf Tryz.prog 81 = some 1 := by kernel_rfl
theorem row_81 : rowOf Tryz.prog 81 = some true := by kernel_rfl
theorem zero_81 : zeroOf Tryz.prog 81 = some [.slice none 0 0] := by kernel_rfl
theorem by_81 : bytesOf' Tryz.prog 81 = some 24 := by kernel_rfl
theorem str_81 : isStr Tryz.prog 81 = false := by kernel_rfl
theorem cc_81 : isConc Tryz.prog 81 = true := by kernel_rfl
theorem kt_81 : kT Tryz.prog 81 = 0 := by kernel_rfl
theorem pl_81 : placesOf Tryz.prog 81 = some [(0, 1)] := by kernel_rfl
theorem off_81_0 : offOf Tryz.prog 81 0 = some 0 := by kernel_rfl
theorem fld_81_0 : fldOf Tryz.prog 81 0 = some (0, 1, false) := by kernel_rfl
theorem kt_82 : kT Tryz.prog 82 = 3 := by kernel_rfl
theorem sz_82 : szOf Tryz.prog 82 = some 1 := by kernel_rfl
theorem row_82 : rowOf Tryz.prog 82 = some false := by kernel_rfl
theorem kt_83 : kT Tryz.prog 83 = 3 := by kernel_rfl
theorem sz_83 : szOf Tryz.prog 83 = some 1 := by kernel_rfl
theorem row_83 : rowOf Tryz.prog 83 = some false := by kernel_rfl
theorem kt_84 : kT Tryz.prog 84 = 3 := by kernel_rfl
theorem sz_84 : szOf Tryz.prog 84 = some 1 := by kernel_rfl
theorem row_84 : rowOf Tryz.prog 84 = some false := by kernel_rfl
theorem kt_85 : kT Tryz.prog 85 = 3 := by kernel_rfl
theorem sz_85 : szOf Tryz.prog 85 = some 1 := by kernel_rfl
theorem row_85 : rowOf Tryz.prog 85 = some false := by kernel_rfl
theorem sz_86 : szOf Tryz.prog 86 = some 1 := by kernel_rfl
theorem row_86 : rowOf Tryz.prog 86 = some false := by kernel_rfl
theorem zero_86 : zeroOf Tryz.prog 86 = some [.int .u8 0] := by kernel_rfl
theorem by_86 : bytesOf' Tryz.prog 86 = some 1 := by kernel_rfl
theorem str_86 : isStr Tryz.prog 86 = false := by kernel_rfl
theorem kind_86 : kindOf' Tryz.prog 86 = some .u8 := by kernel_rfl
theorem cc_86 : isConc Tryz.prog 86 = true := by kernel_rfl
theorem kt_86 : kT Tryz.prog 86 = 0 := by kernel_rfl
theorem sz_88 : szOf Tryz.prog 88 = some 1 := by kernel_rfl
theorem row_88 : rowOf Tryz.prog 88 = some false := by kernel_rfl
theorem zero_88 : zeroOf Tryz.prog 88 = some [.string ⟨#[]⟩] := by kernel_rfl
theorem by_88 : bytesOf' Tryz.prog 88 = some 16 := by kernel_rfl
theorem str_88 : isStr Tryz.prog 88 = true := by kernel_rfl
theorem bs_88 : isBytes Tryz.prog 88 = false := by kernel_rfl
theorem cc_88 : isConc Tryz.prog 88 = true := by kernel_rfl
theorem kt_88 : kT Tryz.prog 88 = 0 := by kernel_rfl
theorem kt_89 : kT Tryz.prog 89 = 3 := by kernel_rfl
theorem sz_89 : szOf Tryz.prog 89 = some 1 := by kernel_rfl
theorem row_89 : rowOf Tryz.prog 89 = some false := by kernel_rfl
theorem kt_90 : kT Tryz.prog 90 = 3 := by kernel_rfl
theorem sz_90 : szOf Tryz.prog 90 = some 1 := by kernel_rfl
theorem row_90 : rowOf Tryz.prog 90 = some false := by kernel_rfl
theorem sz_91 : szOf Tryz.prog 91 = some 3 := by kernel_rfl
theorem row_91 : rowOf Tryz.prog 91 = some true := by kernel_rfl
theorem zero_91 : zeroOf Tryz.prog 91 = some [.int .i64 0, .string ⟨#[]⟩, .string ⟨#[]⟩] := by kernel_rfl
theorem by_91 : bytesOf' Tryz.prog 91 = some 40 := by kernel_rfl
theorem str_91 : isStr Tryz.prog 91 = false := by kernel_rfl
theorem cc_91 : isConc Tryz.prog 91 = true := by kernel_rfl
theorem kt_91 : kT Tryz.prog 91 = 0 := by kernel_rfl
theorem pl_91 : placesOf Tryz.prog 91 = some [(0, 1), (1, 1), (2, 1)] := by kernel_rfl
theorem off_91_0 : offOf Tryz.prog 91 0 = some 0 := by kernel_rfl
theorem fld_91_0 : fldOf Tryz.prog 91 0 = some (0, 1, false) := by kernel_rfl
theorem off_91_1 : offOf Tryz.prog 91 1 = some 1 := by kernel_rfl
theorem fld_91_1 : fldOf Tryz.prog 91 1 = some (1, 1, false) := by kernel_rfl
theorem off_91_2 : offOf Tryz.prog 91 2 = some 2 := by kernel_rfl
theorem fld_91_2 : fldOf Tryz.prog 91 2 = some (2, 1, false) := by kernel_rfl
theorem sz_92 : szOf Tryz.prog 92 = some 3 := by kernel_rfl
theorem row_92 : rowOf Tryz.prog 92 = some true := by kernel_rfl
theorem zero_92 : zeroOf Tryz.prog 92 = some [.int .i64 0, .string ⟨#[]⟩, .string ⟨#[]⟩] := by kernel_rfl
theorem by_92 : bytesOf' Tryz.prog 92 = some 40 := by kernel_rfl
theorem str_92 : isStr Tryz.prog 92 = false := by kernel_rfl
theorem cc_92 : isConc Tryz.prog 92 = true := by kernel_rfl
theorem kt_92 : kT Tryz.prog 92 = 0 := by kernel_rfl
theorem pl_92 : placesOf Tryz.prog 92 = some [(0, 1), (1, 1), (2, 1)] := by kernel_rfl
theorem off_92_0 : offOf Tryz.prog 92 0 = some 0 := by kernel_rfl
theorem fld_92_0 : fldOf Tryz.prog 92 0 = some (0, 1, false) := by kernel_rfl
theorem off_92_1 : offOf Tryz.prog 92 1 = some 1 := by kernel_rfl
theorem fld_92_1 : fldOf Tryz.prog 92 1 = some (1, 1, false) := by kernel_rfl
theorem off_92_2 : offOf Tryz.prog 92 2 = some 2 := by kernel_rfl
theorem fld_92_2 : fldOf Tryz.prog 92 2 = some (2, 1, false) := by kernel_rfl
theorem sz_93 : szOf Tryz.prog 93 = some 1 := by kernel_rfl
theorem row_93 : rowOf Tryz.prog 93 = some true := by kernel_rfl
theorem zero_93 : zeroOf Tryz.prog 93 = some [.int .i64 0] := by kernel_rfl
theorem by_93 : bytesOf' Tryz.prog 93 = some 8 := by kernel_rfl
theorem str_93 : isStr Tryz.prog 93 = false := by kernel_rfl
theorem cc_93 : isConc Tryz.prog 93 = true := by kernel_rfl
theorem kt_93 : kT Tryz.prog 93 = 0 := by kernel_rfl
theorem pl_93 : placesOf Tryz.prog 93 = some [(0, 1)] := by kernel_rfl
theorem off_93_0 : offOf Tryz.prog 93 0 = some 0 := by kernel_rfl
theorem fld_93_0 : fldOf Tryz.prog 93 0 = some (0, 1, false) := by kernel_rfl
theorem sz_94 : szOf Tryz.prog 94 = some 1 := by kernel_rfl
theorem row_94 : rowOf Tryz.prog 94 = some true := by kernel_rfl
theorem zero_94 : zeroOf Tryz.prog 94 = some [.int .i64 0] := by kernel_rfl
theorem by_94 : bytesOf' Tryz.prog 94 = some 8 := by kernel_rfl
theorem str_94 : isStr Tryz.prog 94 = false := by kernel_rfl
theorem cc_94 : isConc Tryz.prog 94 = true := by kernel_rfl
theorem kt_94 : kT Tryz.prog 94 = 0 := by kernel_rfl
theorem pl_94 : placesOf Tryz.prog 94 = some [(0, 1)] := by kernel_rfl
theorem off_94_0 : offOf Tryz.prog 94 0 = some 0 := by kernel_rfl
theorem fld_94_0 : fldOf Tryz.prog 94 0 = some (0, 1, false) := by kernel_rfl
theorem sz_95 : szOf Tryz.prog 95 = some 3 := by kernel_rfl
theorem row_95 : rowOf Tryz.prog 95 = some true := by kernel_rfl
theorem zero_95 : zeroOf Tryz.prog 95 = some [.int .i64 0, .bool false, .bool false] := by kernel_rfl
theorem by_95 : bytesOf' Tryz.prog 95 = some 16 := by kernel_rfl
theorem str_95 : isStr Tryz.prog 95 = false := by kernel_rfl
theorem cc_95 : isConc Tryz.prog 95 = true := by kernel_rfl
theorem kt_95 : kT Tryz.prog 95 = 0 := by kernel_rfl
theorem pl_95 : placesOf Tryz.prog 95 = some [(0, 1), (1, 1), (2, 1)] := by kernel_rfl
theorem off_95_0 : offOf Tryz.prog 95 0 = some 0 := by kernel_rfl
theorem fld_95_0 : fldOf Tryz.prog 95 0 = some (0, 1, false) := by kernel_rfl
theorem off_95_1 : offOf Tryz.prog 95 1 = some 1 := by kernel_rfl
theorem fld_95_1 : fldOf Tryz.prog 95 1 = some (1, 1, false) := by kernel_rfl
theorem off_95_2 : offOf Tryz.prog 95 2 = some 2 := by kernel_rfl
theorem fld_95_2 : fldOf Tryz.prog 95 2 = some (2, 1, false) := by kernel_rfl
theorem sz_96 : szOf Tryz.prog 96 = some 3 := by kernel_rfl
theorem row_96 : rowOf Tryz.prog 96 = some true := by kernel_rfl
theorem zero_96 : zeroOf Tryz.prog 96 = some [.int .i64 0, .bool false, .bool false] := by kernel_rfl
theorem by_96 : bytesOf' Tryz.prog 96 = some 16 := by kernel_rfl
theorem str_96 : isStr Tryz.prog 96 = false := by kernel_rfl
theorem cc_96 : isConc Tryz.prog 96 = true := by kernel_rfl
theorem kt_96 : kT Tryz.prog 96 = 0 := by kernel_rfl
theorem pl_96 : placesOf Tryz.prog 96 = some [(0, 1), (1, 1), (2, 1)] := by kernel_rfl
theorem off_96_0 : offOf Tryz.prog 96 0 = some 0 := by kernel_rfl
theorem fld_96_0 : fldOf Tryz.prog 96 0 = some (0, 1, false) := by kernel_rfl
theorem off_96_1 : offOf Tryz.prog 96 1 = some 1 := by kernel_rfl
theorem fld_96_1 : fldOf Tryz.prog 96 1 = some (1, 1, false) := by kernel_rfl
theorem off_96_2 : offOf Tryz.prog 96 2 = some 2 := by kernel_rfl
theorem fld_96_2 : fldOf Tryz.prog 96 2 = some (2, 1, false) := by kernel_rfl
theorem sz_97 : szOf Tryz.prog 97 = some 15 := by kernel_rfl
theorem row_97 : rowOf Tryz.prog 97 = some true := by kernel_rfl
theorem zero_97 : zeroOf Tryz.prog 97 = some [.int .i64 0, .int .i64 0, .bool false, .bool false, .int .i64 0, .bool false, .bool false, .int .i64 0, .int .i64 0, .int .i64 0, .int .i64 0, .string ⟨#[]⟩, .string ⟨#[]⟩, .bool false, .int .i64 0] := by kernel_rfl
theorem by_97 : bytesOf' Tryz.prog 97 = some 120 := by kernel_rfl
theorem str_97 : isStr Tryz.prog 97 = false := by kernel_rfl
theorem cc_97 : isConc Tryz.prog 97 = true := by kernel_rfl
theorem kt_97 : kT Tryz.prog 97 = 0 := by kernel_rfl
theorem pl_97 : placesOf Tryz.prog 97 = some [(0, 1), (1, 3), (4, 3), (7, 1), (8, 1), (9, 1), (10, 3), (13, 1), (14, 1)] := by kernel_rfl
theorem off_97_0 : offOf Tryz.prog 97 0 = some 0 := by kernel_rfl
theorem fld_97_0 : fldOf Tryz.prog 97 0 = some (0, 1, false) := by kernel_rfl
theorem off_97_1 : offOf Tryz.prog 97 1 = some 1 := by kernel_rfl
theorem fld_97_1 : fldOf Tryz.prog 97 1 = some (1, 3, true) := by kernel_rfl
theorem off_97_2 : offOf Tryz.prog 97 2 = some 4 := by kernel_rfl
theorem fld_97_2 : fldOf Tryz.prog 97 2 = some (4, 3, true) := by kernel_rfl
theorem off_97_3 : offOf Tryz.prog 97 3 = some 7 := by kernel_rfl
theorem fld_97_3 : fldOf Tryz.prog 97 3 = some (7, 1, false) := by kernel_rfl
theorem off_97_4 : offOf Tryz.prog 97 4 = some 8 := by kernel_rfl
theorem fld_97_4 : fldOf Tryz.prog 97 4 = some (8, 1, false) := by kernel_rfl
theorem off_97_5 : offOf Tryz.prog 97 5 = some 9 := by kernel_rfl
theorem fld_97_5 : fldOf Tryz.prog 97 5 = some (9, 1, false) := by kernel_rfl
theorem off_97_6 : offOf Tryz.prog 97 6 = some 10 := by kernel_rfl
theorem fld_97_6 : fldOf Tryz.prog 97 6 = some (10, 3, true) := by kernel_rfl
theorem off_97_7 : offOf Tryz.prog 97 7 = some 13 := by kernel_rfl
theorem fld_97_7 : fldOf Tryz.prog 97 7 = some (13, 1, false) := by kernel_rfl
theorem off_97_8 : offOf Tryz.prog 97 8 = some 14 := by kernel_rfl
theorem fld_97_8 : fldOf Tryz.prog 97 8 = some (14, 1, false) := by kernel_rfl
theorem sz_98 : szOf Tryz.prog 98 = some 15 := by kernel_rfl
theorem row_98 : rowOf Tryz.prog 98 = some true := by kernel_rfl
theorem zero_98 : zeroOf Tryz.prog 98 = some [.int .i64 0, .int .i64 0, .bool false, .bool false, .int .i64 0, .bool false, .bool false, .int .i64 0, .int .i64 0, .int .i64 0, .int .i64 0, .string ⟨#[]⟩, .string ⟨#[]⟩, .bool false, .int .i64 0] := by kernel_rfl
theorem by_98 : bytesOf' Tryz.prog 98 = some 120 := by kernel_rfl
theorem str_98 : isStr Tryz.prog 98 = false := by kernel_rfl
theorem cc_98 : isConc Tryz.prog 98 = true := by kernel_rfl
theorem kt_98 : kT Tryz.prog 98 = 0 := by kernel_rfl
theorem pl_98 : placesOf Tryz.prog 98 = some [(0, 1), (1, 3), (4, 3), (7, 1), (8, 1), (9, 1), (10, 3), (13, 1), (14, 1)] := by kernel_rfl
theorem off_98_0 : offOf Tryz.prog 98 0 = some 0 := by kernel_rfl
theorem fld_98_0 : fldOf Tryz.prog 98 0 = some (0, 1, false) := by kernel_rfl
theorem off_98_1 : offOf Tryz.prog 98 1 = some 1 := by kernel_rfl
theorem fld_98_1 : fldOf Tryz.prog 98 1 = some (1, 3, true) := by kernel_rfl
theorem off_98_2 : offOf Tryz.prog 98 2 = some 4 := by kernel_rfl
theorem fld_98_2 : fldOf Tryz.prog 98 2 = some (4, 3, true) := by kernel_rfl
theorem off_98_3 : offOf Tryz.prog 98 3 = some 7 := by kernel_rfl
theorem fld_98_3 : fldOf Tryz.prog 98 3 = some (7, 1, false) := by kernel_rfl
theorem off_98_4 : offOf Tryz.prog 98 4 = some 8 := by kernel_rfl
theorem fld_98_4 : fldOf Tryz.prog 98 4 = some (8, 1, false) := by kernel_rfl
theorem off_98_5 : offOf Tryz.prog 98 5 = some 9 := by kernel_rfl
theorem fld_98_5 : fldOf Tryz.prog 98 5 = some (9, 1, false) := by kernel_rfl
theorem off_98_6 : offOf Tryz.prog 98 6 = some 10 := by kernel_rfl
theorem fld_98_6 : fldOf Tryz.prog 98 6 = some (10, 3, true) := by kernel_rfl
theorem off_98_7 : offOf Tryz.prog 98 7 = some 13 := by kernel_rfl
theorem fld_98_7 : fldOf Tryz.prog 98 7 = some (13, 1, false) := by kernel_rfl
theorem off_98_8 : offOf Tryz.prog 98 8 = some 14 := by kernel_rfl
theorem fld_98_8 : fldOf Tryz.prog 98 8 = some (14, 1, false) := by kernel_rfl
theorem kt_99 : kT Tryz.prog 99 = 3 := by kernel_rfl
theorem sz_99 : szOf Tryz.prog 99 = some 1 := by kernel_rfl
theorem row_99 : rowOf Tryz.prog 99 = some false := by kernel_rfl
theorem kt_100 : kT Tryz.prog 100 = 3 := by kernel_rfl
theorem sz_100 : szOf Tryz.prog 100 = some 1 := by kernel_rfl
theorem row_100 : rowOf Tryz.prog 100 = some false := by kernel_rfl
theorem kt_101 : kT Tryz.prog 101 = 3 := by kernel_rfl
theorem sz_101 : szOf Tryz.prog 101 = some 1 := by kernel_rfl
theorem row_101 : rowOf Tryz.prog 101 = some false := by kernel_rfl
theorem kt_102 : kT Tryz.prog 102 = 3 := by kernel_rfl
theorem sz_102 : szOf Tryz.prog 102 = some 1 := by kernel_rfl
theorem row_102 : rowOf Tryz.prog 102 = some false := by kernel_rfl
theorem kt_103 : kT Tryz.prog 103 = 3 := by kernel_rfl
theorem sz_103 : szOf Tryz.prog 103 = some 1 := by kernel_rfl
theorem row_103 : rowOf Tryz.prog 103 = some false := by kernel_rfl
theorem sz_104 : szOf Tryz.prog 104 = some 1 := by kernel_rfl
theorem row_104 : rowOf Tryz.prog 104 = some false := by kernel_rfl
theorem zero_104 : zeroOf Tryz.prog 104 = some [.int .u64 0] := by kernel_rfl
theorem by_104 : bytesOf' Tryz.prog 104 = some 8 := by kernel_rfl
theorem str_104 : isStr Tryz.prog 104 = false := by kernel_rfl
theorem kind_104 : kindOf' Tryz.prog 104 = some .u64 := by kernel_rfl
theorem cc_104 : isConc Tryz.prog 104 = true := by kernel_rfl
theorem kt_104 : kT Tryz.prog 104 = 0 := by kernel_rfl
theorem kt_105 : kT Tryz.prog 105 = 3 := by kernel_rfl
theorem sz_105 : szOf Tryz.prog 105 = some 1 := by kernel_rfl
theorem row_105 : rowOf Tryz.prog 105 = some false := by kernel_rfl
theorem sz_106 : szOf Tryz.prog 106 = some 2 := by kernel_rfl
theorem row_106 : rowOf Tryz.prog 106 = some true := by kernel_rfl
theorem zero_106 : zeroOf Tryz.prog 106 = some [.nilFunc, .int .i64 0] := by kernel_rfl
theorem by_106 : bytesOf' Tryz.prog 106 = some 16 := by kernel_rfl
theorem str_106 : isStr Tryz.prog 106 = false := by kernel_rfl
theorem cc_106 : isConc Tryz.prog 106 = true := by kernel_rfl
theorem kt_106 : kT Tryz.prog 106 = 0 := by kernel_rfl
theorem pl_106 : placesOf Tryz.prog 106 = some [(0, 1), (1, 1)] := by kernel_rfl
theorem off_106_0 : offOf Tryz.prog 106 0 = some 0 := by kernel_rfl
theorem fld_106_0 : fldOf Tryz.prog 106 0 = some (0, 1, false) := by kernel_rfl
theorem off_106_1 : offOf Tryz.prog 106 1 = some 1 := by kernel_rfl
theorem fld_106_1 : fldOf Tryz.prog 106 1 = some (1, 1, false) := by kernel_rfl
theorem sz_107 : szOf Tryz.prog 107 = some 2 := by kernel_rfl
theorem row_107 : rowOf Tryz.prog 107 = some true := by kernel_rfl
theorem zero_107 : zeroOf Tryz.prog 107 = some [.nilFunc, .int .i64 0] := by kernel_rfl
theorem by_107 : bytesOf' Tryz.prog 107 = some 16 := by kernel_rfl
theorem str_107 : isStr Tryz.prog 107 = false := by kernel_rfl
theorem cc_107 : isConc Tryz.prog 107 = true := by kernel_rfl
theorem kt_107 : kT Tryz.prog 107 = 0 := by kernel_rfl
theorem pl_107 : placesOf Tryz.prog 107 = some [(0, 1), (1, 1)] := by kernel_rfl
theorem off_107_0 : offOf Tryz.prog 107 0 = some 0 := by kernel_rfl
theorem fld_107_0 : fldOf Tryz.prog 107 0 = some (0, 1, false) := by kernel_rfl
theorem off_107_1 : offOf Tryz.prog 107 1 = some 1 := by kernel_rfl
theorem fld_107_1 : fldOf Tryz.prog 107 1 = some (1, 1, false) := by kernel_rfl
theorem sz_109 : szOf Tryz.prog 109 = some 1 := by kernel_rfl
theorem row_109 : rowOf Tryz.prog 109 = some false := by kernel_rfl
theorem zero_109 : zeroOf Tryz.prog 109 = some [.slice none 0 0] := by kernel_rfl
theorem by_109 : bytesOf' Tryz.prog 109 = some 24 := by kernel_rfl
theorem el_109 : elOf Tryz.prog 109 = some 143 := by kernel_rfl
theorem str_109 : isStr Tryz.prog 109 = false := by kernel_rfl
theorem bs_109 : isBytes Tryz.prog 109 = false := by kernel_rfl
theorem cc_109 : isConc Tryz.prog 109 = true := by kernel_rfl
theorem und_109 : Tryz.prog.underlying 109 = some (.slice 143) := by kernel_rfl
theorem kt_109 : kT Tryz.prog 109 = 1 := by kernel_rfl
theorem kt_111 : kT Tryz.prog 111 = 3 := by kernel_rfl
theorem sz_111 : szOf Tryz.prog 111 = some 1 := by kernel_rfl
theorem row_111 : rowOf Tryz.prog 111 = some false := by kernel_rfl
theorem kt_113 : kT Tryz.prog 113 = 3 := by kernel_rfl
theorem sz_113 : szOf Tryz.prog 113 = some 1 := by kernel_rfl
theorem row_113 : rowOf Tryz.prog 113 = some false := by kernel_rfl
theorem kt_114 : kT Tryz.prog 114 = 3 := by kernel_rfl
theorem sz_114 : szOf Tryz.prog 114 = some 1 := by kernel_rfl
theorem row_114 : rowOf Tryz.prog 114 = some false := by kernel_rfl
theorem kt_116 : kT Tryz.prog 116 = 3 := by kernel_rfl
theorem sz_116 : szOf Tryz.prog 116 = some 1 := by kernel_rfl
theorem row_116 : rowOf Tryz.prog 116 = some false := by kernel_rfl
theorem kt_117 : kT Tryz.prog 117 = 3 := by kernel_rfl
theorem sz_117 : szOf Tryz.prog 117 = some 1 := by kernel_rfl
theorem row_117 : rowOf Tryz.prog 117 = some false := by kernel_rfl
theorem kt_118 : kT Tryz.prog 118 = 3 := by kernel_rfl
theorem sz_118 : szOf Tryz.prog 118 = some 1 := by kernel_rfl
theorem row_118 : rowOf Tryz.prog 118 = some false := by kernel_rfl
theorem kt_119 : kT Tryz.prog 119 = 3 := by kernel_rfl
theorem sz_119 : szOf Tryz.prog 119 = some 1 := by kernel_rfl
theorem row_119 : rowOf Tryz.prog 119 = some false := by kernel_rfl
theorem kt_120 : kT Tryz.prog 120 = 3 := by kernel_rfl
theorem sz_120 : szOf Tryz.prog 120 = some 1 := by kernel_rfl
theorem row_120 : rowOf Tryz.prog 120 = some false := by kernel_rfl
theorem kt_121 : kT Tryz.prog 121 = 3 := by kernel_rfl
theorem sz_121 : szOf Tryz.prog 121 = some 1 := by kernel_rfl
theorem row_121 : rowOf Tryz.prog 121 = some false := by kernel_rfl
theorem kt_123 : kT Tryz.prog 123 = 3 := by kernel_rfl
theorem sz_123 : szOf Tryz.prog 123 = some 1 := by kernel_rfl
theorem row_123 : rowOf Tryz.prog 123 = some false := by kernel_rfl
theorem kt_124 : kT Tryz.prog 124 = 3 := by kernel_rfl
theorem sz_124 : szOf Tryz.prog 124 = some 1 := by kernel_rfl
theorem row_124 : rowOf Tryz.prog 124 = some false := by kernel_rfl
theorem kt_125 : kT Tryz.prog 125 = 3 := by kernel_rfl
theorem sz_125 : szOf Tryz.prog 125 = some 1 := by kernel_rfl
theorem row_125 : rowOf Tryz.prog 125 = some false := by kernel_rfl
theorem kt_126 : kT Tryz.prog 126 = 3 := by kernel_rfl
theorem sz_126 : szOf Tryz.prog 126 = some 1 := by kernel_rfl
theorem row_126 : rowOf Tryz.prog 126 = some false := by kernel_rfl
theorem kt_127 : kT Tryz.prog 127 = 3 := by kernel_rfl
theorem sz_127 : szOf Tryz.prog 127 = some 1 := by kernel_rfl
theorem row_127 : rowOf Tryz.prog 127 = some false := by kernel_rfl
theorem sz_128 : szOf Tryz.prog 128 = some 1 := by kernel_rfl
theorem row_128 : rowOf Tryz.prog 128 = some false := by kernel_rfl
theorem zero_128 : zeroOf Tryz.prog 128 = some [.int .u32 0] := by kernel_rfl
theorem by_128 : bytesOf' Tryz.prog 128 = some 4 := by kernel_rfl
theorem str_128 : isStr Tryz.prog 128 = false := by kernel_rfl
theorem kind_128 : kindOf' Tryz.prog 128 = some .u32 := by kernel_rfl
theorem cc_128 : isConc Tryz.prog 128 = true := by kernel_rfl
theorem kt_128 : kT Tryz.prog 128 = 0 := by kernel_rfl
theorem kt_130 : kT Tryz.prog 130 = 3 := by kernel_rfl
theorem sz_130 : szOf Tryz.prog 130 = some 1 := by kernel_rfl
theorem row_130 : rowOf Tryz.prog 130 = some false := by kernel_rfl
theorem kt_131 : kT Tryz.prog 131 = 3 := by kernel_rfl
theorem sz_131 : szOf Tryz.prog 131 = some 1 := by kernel_rfl
theorem row_131 : rowOf Tryz.prog 131 = some false := by kernel_rfl
theorem kt_133 : kT Tryz.prog 133 = 3 := by kernel_rfl
theorem sz_133 : szOf Tryz.prog 133 = some 1 := by kernel_rfl
theorem row_133 : rowOf Tryz.prog 133 = some false := by kernel_rfl
theorem kt_135 : kT Tryz.prog 135 = 3 := by kernel_rfl
theorem sz_135 : szOf Tryz.prog 135 = some 1 := by kernel_rfl
theorem row_135 : rowOf Tryz.prog 135 = some false := by kernel_rfl
theorem sz_136 : szOf Tryz.prog 136 = some 1 := by kernel_rfl
theorem row_136 : rowOf Tryz.prog 136 = some true := by kernel_rfl
theorem zero_136 : zeroOf Tryz.prog 136 = some [.int .i64 0] := by kernel_rfl
theorem by_136 : bytesOf' Tryz.prog 136 = some 8 := by kernel_rfl
theorem str_136 : isStr Tryz.prog 136 = false := by kernel_rfl
theorem cc_136 : isConc Tryz.prog 136 = true := by kernel_rfl
theorem kt_136 : kT Tryz.prog 136 = 0 := by kernel_rfl
theorem pl_136 : placesOf Tryz.prog 136 = some [(0, 1)] := by kernel_rfl
theorem off_136_0 : offOf Tryz.prog 136 0 = some 0 := by kernel_rfl
theorem fld_136_0 : fldOf Tryz.prog 136 0 = some (0, 1, false) := by kernel_rfl
theorem sz_137 : szOf Tryz.prog 137 = some 1 := by kernel_rfl
theorem row_137 : rowOf Tryz.prog 137 = some true := by kernel_rfl
theorem zero_137 : zeroOf Tryz.prog 137 = some [.int .i64 0] := by kernel_rfl
theorem by_137 : bytesOf' Tryz.prog 137 = some 8 := by kernel_rfl
theorem str_137 : isStr Tryz.prog 137 = false := by kernel_rfl
theorem cc_137 : isConc Tryz.prog 137 = true := by kernel_rfl
theorem kt_137 : kT Tryz.prog 137 = 0 := by kernel_rfl
theorem pl_137 : placesOf Tryz.prog 137 = some [(0, 1)] := by kernel_rfl
theorem off_137_0 : offOf Tryz.prog 137 0 = some 0 := by kernel_rfl
theorem fld_137_0 : fldOf Tryz.prog 137 0 = some (0, 1, false) := by kernel_rfl
theorem sz_138 : szOf Tryz.prog 138 = some 1 := by kernel_rfl
theorem row_138 : rowOf Tryz.prog 138 = some false := by kernel_rfl
theorem zero_138 : zeroOf Tryz.prog 138 = some [.pointer none] := by kernel_rfl
theorem by_138 : bytesOf' Tryz.prog 138 = some 8 := by kernel_rfl
theorem str_138 : isStr Tryz.prog 138 = false := by kernel_rfl
theorem cc_138 : isConc Tryz.prog 138 = true := by kernel_rfl
theorem und_138 : Tryz.prog.underlying 138 = some (.pointer 140) := by kernel_rfl
theorem kt_138 : kT Tryz.prog 138 = 2 := by kernel_rfl
theorem sz_139 : szOf Tryz.prog 139 = some 4 := by kernel_rfl
theorem row_139 : rowOf Tryz.prog 139 = some true := by kernel_rfl
theorem zero_139 : zeroOf Tryz.prog 139 = some [.slice none 0 0, .int .i64 0, .int .i64 0, .slice none 0 0] := by kernel_rfl
theorem by_139 : bytesOf' Tryz.prog 139 = some 64 := by kernel_rfl
theorem str_139 : isStr Tryz.prog 139 = false := by kernel_rfl
theorem cc_139 : isConc Tryz.prog 139 = true := by kernel_rfl
theorem kt_139 : kT Tryz.prog 139 = 0 := by kernel_rfl
theorem pl_139 : placesOf Tryz.prog 139 = some [(0, 1), (1, 1), (2, 1), (3, 1)] := by kernel_rfl
theorem off_139_0 : offOf Tryz.prog 139 0 = some 0 := by kernel_rfl
theorem fld_139_0 : fldOf Tryz.prog 139 0 = some (0, 1, false) := by kernel_rfl
theorem off_139_1 : offOf Tryz.prog 139 1 = some 1 := by kernel_rfl
theorem fld_139_1 : fldOf Tryz.prog 139 1 = some (1, 1, false) := by kernel_rfl
theorem off_139_2 : offOf Tryz.prog 139 2 = some 2 := by kernel_rfl
theorem fld_139_2 : fldOf Tryz.prog 139 2 = some (2, 1, false) := by kernel_rfl
theorem off_139_3 : offOf Tryz.prog 139 3 = some 3 := by kernel_rfl
theorem fld_139_3 : fldOf Tryz.prog 139 3 = some (3, 1, false) := by kernel_rfl
theorem sz_140 : szOf Tryz.prog 140 = some 4 := by kernel_rfl
theorem row_140 : rowOf Tryz.prog 140 = some true := by kernel_rfl
theorem zero_140 : zeroOf Tryz.prog 140 = some [.slice none 0 0, .int .i64 0, .int .i64 0, .slice none 0 0] := by kernel_rfl
theorem by_140 : bytesOf' Tryz.prog 140 = some 64 := by kernel_rfl
theorem str_140 : isStr Tryz.prog 140 = false := by kernel_rfl
theorem cc_140 : isConc Tryz.prog 140 = true := by kernel_rfl
theorem kt_140 : kT Tryz.prog 140 = 0 := by kernel_rfl
theorem pl_140 : placesOf Tryz.prog 140 = some [(0, 1), (1, 1), (2, 1), (3, 1)] := by kernel_rfl
theorem off_140_0 : offOf Tryz.prog 140 0 = some 0 := by kernel_rfl
theorem fld_140_0 : fldOf Tryz.prog 140 0 = some (0, 1, false) := by kernel_rfl
theorem off_140_1 : offOf Tryz.prog 140 1 = some 1 := by kernel_rfl
theorem fld_140_1 : fldOf Tryz.prog 140 1 = some (1, 1, false) := by kernel_rfl
theorem off_140_2 : offOf Tryz.prog 140 2 = some 2 := by kernel_rfl
theorem fld_140_2 : fldOf Tryz.prog 140 2 = some (2, 1, false) := by kernel_rfl
theorem off_140_3 : offOf Tryz.prog 140 3 = some 3 := by kernel_rfl
theorem fld_140_3 : fldOf Tryz.prog 140 3 = some (3, 1, false) := by kernel_rfl
theorem kt_141 : kT Tryz.prog 141 = 3 := by kernel_rfl
theorem sz_141 : szOf Tryz.prog 141 = some 1 := by kernel_rfl
theorem row_141 : rowOf Tryz.prog 141 = some false := by kernel_rfl
theorem sz_142 : szOf Tryz.prog 142 = some 3 := by kernel_rfl
theorem row_142 : rowOf Tryz.prog 142 = some true := by kernel_rfl
theorem zero_142 : zeroOf Tryz.prog 142 = some [.int .i64 0, .int .i64 0, .string ⟨#[]⟩] := by kernel_rfl
theorem by_142 : bytesOf' Tryz.prog 142 = some 32 := by kernel_rfl
theorem str_142 : isStr Tryz.prog 142 = false := by kernel_rfl
theorem cc_142 : isConc Tryz.prog 142 = true := by kernel_rfl
theorem kt_142 : kT Tryz.prog 142 = 0 := by kernel_rfl
theorem pl_142 : placesOf Tryz.prog 142 = some [(0, 1), (1, 1), (2, 1)] := by kernel_rfl
theorem off_142_0 : offOf Tryz.prog 142 0 = some 0 := by kernel_rfl
theorem fld_142_0 : fldOf Tryz.prog 142 0 = some (0, 1, false) := by kernel_rfl
theorem off_142_1 : offOf Tryz.prog 142 1 = some 1 := by kernel_rfl
theorem fld_142_1 : fldOf Tryz.prog 142 1 = some (1, 1, false) := by kernel_rfl
theorem off_142_2 : offOf Tryz.prog 142 2 = some 2 := by kernel_rfl
theorem fld_142_2 : fldOf Tryz.prog 142 2 = some (2, 1, false) := by kernel_rfl
theorem sz_143 : szOf Tryz.prog 143 = some 3 := by kernel_rfl
theorem row_143 : rowOf Tryz.prog 143 = some true := by kernel_rfl
theorem zero_143 : zeroOf Tryz.prog 143 = some [.int .i64 0, .int .i64 0, .string ⟨#[]⟩] := by kernel_rfl
theorem by_143 : bytesOf' Tryz.prog 143 = some 32 := by kernel_rfl
theorem str_143 : isStr Tryz.prog 143 = false := by kernel_rfl
theorem cc_143 : isConc Tryz.prog 143 = true := by kernel_rfl
theorem kt_143 : kT Tryz.prog 143 = 0 := by kernel_rfl
theorem pl_143 : placesOf Tryz.prog 143 = some [(0, 1), (1, 1), (2, 1)] := by kernel_rfl
theorem off_143_0 : offOf Tryz.prog 143 0 = some 0 := by kernel_rfl
theorem fld_143_0 : fldOf Tryz.prog 143 0 = some (0, 1, false) := by kernel_rfl
theorem off_143_1 : offOf Tryz.prog 143 1 = some 1 := by kernel_rfl
theorem fld_143_1 : fldOf Tryz.prog 143 1 = some (1, 1, false) := by kernel_rfl
theorem off_143_2 : offOf Tryz.prog 143 2 = some 2 := by kernel_rfl
theorem fld_143_2 : fldOf Tryz.prog 143 2 = some (2, 1, false) := by kernel_rfl
theorem kt_144 : kT Tryz.prog 144 = 3 := by kernel_rfl
theorem sz_144 : szOf Tryz.prog 144 = some 1 := by kernel_rfl
theorem row_144 : rowOf Tryz.prog 144 = some false := by kernel_rfl
theorem kt_146 : kT Tryz.prog 146 = 3 := by kernel_rfl
theorem sz_146 : szOf Tryz.prog 146 = some 1 := by kernel_rfl
theorem row_146 : rowOf Tryz.prog 146 = some false := by kernel_rfl
theorem kt_148 : kT Tryz.prog 148 = 3 := by kernel_rfl
theorem sz_148 : szOf Tryz.prog 148 = some 1 := by kernel_rfl
theorem row_148 : rowOf Tryz.prog 148 = some false := by kernel_rfl
theorem kt_149 : kT Tryz.prog 149 = 3 := by kernel_rfl
theorem sz_149 : szOf Tryz.prog 149 = some 1 := by kernel_rfl
theorem row_149 : rowOf Tryz.prog 149 = some false := by kernel_rfl
theorem sz_150 : szOf Tryz.prog 150 = some 1 := by kernel_rfl
theorem row_150 : rowOf Tryz.prog 150 = some false := by kernel_rfl
theorem zero_150 : zeroOf Tryz.prog 150 = some [.slice none 0 0] := by kernel_rfl
theorem by_150 : bytesOf' Tryz.prog 150 = some 24 := by kernel_rfl
theorem el_150 : elOf Tryz.prog 150 = some 3 := by kernel_rfl
theorem str_150 : isStr Tryz.prog 150 = false := by kernel_rfl
theorem bs_150 : isBytes Tryz.prog 150 = false := by kernel_rfl
theorem cc_150 : isConc Tryz.prog 150 = true := by kernel_rfl
theorem und_150 : Tryz.prog.underlying 150 = some (.slice 3) := by kernel_rfl
theorem kt_150 : kT Tryz.prog 150 = 1 := by kernel_rfl
theorem sz_151 : szOf Tryz.prog 151 = some 5 := by kernel_rfl
theorem row_151 : rowOf Tryz.prog 151 = some true := by kernel_rfl
theorem zero_151 : zeroOf Tryz.prog 151 = some [.int .i64 0, .int .i64 0, .int .i64 0, .int .i64 0, .int .i64 0] := by kernel_rfl
theorem by_151 : bytesOf' Tryz.prog 151 = some 40 := by kernel_rfl
theorem str_151 : isStr Tryz.prog 151 = false := by kernel_rfl
theorem cc_151 : isConc Tryz.prog 151 = true := by kernel_rfl
theorem und_151 : Tryz.prog.underlying 151 = some (.array 5 3) := by kernel_rfl
theorem kt_151 : kT Tryz.prog 151 = 0 := by kernel_rfl
theorem asz_151 : arrSz Tryz.prog 151 = some 1 := by kernel_rfl
theorem pl_151 : placesOf Tryz.prog 151 = none := by kernel_rfl
theorem arr_151 : arrOf Tryz.prog 151 = some (5, 1) := by kernel_rfl
theorem kt_152 : kT Tryz.prog 152 = 3 := by kernel_rfl
theorem sz_152 : szOf Tryz.prog 152 = some 1 := by kernel_rfl
theorem row_152 : rowOf Tryz.prog 152 = some false := by kernel_rfl
theorem kt_153 : kT Tryz.prog 153 = 3 := by kernel_rfl
theorem sz_153 : szOf Tryz.prog 153 = some 1 := by kernel_rfl
theorem row_153 : rowOf Tryz.prog 153 = some false := by kernel_rfl
theorem kt_154 : kT Tryz.prog 154 = 3 := by kernel_rfl
theorem sz_154 : szOf Tryz.prog 154 = some 1 := by kernel_rfl
theorem row_154 : rowOf Tryz.prog 154 = some false := by kernel_rfl
theorem kt_155 : kT Tryz.prog 155 = 3 := by kernel_rfl
theorem sz_155 : szOf Tryz.prog 155 = some 1 := by kernel_rfl
theorem row_155 : rowOf Tryz.prog 155 = some false := by kernel_rfl
theorem sz_156 : szOf Tryz.prog 156 = some 2 := by kernel_rfl
theorem row_156 : rowOf Tryz.prog 156 = some true := by kernel_rfl
theorem zero_156 : zeroOf Tryz.prog 156 = some [.string ⟨#[]⟩, .string ⟨#[]⟩] := by kernel_rfl
theorem by_156 : bytesOf' Tryz.prog 156 = some 32 := by kernel_rfl
theorem str_156 : isStr Tryz.prog 156 = false := by kernel_rfl
theorem cc_156 : isConc Tryz.prog 156 = true := by kernel_rfl
theorem und_156 : Tryz.prog.underlying 156 = some (.array 2 9) := by kernel_rfl
theorem kt_156 : kT Tryz.prog 156 = 0 := by kernel_rfl
theorem asz_156 : arrSz Tryz.prog 156 = some 1 := by kernel_rfl
theorem pl_156 : placesOf Tryz.prog 156 = none := by kernel_rfl
theorem arr_156 : arrOf Tryz.prog 156 = some (2, 1) := by kernel_rfl
theorem kt_157 : kT Tryz.prog 157 = 3 := by kernel_rfl
theorem sz_157 : szOf Tryz.prog 157 = some 1 := by kernel_rfl
theorem row_157 : rowOf Tryz.prog 157 = some false := by kernel_rfl
theorem kt_158 : kT Tryz.prog 158 = 3 := by kernel_rfl
theorem sz_158 : szOf Tryz.prog 158 = some 1 := by kernel_rfl
theorem row_158 : rowOf Tryz.prog 158 = some false := by kernel_rfl
theorem kt_159 : kT Tryz.prog 159 = 3 := by kernel_rfl
theorem sz_159 : szOf Tryz.prog 159 = some 1 := by kernel_rfl
theorem row_159 : rowOf Tryz.prog 159 = some false := by kernel_rfl
theorem kt_160 : kT Tryz.prog 160 = 3 := by kernel_rfl
theorem sz_160 : szOf Tryz.prog 160 = some 1 := by kernel_rfl
theorem row_160 : rowOf Tryz.prog 160 = some false := by kernel_rfl
theorem kt_161 : kT Tryz.prog 161 = 3 := by kernel_rfl
theorem sz_161 : szOf Tryz.prog 161 = some 1 := by kernel_rfl
theorem row_161 : rowOf Tryz.prog 161 = some false := by kernel_rfl
theorem kt_162 : kT Tryz.prog 162 = 3 := by kernel_rfl
theorem sz_162 : szOf Tryz.prog 162 = some 1 := by kernel_rfl
theorem row_162 : rowOf Tryz.prog 162 = some false := by kernel_rfl
theorem sz_163 : szOf Tryz.prog 163 = some 1 := by kernel_rfl
theorem row_163 : rowOf Tryz.prog 163 = some false := by kernel_rfl
theorem zero_163 : zeroOf Tryz.prog 163 = some [.nilIface] := by kernel_rfl
theorem by_163 : bytesOf' Tryz.prog 163 = some 16 := by kernel_rfl
theorem str_163 : isStr Tryz.prog 163 = false := by kernel_rfl
theorem cc_163 : isConc Tryz.prog 163 = false := by kernel_rfl
theorem kt_163 : kT Tryz.prog 163 = 4 := by kernel_rfl
theorem sz_164 : szOf Tryz.prog 164 = some 1 := by kernel_rfl
theorem row_164 : rowOf Tryz.prog 164 = some false := by kernel_rfl
theorem zero_164 : zeroOf Tryz.prog 164 = some [.nilIface] := by kernel_rfl
theorem by_164 : bytesOf' Tryz.prog 164 = some 16 := by kernel_rfl
theorem str_164 : isStr Tryz.prog 164 = false := by kernel_rfl
theorem cc_164 : isConc Tryz.prog 164 = false := by kernel_rfl
theorem kt_164 : kT Tryz.prog 164 = 4 := by kernel_rfl
theorem kt_166 : kT Tryz.prog 166 = 3 := by kernel_rfl
theorem sz_166 : szOf Tryz.prog 166 = some 1 := by kernel_rfl
theorem row_166 : rowOf Tryz.prog 166 = some false := by kernel_rfl
theorem kt_168 : kT Tryz.prog 168 = 3 := by kernel_rfl
theorem sz_168 : szOf Tryz.prog 168 = some 1 := by kernel_rfl
theorem row_168 : rowOf Tryz.prog 168 = some false := by kernel_rfl
theorem kt_169 : kT Tryz.prog 169 = 3 := by kernel_rfl
theorem sz_169 : szOf Tryz.prog 169 = some 1 := by kernel_rfl
theorem row_169 : rowOf Tryz.prog 169 = some false := by kernel_rfl
theorem kt_170 : kT Tryz.prog 170 = 3 := by kernel_rfl
theorem sz_170 : szOf Tryz.prog 170 = some 1 := by kernel_rfl
theorem row_170 : rowOf Tryz.prog 170 = some false := by kernel_rfl
theorem kt_171 : kT Tryz.prog 171 = 3 := by kernel_rfl
theorem sz_171 : szOf Tryz.prog 171 = some 1 := by kernel_rfl
theorem row_171 : rowOf Tryz.prog 171 = some false := by kernel_rfl
theorem kt_172 : kT Tryz.prog 172 = 3 := by kernel_rfl
theorem sz_172 : szOf Tryz.prog 172 = some 1 := by kernel_rfl
theorem row_172 : rowOf Tryz.prog 172 = some false := by kernel_rfl
theorem kt_173 : kT Tryz.prog 173 = 3 := by kernel_rfl
theorem sz_173 : szOf Tryz.prog 173 = some 1 := by kernel_rfl
theorem row_173 : rowOf Tryz.prog 173 = some false := by kernel_rfl
theorem kt_174 : kT Tryz.prog 174 = 3 := by kernel_rfl
theorem sz_174 : szOf Tryz.prog 174 = some 1 := by kernel_rfl
theorem row_174 : rowOf Tryz.prog 174 = some false := by kernel_rfl
theorem kt_176 : kT Tryz.prog 176 = 3 := by kernel_rfl
theorem sz_176 : szOf Tryz.prog 176 = some 1 := by kernel_rfl
theorem row_176 : rowOf Tryz.prog 176 = some false := by kernel_rfl
theorem kt_178 : kT Tryz.prog 178 = 3 := by kernel_rfl
theorem sz_178 : szOf Tryz.prog 178 = some 1 := by kernel_rfl
theorem row_178 : rowOf Tryz.prog 178 = some false := by kernel_rfl
theorem kt_179 : kT Tryz.prog 179 = 3 := by kernel_rfl
theorem sz_179 : szOf Tryz.prog 179 = some 1 := by kernel_rfl
theorem row_179 : rowOf Tryz.prog 179 = some false := by kernel_rfl
theorem kt_180 : kT Tryz.prog 180 = 3 := by kernel_rfl
theorem sz_180 : szOf Tryz.prog 180 = some 1 := by kernel_rfl
theorem row_180 : rowOf Tryz.prog 180 = some false := by kernel_rfl
theorem sz_181 : szOf Tryz.prog 181 = some 1 := by kernel_rfl
theorem row_181 : rowOf Tryz.prog 181 = some false := by kernel_rfl
theorem zero_181 : zeroOf Tryz.prog 181 = some [.nilFunc] := by kernel_rfl
theorem by_181 : bytesOf' Tryz.prog 181 = some 8 := by kernel_rfl
theorem str_181 : isStr Tryz.prog 181 = false := by kernel_rfl
theorem cc_181 : isConc Tryz.prog 181 = true := by kernel_rfl
theorem kt_181 : kT Tryz.prog 181 = 3 := by kernel_rfl
theorem kt_182 : kT Tryz.prog 182 = 3 := by kernel_rfl
theorem sz_182 : szOf Tryz.prog 182 = some 1 := by kernel_rfl
theorem row_182 : rowOf Tryz.prog 182 = some false := by kernel_rfl
theorem kt_184 : kT Tryz.prog 184 = 3 := by kernel_rfl
theorem sz_184 : szOf Tryz.prog 184 = some 1 := by kernel_rfl
theorem row_184 : rowOf Tryz.prog 184 = some false := by kernel_rfl
theorem sz_185 : szOf Tryz.prog 185 = some 20 := by kernel_rfl
theorem row_185 : rowOf Tryz.prog 185 = some true := by kernel_rfl
theorem zero_185 : zeroOf Tryz.prog 185 = some [.int .u8 0, .int .u8 0, .int .u8 0, .int .u8 0, .int .u8 0, .int .u8 0, .int .u8 0, .int .u8 0, .int .u8 0, .int .u8 0, .int .u8 0, .int .u8 0, .int .u8 0, .int .u8 0, .int .u8 0, .int .u8 0, .int .u8 0, .int .u8 0, .int .u8 0, .int .u8 0] := by kernel_rfl
theorem by_185 : bytesOf' Tryz.prog 185 = some 20 := by kernel_rfl
theorem str_185 : isStr Tryz.prog 185 = false := by kernel_rfl
theorem cc_185 : isConc Tryz.prog 185 = true := by kernel_rfl
theorem und_185 : Tryz.prog.underlying 185 = some (.array 20 5) := by kernel_rfl
theorem kt_185 : kT Tryz.prog 185 = 0 := by kernel_rfl
theorem asz_185 : arrSz Tryz.prog 185 = some 1 := by kernel_rfl
theorem pl_185 : placesOf Tryz.prog 185 = none := by kernel_rfl
theorem arr_185 : arrOf Tryz.prog 185 = some (20, 1) := by kernel_rfl
theorem kt_186 : kT Tryz.prog 186 = 3 := by kernel_rfl
theorem sz_186 : szOf Tryz.prog 186 = some 1 := by kernel_rfl
theorem row_186 : rowOf Tryz.prog 186 = some false := by kernel_rfl
theorem sz_187 : szOf Tryz.prog 187 = some 1 := by kernel_rfl
theorem row_187 : rowOf Tryz.prog 187 = some false := by kernel_rfl
theorem zero_187 : zeroOf Tryz.prog 187 = some [.slice none 0 0] := by kernel_rfl
theorem by_187 : bytesOf' Tryz.prog 187 = some 24 := by kernel_rfl
theorem el_187 : elOf Tryz.prog 187 = some 190 := by kernel_rfl
theorem str_187 : isStr Tryz.prog 187 = false := by kernel_rfl
theorem bs_187 : isBytes Tryz.prog 187 = false := by kernel_rfl
theorem cc_187 : isConc Tryz.prog 187 = true := by kernel_rfl
theorem und_187 : Tryz.prog.underlying 187 = some (.slice 190) := by kernel_rfl
theorem kt_187 : kT Tryz.prog 187 = 1 := by kernel_rfl
theorem kt_188 : kT Tryz.prog 188 = 3 := by kernel_rfl
theorem sz_188 : szOf Tryz.prog 188 = some 1 := by kernel_rfl
theorem row_188 : rowOf Tryz.prog 188 = some false := by kernel_rfl
theorem sz_189 : szOf Tryz.prog 189 = some 2 := by kernel_rfl
theorem row_189 : rowOf Tryz.prog 189 = some true := by kernel_rfl
theorem zero_189 : zeroOf Tryz.prog 189 = some [.string ⟨#[]⟩, .int .i64 0] := by kernel_rfl
theorem by_189 : bytesOf' Tryz.prog 189 = some 24 := by kernel_rfl
theorem str_189 : isStr Tryz.prog 189 = false := by kernel_rfl
theorem cc_189 : isConc Tryz.prog 189 = true := by kernel_rfl
theorem kt_189 : kT Tryz.prog 189 = 0 := by kernel_rfl
theorem pl_189 : placesOf Tryz.prog 189 = some [(0, 1), (1, 1)] := by kernel_rfl
theorem off_189_0 : offOf Tryz.prog 189 0 = some 0 := by kernel_rfl
theorem fld_189_0 : fldOf Tryz.prog 189 0 = some (0, 1, false) := by kernel_rfl
theorem off_189_1 : offOf Tryz.prog 189 1 = some 1 := by kernel_rfl
theorem fld_189_1 : fldOf Tryz.prog 189 1 = some (1, 1, false) := by kernel_rfl
theorem sz_190 : szOf Tryz.prog 190 = some 2 := by kernel_rfl
theorem row_190 : rowOf Tryz.prog 190 = some true := by kernel_rfl
theorem zero_190 : zeroOf Tryz.prog 190 = some [.string ⟨#[]⟩, .int .i64 0] := by kernel_rfl
theorem by_190 : bytesOf' Tryz.prog 190 = some 24 := by kernel_rfl
theorem str_190 : isStr Tryz.prog 190 = false := by kernel_rfl
theorem cc_190 : isConc Tryz.prog 190 = true := by kernel_rfl
theorem kt_190 : kT Tryz.prog 190 = 0 := by kernel_rfl
theorem pl_190 : placesOf Tryz.prog 190 = some [(0, 1), (1, 1)] := by kernel_rfl
theorem off_190_0 : offOf Tryz.prog 190 0 = some 0 := by kernel_rfl
theorem fld_190_0 : fldOf Tryz.prog 190 0 = some (0, 1, false) := by kernel_rfl
theorem off_190_1 : offOf Tryz.prog 190 1 = some 1 := by kernel_rfl
theorem fld_190_1 : fldOf Tryz.prog 190 1 = some (1, 1, false) := by kernel_rfl
theorem kt_191 : kT Tryz.prog 191 = 3 := by kernel_rfl
theorem sz_191 : szOf Tryz.prog 191 = some 1 := by kernel_rfl
theorem row_191 : rowOf Tryz.prog 191 = some false := by kernel_rfl
theorem kt_192 : kT Tryz.prog 192 = 3 := by kernel_rfl
theorem sz_192 : szOf Tryz.prog 192 = some 1 := by kernel_rfl
theorem row_192 : rowOf Tryz.prog 192 = some false := by kernel_rfl
theorem kt_193 : kT Tryz.prog 193 = 3 := by kernel_rfl
theorem sz_193 : szOf Tryz.prog 193 = some 1 := by kernel_rfl
theorem row_193 : rowOf Tryz.prog 193 = some false := by kernel_rfl
theorem kt_194 : kT Tryz.prog 194 = 3 := by kernel_rfl
theorem sz_194 : szOf Tryz.prog 194 = some 1 := by kernel_rfl
theorem row_194 : rowOf Tryz.prog 194 = some false := by kernel_rfl
theorem kt_195 : kT Tryz.prog 195 = 3 := by kernel_rfl
theorem sz_195 : szOf Tryz.prog 195 = some 1 := by kernel_rfl
theorem row_195 : rowOf Tryz.prog 195 = some false := by kernel_rfl
theorem kt_196 : kT Tryz.prog 196 = 3 := by kernel_rfl
theorem sz_196 : szOf Tryz.prog 196 = some 1 := by kernel_rfl
theorem row_196 : rowOf Tryz.prog 196 = some false := by kernel_rfl
theorem sz_197 : szOf Tryz.prog 197 = some 1 := by kernel_rfl
theorem row_197 : rowOf Tryz.prog 197 = some false := by kernel_rfl
theorem zero_197 : zeroOf Tryz.prog 197 = some [.pointer none] := by kernel_rfl
theorem by_197 : bytesOf' Tryz.prog 197 = some 8 := by kernel_rfl
theorem str_197 : isStr Tryz.prog 197 = false := by kernel_rfl
theorem cc_197 : isConc Tryz.prog 197 = true := by kernel_rfl
theorem und_197 : Tryz.prog.underlying 197 = some (.pointer 9) := by kernel_rfl
theorem kt_197 : kT Tryz.prog 197 = 2 := by kernel_rfl
theorem kt_198 : kT Tryz.prog 198 = 3 := by kernel_rfl
theorem sz_198 : szOf Tryz.prog 198 = some 1 := by kernel_rfl
theorem row_198 : rowOf Tryz.prog 198 = some false := by kernel_rfl
theorem kt_199 : kT Tryz.prog 199 = 3 := by kernel_rfl
theorem sz_199 : szOf Tryz.prog 199 = some 1 := by kernel_rfl
theorem row_199 : rowOf Tryz.prog 199 = some false := by kernel_rfl
theorem sz_200 : szOf Tryz.prog 200 = some 5 := by kernel_rfl
theorem row_200 : rowOf Tryz.prog 200 = some true := by kernel_rfl
theorem zero_200 : zeroOf Tryz.prog 200 = some [.string ⟨#[]⟩, .string ⟨#[]⟩, .string ⟨#[]⟩, .string ⟨#[]⟩, .string ⟨#[]⟩] := by kernel_rfl
theorem by_200 : bytesOf' Tryz.prog 200 = some 80 := by kernel_rfl
theorem str_200 : isStr Tryz.prog 200 = false := by kernel_rfl
theorem cc_200 : isConc Tryz.prog 200 = true := by kernel_rfl
theorem und_200 : Tryz.prog.underlying 200 = some (.array 5 9) := by kernel_rfl
theorem kt_200 : kT Tryz.prog 200 = 0 := by kernel_rfl
theorem asz_200 : arrSz Tryz.prog 200 = some 1 := by kernel_rfl
theorem pl_200 : placesOf Tryz.prog 200 = none := by kernel_rfl
theorem arr_200 : arrOf Tryz.prog 200 = some (5, 1) := by kernel_rfl
theorem sz_201 : szOf Tryz.prog 201 = some 3 := by kernel_rfl
theorem row_201 : rowOf Tryz.prog 201 = some true := by kernel_rfl
theorem zero_201 : zeroOf Tryz.prog 201 = some [.int .u8 0, .int .u8 0, .int .u8 0] := by kernel_rfl
theorem by_201 : bytesOf' Tryz.prog 201 = some 3 := by kernel_rfl
theorem str_201 : isStr Tryz.prog 201 = false := by kernel_rfl
theorem cc_201 : isConc Tryz.prog 201 = true := by kernel_rfl
theorem und_201 : Tryz.prog.underlying 201 = some (.array 3 5) := by kernel_rfl
theorem kt_201 : kT Tryz.prog 201 = 0 := by kernel_rfl
theorem asz_201 : arrSz Tryz.prog 201 = some 1 := by kernel_rfl
theorem pl_201 : placesOf Tryz.prog 201 = none := by kernel_rfl
theorem arr_201 : arrOf Tryz.prog 201 = some (3, 1) := by kernel_rfl
theorem kt_202 : kT Tryz.prog 202 = 3 := by kernel_rfl
theorem sz_202 : szOf Tryz.prog 202 = some 1 := by kernel_rfl
theorem row_202 : rowOf Tryz.prog 202 = some false := by kernel_rfl
theorem sz_203 : szOf Tryz.prog 203 = some 24 := by kernel_rfl
theorem row_203 : rowOf Tryz.prog 203 = some true := by kernel_rfl
theorem zero_203 : zeroOf Tryz.prog 203 = some [.int .u8 0, .int .u8 0, .int .u8 0, .int .u8 0, .int .u8 0, .int .u8 0, .int .u8 0, .int .u8 0, .int .u8 0, .int .u8 0, .int .u8 0, .int .u8 0, .int .u8 0, .int .u8 0, .int .u8 0, .int .u8 0, .int .u8 0, .int .u8 0, .int .u8 0, .int .u8 0, .int .u8 0, .int .u8 0, .int .u8 0, .int .u8 0] := by kernel_rfl
theorem by_203 : bytesOf' Tryz.prog 203 = some 24 := by kernel_rfl
theorem str_203 : isStr Tryz.prog 203 = false := by kernel_rfl
theorem cc_203 : isConc Tryz.prog 203 = true := by kernel_rfl
theorem und_203 : Tryz.prog.underlying 203 = some (.array 24 5) := by kernel_rfl
theorem kt_203 : kT Tryz.prog 203 = 0 := by kernel_rfl
theorem asz_203 : arrSz Tryz.prog 203 = some 1 := by kernel_rfl
theorem pl_203 : placesOf Tryz.prog 203 = none := by kernel_rfl
theorem arr_203 : arrOf Tryz.prog 203 = some (24, 1) := by kernel_rfl
theorem kt_204 : kT Tryz.prog 204 = 3 := by kernel_rfl
theorem sz_204 : szOf Tryz.prog 204 = some 1 := by kernel_rfl
theorem row_204 : rowOf Tryz.prog 204 = some false := by kernel_rfl
theorem kt_205 : kT Tryz.prog 205 = 3 := by kernel_rfl
theorem sz_205 : szOf Tryz.prog 205 = some 1 := by kernel_rfl
theorem row_205 : rowOf Tryz.prog 205 = some false := by kernel_rfl
theorem kt_207 : kT Tryz.prog 207 = 3 := by kernel_rfl
theorem sz_207 : szOf Tryz.prog 207 = some 1 := by kernel_rfl
theorem row_207 : rowOf Tryz.prog 207 = some false := by kernel_rfl
theorem sz_209 : szOf Tryz.prog 209 = some 1 := by kernel_rfl
theorem row_209 : rowOf Tryz.prog 209 = some false := by kernel_rfl
theorem zero_209 : zeroOf Tryz.prog 209 = some [.pointer none] := by kernel_rfl
theorem by_209 : bytesOf' Tryz.prog 209 = some 8 := by kernel_rfl
theorem str_209 : isStr Tryz.prog 209 = false := by kernel_rfl
theorem cc_209 : isConc Tryz.prog 209 = true := by kernel_rfl
theorem und_209 : Tryz.prog.underlying 209 = some (.pointer 221) := by kernel_rfl
theorem kt_209 : kT Tryz.prog 209 = 2 := by kernel_rfl
theorem kt_210 : kT Tryz.prog 210 = 3 := by kernel_rfl
theorem sz_210 : szOf Tryz.prog 210 = some 1 := by kernel_rfl
theorem row_210 : rowOf Tryz.prog 210 = some false := by kernel_rfl
theorem kt_211 : kT Tryz.prog 211 = 3 := by kernel_rfl
theorem sz_211 : szOf Tryz.prog 211 = some 1 := by kernel_rfl
theorem row_211 : rowOf Tryz.prog 211 = some false := by kernel_rfl
theorem sz_212 : szOf Tryz.prog 212 = some 15 := by kernel_rfl
theorem row_212 : rowOf Tryz.prog 212 = some true := by kernel_rfl
theorem zero_212 : zeroOf Tryz.prog 212 = some [.string ⟨#[]⟩, .string ⟨#[]⟩, .string ⟨#[]⟩, .string ⟨#[]⟩, .string ⟨#[]⟩, .string ⟨#[]⟩, .string ⟨#[]⟩, .string ⟨#[]⟩, .string ⟨#[]⟩, .string ⟨#[]⟩, .string ⟨#[]⟩, .string ⟨#[]⟩, .string ⟨#[]⟩, .string ⟨#[]⟩, .string ⟨#[]⟩] := by kernel_rfl
theorem by_212 : bytesOf' Tryz.prog 212 = some 240 := by kernel_rfl
theorem str_212 : isStr Tryz.prog 212 = false := by kernel_rfl
theorem cc_212 : isConc Tryz.prog 212 = true := by kernel_rfl
theorem und_212 : Tryz.prog.underlying 212 = some (.array 15 9) := by kernel_rfl
theorem kt_212 : kT Tryz.prog 212 = 0 := by kernel_rfl
theorem asz_212 : arrSz Tryz.prog 212 = some 1 := by kernel_rfl
theorem pl_212 : placesOf Tryz.prog 212 = none := by kernel_rfl
theorem arr_212 : arrOf Tryz.prog 212 = some (15, 1) := by kernel_rfl
theorem kt_213 : kT Tryz.prog 213 = 3 := by kernel_rfl
theorem sz_213 : szOf Tryz.prog 213 = some 1 := by kernel_rfl
theorem row_213 : rowOf Tryz.prog 213 = some false := by kernel_rfl
theorem kt_214 : kT Tryz.prog 214 = 3 := by kernel_rfl
theorem sz_214 : szOf Tryz.prog 214 = some 1 := by kernel_rfl
theorem row_214 : rowOf Tryz.prog 214 = some false := by kernel_rfl
theorem sz_215 : szOf Tryz.prog 215 = some 20 := by kernel_rfl
theorem row_215 : rowOf Tryz.prog 215 = some true := by kernel_rfl
theorem zero_215 : zeroOf Tryz.prog 215 = some [.int .u64 0, .int .u64 0, .int .u64 0, .int .u64 0, .int .u64 0, .int .u64 0, .int .u64 0, .int .u64 0, .int .u64 0, .int .u64 0, .int .u64 0, .int .u64 0, .int .u64 0, .int .u64 0, .int .u64 0, .int .u64 0, .int .u64 0, .int .u64 0, .int .u64 0, .int .u64 0] := by kernel_rfl
theorem by_215 : bytesOf' Tryz.prog 215 = some 160 := by kernel_rfl
theorem str_215 : isStr Tryz.prog 215 = false := by kernel_rfl
theorem cc_215 : isConc Tryz.prog 215 = true := by kernel_rfl
theorem und_215 : Tryz.prog.underlying 215 = some (.array 20 71) := by kernel_rfl
theorem kt_215 : kT Tryz.prog 215 = 0 := by kernel_rfl
theorem asz_215 : arrSz Tryz.prog 215 = some 1 := by kernel_rfl
theorem pl_215 : placesOf Tryz.prog 215 = none := by kernel_rfl
theorem arr_215 : arrOf Tryz.prog 215 = some (20, 1) := by kernel_rfl
theorem sz_216 : szOf Tryz.prog 216 = some 65 := by kernel_rfl
theorem row_216 : rowOf Tryz.prog 216 = some true := by kernel_rfl
theorem by_216 : bytesOf' Tryz.prog 216 = some 65 := by kernel_rfl
theorem str_216 : isStr Tryz.prog 216 = false := by kernel_rfl
theorem cc_216 : isConc Tryz.prog 216 = true := by kernel_rfl
theorem und_216 : Tryz.prog.underlying 216 = some (.array 65 5) := by kernel_rfl
theorem kt_216 : kT Tryz.prog 216 = 0 := by kernel_rfl
theorem asz_216 : arrSz Tryz.prog 216 = some 1 := by kernel_rfl
theorem pl_216 : placesOf Tryz.prog 216 = none := by kernel_rfl
theorem arr_216 : arrOf Tryz.prog 216 = some (65, 1) := by kernel_rfl
theorem kt_217 : kT Tryz.prog 217 = 3 := by kernel_rfl
theorem sz_217 : szOf Tryz.prog 217 = some 1 := by kernel_rfl
theorem row_217 : rowOf Tryz.prog 217 = some false := by kernel_rfl
theorem kt_218 : kT Tryz.prog 218 = 3 := by kernel_rfl
theorem sz_218 : szOf Tryz.prog 218 = some 1 := by kernel_rfl
theorem row_218 : rowOf Tryz.prog 218 = some false := by kernel_rfl
theorem kt_219 : kT Tryz.prog 219 = 3 := by kernel_rfl
theorem sz_219 : szOf Tryz.prog 219 = some 1 := by kernel_rfl
theorem row_219 : rowOf Tryz.prog 219 = some false := by kernel_rfl
theorem sz_220 : szOf Tryz.prog 220 = some 3 := by kernel_rfl
theorem row_220 : rowOf Tryz.prog 220 = some true := by kernel_rfl
theorem zero_220 : zeroOf Tryz.prog 220 = some [.string ⟨#[]⟩, .string ⟨#[]⟩, .nilIface] := by kernel_rfl
theorem by_220 : bytesOf' Tryz.prog 220 = some 48 := by kernel_rfl
theorem str_220 : isStr Tryz.prog 220 = false := by kernel_rfl
theorem cc_220 : isConc Tryz.prog 220 = true := by kernel_rfl
theorem kt_220 : kT Tryz.prog 220 = 0 := by kernel_rfl
theorem pl_220 : placesOf Tryz.prog 220 = some [(0, 1), (1, 1), (2, 1)] := by kernel_rfl
theorem off_220_0 : offOf Tryz.prog 220 0 = some 0 := by kernel_rfl
theorem fld_220_0 : fldOf Tryz.prog 220 0 = some (0, 1, false) := by kernel_rfl
theorem off_220_1 : offOf Tryz.prog 220 1 = some 1 := by kernel_rfl
theorem fld_220_1 : fldOf Tryz.prog 220 1 = some (1, 1, false) := by kernel_rfl
theorem off_220_2 : offOf Tryz.prog 220 2 = some 2 := by kernel_rfl
theorem fld_220_2 : fldOf Tryz.prog 220 2 = some (2, 1, false) := by kernel_rfl
theorem kt_222 : kT Tryz.prog 222 = 3 := by kernel_rfl
theorem sz_222 : szOf Tryz.prog 222 = some 1 := by kernel_rfl
theorem row_222 : rowOf Tryz.prog 222 = some false := by kernel_rfl
theorem kt_223 : kT Tryz.prog 223 = 3 := by kernel_rfl
theorem sz_223 : szOf Tryz.prog 223 = some 1 := by kernel_rfl
theorem row_223 : rowOf Tryz.prog 223 = some false := by kernel_rfl
theorem kt_224 : kT Tryz.prog 224 = 3 := by kernel_rfl
theorem sz_224 : szOf Tryz.prog 224 = some 1 := by kernel_rfl
theorem row_224 : rowOf Tryz.prog 224 = some false := by kernel_rfl
theorem sz_225 : szOf Tryz.prog 225 = some 1 := by kernel_rfl
theorem row_225 : rowOf Tryz.prog 225 = some false := by kernel_rfl
theorem zero_225 : zeroOf Tryz.prog 225 = some [.pointer none] := by kernel_rfl
theorem by_225 : bytesOf' Tryz.prog 225 = some 8 := by kernel_rfl
theorem str_225 : isStr Tryz.prog 225 = false := by kernel_rfl
theorem cc_225 : isConc Tryz.prog 225 = true := by kernel_rfl
theorem und_225 : Tryz.prog.underlying 225 = some (.pointer 5) := by kernel_rfl
theorem kt_225 : kT Tryz.prog 225 = 2 := by kernel_rfl
theorem sz_226 : szOf Tryz.prog 226 = some 1 := by kernel_rfl
theorem row_226 : rowOf Tryz.prog 226 = some false := by kernel_rfl
theorem zero_226 : zeroOf Tryz.prog 226 = some [.pointer none] := by kernel_rfl
theorem by_226 : bytesOf' Tryz.prog 226 = some 8 := by kernel_rfl
theorem str_226 : isStr Tryz.prog 226 = false := by kernel_rfl
theorem cc_226 : isConc Tryz.prog 226 = true := by kernel_rfl
theorem und_226 : Tryz.prog.underlying 226 = some (.pointer 228) := by kernel_rfl
theorem kt_226 : kT Tryz.prog 226 = 2 := by kernel_rfl
theorem sz_227 : szOf Tryz.prog 227 = some 1 := by kernel_rfl
theorem row_227 : rowOf Tryz.prog 227 = some true := by kernel_rfl
theorem zero_227 : zeroOf Tryz.prog 227 = some [.string ⟨#[]⟩] := by kernel_rfl
theorem by_227 : bytesOf' Tryz.prog 227 = some 16 := by kernel_rfl
theorem str_227 : isStr Tryz.prog 227 = false := by kernel_rfl
theorem cc_227 : isConc Tryz.prog 227 = true := by kernel_rfl
theorem kt_227 : kT Tryz.prog 227 = 0 := by kernel_rfl
theorem pl_227 : placesOf Tryz.prog 227 = some [(0, 1)] := by kernel_rfl
theorem off_227_0 : offOf Tryz.prog 227 0 = some 0 := by kernel_rfl
theorem fld_227_0 : fldOf Tryz.prog 227 0 = some (0, 1, false) := by kernel_rfl
theorem kt_230 : kT Tryz.prog 230 = 3 := by kernel_rfl
theorem sz_230 : szOf Tryz.prog 230 = some 1 := by kernel_rfl
theorem row_230 : rowOf Tryz.prog 230 = some false := by kernel_rfl
theorem sz_231 : szOf Tryz.prog 231 = some 32 := by kernel_rfl
theorem row_231 : rowOf Tryz.prog 231 = some true := by kernel_rfl
theorem zero_231 : zeroOf Tryz.prog 231 = some [.int .u8 0, .int .u8 0, .int .u8 0, .int .u8 0, .int .u8 0, .int .u8 0, .int .u8 0, .int .u8 0, .int .u8 0, .int .u8 0, .int .u8 0, .int .u8 0, .int .u8 0, .int .u8 0, .int .u8 0, .int .u8 0, .int .u8 0, .int .u8 0, .int .u8 0, .int .u8 0, .int .u8 0, .int .u8 0, .int .u8 0, .int .u8 0, .int .u8 0, .int .u8 0, .int .u8 0, .int .u8 0, .int .u8 0, .int .u8 0, .int .u8 0, .int .u8 0] := by kernel_rfl
theorem by_231 : bytesOf' Tryz.prog 231 = some 32 := by kernel_rfl
theorem str_231 : isStr Tryz.prog 231 = false := by kernel_rfl
theorem cc_231 : isConc Tryz.prog 231 = true := by kernel_rfl
theorem und_231 : Tryz.prog.underlying 231 = some (.array 32 5) := by kernel_rfl
theorem kt_231 : kT Tryz.prog 231 = 0 := by kernel_rfl
theorem asz_231 : arrSz Tryz.prog 231 = some 1 := by kernel_rfl
theorem pl_231 : placesOf Tryz.prog 231 = none := by kernel_rfl
theorem arr_231 : arrOf Tryz.prog 231 = some (32, 1) := by kernel_rfl
theorem sz_232 : szOf Tryz.prog 232 = some 64 := by kernel_rfl
theorem row_232 : rowOf Tryz.prog 232 = some true := by kernel_rfl
theorem by_232 : bytesOf' Tryz.prog 232 = some 64 := by kernel_rfl
theorem str_232 : isStr Tryz.prog 232 = false := by kernel_rfl
theorem cc_232 : isConc Tryz.prog 232 = true := by kernel_rfl
theorem und_232 : Tryz.prog.underlying 232 = some (.array 64 5) := by kernel_rfl
theorem kt_232 : kT Tryz.prog 232 = 0 := by kernel_rfl
theorem asz_232 : arrSz Tryz.prog 232 = some 1 := by kernel_rfl
theorem pl_232 : placesOf Tryz.prog 232 = none := by kernel_rfl
theorem arr_232 : arrOf Tryz.prog 232 = some (64, 1) := by kernel_rfl
theorem kt_233 : kT Tryz.prog 233 = 3 := by kernel_rfl
theorem sz_233 : szOf Tryz.prog 233 = some 1 := by kernel_rfl
theorem row_233 : rowOf Tryz.prog 233 = some false := by kernel_rfl
theorem sz_234 : szOf Tryz.prog 234 = some 256 := by kernel_rfl
theorem row_234 : rowOf Tryz.prog 234 = some true := by kernel_rfl
theorem by_234 : bytesOf' Tryz.prog 234 = some 256 := by kernel_rfl
theorem str_234 : isStr Tryz.prog 234 = false := by kernel_rfl
theorem cc_234 : isConc Tryz.prog 234 = true := by kernel_rfl
theorem und_234 : Tryz.prog.underlying 234 = some (.array 256 5) := by kernel_rfl
theorem kt_234 : kT Tryz.prog 234 = 0 := by kernel_rfl
theorem asz_234 : arrSz Tryz.prog 234 = some 1 := by kernel_rfl
theorem pl_234 : placesOf Tryz.prog 234 = none := by kernel_rfl
theorem arr_234 : arrOf Tryz.prog 234 = some (256, 1) := by kernel_rfl
theorem sz_235 : szOf Tryz.prog 235 = some 2 := by kernel_rfl
theorem row_235 : rowOf Tryz.prog 235 = some true := by kernel_rfl
theorem zero_235 : zeroOf Tryz.prog 235 = some [.int .u8 0, .int .u8 0] := by kernel_rfl
theorem by_235 : bytesOf' Tryz.prog 235 = some 2 := by kernel_rfl
theorem str_235 : isStr Tryz.prog 235 = false := by kernel_rfl
theorem cc_235 : isConc Tryz.prog 235 = true := by kernel_rfl
theorem kt_235 : kT Tryz.prog 235 = 0 := by kernel_rfl
theorem pl_235 : placesOf Tryz.prog 235 = some [(0, 1), (1, 1)] := by kernel_rfl
theorem off_235_0 : offOf Tryz.prog 235 0 = some 0 := by kernel_rfl
theorem fld_235_0 : fldOf Tryz.prog 235 0 = some (0, 1, false) := by kernel_rfl
theorem off_235_1 : offOf Tryz.prog 235 1 = some 1 := by kernel_rfl
theorem fld_235_1 : fldOf Tryz.prog 235 1 = some (1, 1, false) := by kernel_rfl
theorem sz_236 : szOf Tryz.prog 236 = some 2 := by kernel_rfl
theorem row_236 : rowOf Tryz.prog 236 = some true := by kernel_rfl
theorem zero_236 : zeroOf Tryz.prog 236 = some [.int .u8 0, .int .u8 0] := by kernel_rfl
theorem by_236 : bytesOf' Tryz.prog 236 = some 2 := by kernel_rfl
theorem str_236 : isStr Tryz.prog 236 = false := by kernel_rfl
theorem cc_236 : isConc Tryz.prog 236 = true := by kernel_rfl
theorem kt_236 : kT Tryz.prog 236 = 0 := by kernel_rfl
theorem pl_236 : placesOf Tryz.prog 236 = some [(0, 1), (1, 1)] := by kernel_rfl
theorem off_236_0 : offOf Tryz.prog 236 0 = some 0 := by kernel_rfl
theorem fld_236_0 : fldOf Tryz.prog 236 0 = some (0, 1, false) := by kernel_rfl
theorem off_236_1 : offOf Tryz.prog 236 1 = some 1 := by kernel_rfl
theorem fld_236_1 : fldOf Tryz.prog 236 1 = some (1, 1, false) := by kernel_rfl
theorem sz_237 : szOf Tryz.prog 237 = some 32 := by kernel_rfl
theorem row_237 : rowOf Tryz.prog 237 = some true := by kernel_rfl
theorem zero_237 : zeroOf Tryz.prog 237 = some [.int .u8 0, .int .u8 0, .int .u8 0, .int .u8 0, .int .u8 0, .int .u8 0, .int .u8 0, .int .u8 0, .int .u8 0, .int .u8 0, .int .u8 0, .int .u8 0, .int .u8 0, .int .u8 0, .int .u8 0, .int .u8 0, .int .u8 0, .int .u8 0, .int .u8 0, .int .u8 0, .int .u8 0, .int .u8 0, .int .u8 0, .int .u8 0, .int .u8 0, .int .u8 0, .int .u8 0, .int .u8 0, .int .u8 0, .int .u8 0, .int .u8 0, .int .u8 0] := by kernel_rfl
theorem by_237 : bytesOf' Tryz.prog 237 = some 32 := by kernel_rfl
theorem str_237 : isStr Tryz.prog 237 = false := by kernel_rfl
theorem cc_237 : isConc Tryz.prog 237 = true := by kernel_rfl
theorem und_237 : Tryz.prog.underlying 237 = some (.array 16 236) := by kernel_rfl
theorem kt_237 : kT Tryz.prog 237 = 0 := by kernel_rfl
theorem asz_237 : arrSz Tryz.prog 237 = some 2 := by kernel_rfl
theorem pl_237 : placesOf Tryz.prog 237 = none := by kernel_rfl
theorem arr_237 : arrOf Tryz.prog 237 = some (16, 2) := by kernel_rfl
theorem sz_238 : szOf Tryz.prog 238 = some 4 := by kernel_rfl
theorem row_238 : rowOf Tryz.prog 238 = some true := by kernel_rfl
theorem zero_238 : zeroOf Tryz.prog 238 = some [.pointer none, .pointer none, .pointer none, .string ⟨#[]⟩] := by kernel_rfl
theorem by_238 : bytesOf' Tryz.prog 238 = some 40 := by kernel_rfl
theorem str_238 : isStr Tryz.prog 238 = false := by kernel_rfl
theorem cc_238 : isConc Tryz.prog 238 = true := by kernel_rfl
theorem kt_238 : kT Tryz.prog 238 = 0 := by kernel_rfl
theorem pl_238 : placesOf Tryz.prog 238 = some [(0, 1), (1, 1), (2, 1), (3, 1)] := by kernel_rfl
theorem off_238_0 : offOf Tryz.prog 238 0 = some 0 := by kernel_rfl
theorem fld_238_0 : fldOf Tryz.prog 238 0 = some (0, 1, false) := by kernel_rfl
theorem off_238_1 : offOf Tryz.prog 238 1 = some 1 := by kernel_rfl
theorem fld_238_1 : fldOf Tryz.prog 238 1 = some (1, 1, false) := by kernel_rfl
theorem off_238_2 : offOf Tryz.prog 238 2 = some 2 := by kernel_rfl
theorem fld_238_2 : fldOf Tryz.prog 238 2 = some (2, 1, false) := by kernel_rfl
theorem off_238_3 : offOf Tryz.prog 238 3 = some 3 := by kernel_rfl
theorem fld_238_3 : fldOf Tryz.prog 238 3 = some (3, 1, false) := by kernel_rfl
theorem sz_240 : szOf Tryz.prog 240 = some 0 := by kernel_rfl
theorem row_240 : rowOf Tryz.prog 240 = some true := by kernel_rfl
theorem by_240 : bytesOf' Tryz.prog 240 = some 0 := by kernel_rfl
theorem str_240 : isStr Tryz.prog 240 = false := by kernel_rfl
theorem cc_240 : isConc Tryz.prog 240 = true := by kernel_rfl
theorem und_240 : Tryz.prog.underlying 240 = some (.array 0 16) := by kernel_rfl
theorem kt_240 : kT Tryz.prog 240 = 0 := by kernel_rfl
theorem asz_240 : arrSz Tryz.prog 240 = some 1 := by kernel_rfl
theorem pl_240 : placesOf Tryz.prog 240 = none := by kernel_rfl
theorem sz_241 : szOf Tryz.prog 241 = some 0 := by kernel_rfl
theorem row_241 : rowOf Tryz.prog 241 = some true := by kernel_rfl
theorem by_241 : bytesOf' Tryz.prog 241 = some 0 := by kernel_rfl
theorem str_241 : isStr Tryz.prog 241 = false := by kernel_rfl
theorem cc_241 : isConc Tryz.prog 241 = true := by kernel_rfl
theorem kt_241 : kT Tryz.prog 241 = 0 := by kernel_rfl
theorem pl_241 : placesOf Tryz.prog 241 = some [(0, 0)] := by kernel_rfl
theorem kt_245 : kT Tryz.prog 245 = 3 := by kernel_rfl
theorem sz_245 : szOf Tryz.prog 245 = some 1 := by kernel_rfl
theorem row_245 : rowOf Tryz.prog 245 = some false := by kernel_rfl
theorem sz_248 : szOf Tryz.prog 248 = some 11 := by kernel_rfl
theorem row_248 : rowOf Tryz.prog 248 = some true := by kernel_rfl
theorem zero_248 : zeroOf Tryz.prog 248 = some [.int .u64 0, .int .u64 0, .int .u32 0, .int .u8 0, .int .u8 0, .int .u8 0, .int .u8 0, .nilFunc, .pointer none, .int .i32 0, .int .i32 0] := by kernel_rfl
theorem by_248 : bytesOf' Tryz.prog 248 = some 48 := by kernel_rfl
theorem str_248 : isStr Tryz.prog 248 = false := by kernel_rfl
theorem cc_248 : isConc Tryz.prog 248 = true := by kernel_rfl
theorem kt_248 : kT Tryz.prog 248 = 0 := by kernel_rfl
theorem pl_248 : placesOf Tryz.prog 248 = some [(0, 1), (1, 1), (2, 1), (3, 1), (4, 1), (5, 1), (6, 1), (7, 1), (8, 1), (9, 1), (10, 1)] := by kernel_rfl
theorem off_248_0 : offOf Tryz.prog 248 0 = some 0 := by kernel_rfl
theorem fld_248_0 : fldOf Tryz.prog 248 0 = some (0, 1, false) := by kernel_rfl
theorem off_248_1 : offOf Tryz.prog 248 1 = some 1 := by kernel_rfl
theorem fld_248_1 : fldOf Tryz.prog 248 1 = some (1, 1, false) := by kernel_rfl
theorem off_248_2 : offOf Tryz.prog 248 2 = some 2 := by kernel_rfl
theorem fld_248_2 : fldOf Tryz.prog 248 2 = some (2, 1, false) := by kernel_rfl
theorem off_248_3 : offOf Tryz.prog 248 3 = some 3 := by kernel_rfl
theorem fld_248_3 : fldOf Tryz.prog 248 3 = some (3, 1, false) := by kernel_rfl
theorem off_248_4 : offOf Tryz.prog 248 4 = some 4 := by kernel_rfl
theorem fld_248_4 : fldOf Tryz.prog 248 4 = some (4, 1, false) := by kernel_rfl
theorem off_248_5 : offOf Tryz.prog 248 5 = some 5 := by kernel_rfl
theorem fld_248_5 : fldOf Tryz.prog 248 5 = some (5, 1, false) := by kernel_rfl
theorem off_248_6 : offOf Tryz.prog 248 6 = some 6 := by kernel_rfl
theorem fld_248_6 : fldOf Tryz.prog 248 6 = some (6, 1, false) := by kernel_rfl
theorem off_248_7 : offOf Tryz.prog 248 7 = some 7 := by kernel_rfl
theorem fld_248_7 : fldOf Tryz.prog 248 7 = some (7, 1, false) := by kernel_rfl
theorem off_248_8 : offOf Tryz.prog 248 8 = some 8 := by kernel_rfl
theorem fld_248_8 : fldOf Tryz.prog 248 8 = some (8, 1, false) := by kernel_rfl
theorem off_248_9 : offOf Tryz.prog 248 9 = some 9 := by kernel_rfl
theorem fld_248_9 : fldOf Tryz.prog 248 9 = some (9, 1, false) := by kernel_rfl
theorem off_248_10 : offOf Tryz.prog 248 10 = some 10 := by kernel_rfl
theorem fld_248_10 : fldOf Tryz.prog 248 10 = some (10, 1, false) := by kernel_rfl
theorem sz_250 : szOf Tryz.prog 250 = some 1 := by kernel_rfl
theorem row_250 : rowOf Tryz.prog 250 = some false := by kernel_rfl
theorem zero_250 : zeroOf Tryz.prog 250 = some [.pointer none] := by kernel_rfl
theorem by_250 : bytesOf' Tryz.prog 250 = some 8 := by kernel_rfl
theorem str_250 : isStr Tryz.prog 250 = false := by kernel_rfl
theorem cc_250 : isConc Tryz.prog 250 = true := by kernel_rfl
theorem kt_250 : kT Tryz.prog 250 = 0 := by kernel_rfl
end Go.Proofs.YtpdjaabjfhjppaaGreatDoor
