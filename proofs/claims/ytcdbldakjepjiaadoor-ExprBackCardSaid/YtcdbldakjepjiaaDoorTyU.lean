/- What the program's table of types says, a fact each. Printed by a program of the prover's. -/
import Derived.Test.YtcdbldakjepjiaaDoorChecked
import Derived.Test.YtcdbldakjepjiaaDoorU7
set_option linter.unusedVariables false
set_option linter.unusedSimpArgs false
namespace Go.Proofs.YtcdbldakjepjiaaDoor
theorem kt_1 : kT Tryd.prog 1 = 3 := by kernel_rfl
theorem sz_1 : szOf Tryd.prog 1 = some 1 := by kernel_rfl
theorem row_1 : rowOf Tryd.prog 1 = some false := by kernel_rfl
theorem sz_2 : szOf Tryd.prog 2 = some 1 := by kernel_rfl
theorem row_2 : rowOf Tryd.prog 2 = some false := by kernel_rfl
theorem zero_2 : zeroOf Tryd.prog 2 = some [.int .i64 0] := by kernel_rfl
theorem by_2 : bytesOf' Tryd.prog 2 = some 8 := by kernel_rfl
theorem str_2 : isStr Tryd.prog 2 = false := by kernel_rfl
theorem kind_2 : kindOf' Tryd.prog 2 = some .i64 := by kernel_rfl
theorem cc_2 : isConc Tryd.prog 2 = true := by kernel_rfl
theorem kt_2 : kT Tryd.prog 2 = 0 := by kernel_rfl
theorem sz_3 : szOf Tryd.prog 3 = some 1 := by kernel_rfl
theorem row_3 : rowOf Tryd.prog 3 = some false := by kernel_rfl
theorem zero_3 : zeroOf Tryd.prog 3 = some [.int .i64 0] := by kernel_rfl
theorem by_3 : bytesOf' Tryd.prog 3 = some 8 := by kernel_rfl
theorem str_3 : isStr Tryd.prog 3 = false := by kernel_rfl
theorem kind_3 : kindOf' Tryd.prog 3 = some .i64 := by kernel_rfl
theorem cc_3 : isConc Tryd.prog 3 = true := by kernel_rfl
theorem kt_3 : kT Tryd.prog 3 = 0 := by kernel_rfl
theorem sz_4 : szOf Tryd.prog 4 = some 1 := by kernel_rfl
theorem row_4 : rowOf Tryd.prog 4 = some false := by kernel_rfl
theorem zero_4 : zeroOf Tryd.prog 4 = some [.bool false] := by kernel_rfl
theorem by_4 : bytesOf' Tryd.prog 4 = some 1 := by kernel_rfl
theorem str_4 : isStr Tryd.prog 4 = false := by kernel_rfl
theorem cc_4 : isConc Tryd.prog 4 = true := by kernel_rfl
theorem kt_4 : kT Tryd.prog 4 = 0 := by kernel_rfl
theorem sz_5 : szOf Tryd.prog 5 = some 1 := by kernel_rfl
theorem row_5 : rowOf Tryd.prog 5 = some false := by kernel_rfl
theorem zero_5 : zeroOf Tryd.prog 5 = some [.int .u8 0] := by kernel_rfl
theorem by_5 : bytesOf' Tryd.prog 5 = some 1 := by kernel_rfl
theorem str_5 : isStr Tryd.prog 5 = false := by kernel_rfl
theorem kind_5 : kindOf' Tryd.prog 5 = some .u8 := by kernel_rfl
theorem cc_5 : isConc Tryd.prog 5 = true := by kernel_rfl
theorem kt_5 : kT Tryd.prog 5 = 0 := by kernel_rfl
theorem sz_7 : szOf Tryd.prog 7 = some 4 := by kernel_rfl
theorem row_7 : rowOf Tryd.prog 7 = some true := by kernel_rfl
theorem zero_7 : zeroOf Tryd.prog 7 = some [.int .i64 0, .int .i64 0, .bool false, .int .u8 0] := by kernel_rfl
theorem by_7 : bytesOf' Tryd.prog 7 = some 24 := by kernel_rfl
theorem str_7 : isStr Tryd.prog 7 = false := by kernel_rfl
theorem cc_7 : isConc Tryd.prog 7 = true := by kernel_rfl
theorem kt_7 : kT Tryd.prog 7 = 0 := by kernel_rfl
theorem pl_7 : placesOf Tryd.prog 7 = some [(0, 1), (1, 1), (2, 1), (3, 1)] := by kernel_rfl
theorem off_7_0 : offOf Tryd.prog 7 0 = some 0 := by kernel_rfl
theorem fld_7_0 : fldOf Tryd.prog 7 0 = some (0, 1, false) := by kernel_rfl
theorem off_7_1 : offOf Tryd.prog 7 1 = some 1 := by kernel_rfl
theorem fld_7_1 : fldOf Tryd.prog 7 1 = some (1, 1, false) := by kernel_rfl
theorem off_7_2 : offOf Tryd.prog 7 2 = some 2 := by kernel_rfl
theorem fld_7_2 : fldOf Tryd.prog 7 2 = some (2, 1, false) := by kernel_rfl
theorem off_7_3 : offOf Tryd.prog 7 3 = some 3 := by kernel_rfl
theorem fld_7_3 : fldOf Tryd.prog 7 3 = some (3, 1, false) := by kernel_rfl
theorem sz_9 : szOf Tryd.prog 9 = some 1 := by kernel_rfl
theorem row_9 : rowOf Tryd.prog 9 = some false := by kernel_rfl
theorem zero_9 : zeroOf Tryd.prog 9 = some [.string ⟨#[]⟩] := by kernel_rfl
theorem by_9 : bytesOf' Tryd.prog 9 = some 16 := by kernel_rfl
theorem str_9 : isStr Tryd.prog 9 = true := by kernel_rfl
theorem bs_9 : isBytes Tryd.prog 9 = false := by kernel_rfl
theorem cc_9 : isConc Tryd.prog 9 = true := by kernel_rfl
theorem kt_9 : kT Tryd.prog 9 = 0 := by kernel_rfl
theorem sz_12 : szOf Tryd.prog 12 = some 1 := by kernel_rfl
theorem row_12 : rowOf Tryd.prog 12 = some false := by kernel_rfl
theorem zero_12 : zeroOf Tryd.prog 12 = some [.int .u64 0] := by kernel_rfl
theorem by_12 : bytesOf' Tryd.prog 12 = some 8 := by kernel_rfl
theorem str_12 : isStr Tryd.prog 12 = false := by kernel_rfl
theorem kind_12 : kindOf' Tryd.prog 12 = some .u64 := by kernel_rfl
theorem cc_12 : isConc Tryd.prog 12 = true := by kernel_rfl
theorem kt_12 : kT Tryd.prog 12 = 0 := by kernel_rfl
theorem sz_13 : szOf Tryd.prog 13 = some 2 := by kernel_rfl
theorem row_13 : rowOf Tryd.prog 13 = some true := by kernel_rfl
theorem zero_13 : zeroOf Tryd.prog 13 = some [.string ⟨#[]⟩, .int .u64 0] := by kernel_rfl
theorem by_13 : bytesOf' Tryd.prog 13 = some 24 := by kernel_rfl
theorem str_13 : isStr Tryd.prog 13 = false := by kernel_rfl
theorem cc_13 : isConc Tryd.prog 13 = true := by kernel_rfl
theorem kt_13 : kT Tryd.prog 13 = 0 := by kernel_rfl
theorem pl_13 : placesOf Tryd.prog 13 = some [(0, 1), (1, 1)] := by kernel_rfl
theorem off_13_0 : offOf Tryd.prog 13 0 = some 0 := by kernel_rfl
theorem fld_13_0 : fldOf Tryd.prog 13 0 = some (0, 1, false) := by kernel_rfl
theorem off_13_1 : offOf Tryd.prog 13 1 = some 1 := by kernel_rfl
theorem fld_13_1 : fldOf Tryd.prog 13 1 = some (1, 1, false) := by kernel_rfl
theorem sz_15 : szOf Tryd.prog 15 = some 1 := by kernel_rfl
theorem row_15 : rowOf Tryd.prog 15 = some false := by kernel_rfl
theorem zero_15 : zeroOf Tryd.prog 15 = some [.pointer none] := by kernel_rfl
theorem by_15 : bytesOf' Tryd.prog 15 = some 8 := by kernel_rfl
theorem str_15 : isStr Tryd.prog 15 = false := by kernel_rfl
theorem cc_15 : isConc Tryd.prog 15 = true := by kernel_rfl
theorem und_15 : Tryd.prog.underlying 15 = some (.pointer 168) := by kernel_rfl
theorem kt_15 : kT Tryd.prog 15 = 2 := by kernel_rfl
theorem sz_16 : szOf Tryd.prog 16 = some 1 := by kernel_rfl
theorem row_16 : rowOf Tryd.prog 16 = some false := by kernel_rfl
theorem zero_16 : zeroOf Tryd.prog 16 = some [.pointer none] := by kernel_rfl
theorem by_16 : bytesOf' Tryd.prog 16 = some 8 := by kernel_rfl
theorem str_16 : isStr Tryd.prog 16 = false := by kernel_rfl
theorem cc_16 : isConc Tryd.prog 16 = true := by kernel_rfl
theorem und_16 : Tryd.prog.underlying 16 = some (.pointer 171) := by kernel_rfl
theorem kt_16 : kT Tryd.prog 16 = 2 := by kernel_rfl
theorem sz_17 : szOf Tryd.prog 17 = some 1 := by kernel_rfl
theorem row_17 : rowOf Tryd.prog 17 = some false := by kernel_rfl
theorem zero_17 : zeroOf Tryd.prog 17 = some [.pointer none] := by kernel_rfl
theorem by_17 : bytesOf' Tryd.prog 17 = some 8 := by kernel_rfl
theorem str_17 : isStr Tryd.prog 17 = false := by kernel_rfl
theorem cc_17 : isConc Tryd.prog 17 = true := by kernel_rfl
theorem und_17 : Tryd.prog.underlying 17 = some (.pointer 178) := by kernel_rfl
theorem kt_17 : kT Tryd.prog 17 = 2 := by kernel_rfl
theorem sz_18 : szOf Tryd.prog 18 = some 1 := by kernel_rfl
theorem row_18 : rowOf Tryd.prog 18 = some true := by kernel_rfl
theorem zero_18 : zeroOf Tryd.prog 18 = some [.pointer none] := by kernel_rfl
theorem by_18 : bytesOf' Tryd.prog 18 = some 8 := by kernel_rfl
theorem str_18 : isStr Tryd.prog 18 = false := by kernel_rfl
theorem cc_18 : isConc Tryd.prog 18 = true := by kernel_rfl
theorem kt_18 : kT Tryd.prog 18 = 0 := by kernel_rfl
theorem pl_18 : placesOf Tryd.prog 18 = some [(0, 1)] := by kernel_rfl
theorem off_18_0 : offOf Tryd.prog 18 0 = some 0 := by kernel_rfl
theorem fld_18_0 : fldOf Tryd.prog 18 0 = some (0, 1, false) := by kernel_rfl
theorem sz_20 : szOf Tryd.prog 20 = some 1 := by kernel_rfl
theorem row_20 : rowOf Tryd.prog 20 = some false := by kernel_rfl
theorem zero_20 : zeroOf Tryd.prog 20 = some [.nilIface] := by kernel_rfl
theorem by_20 : bytesOf' Tryd.prog 20 = some 16 := by kernel_rfl
theorem str_20 : isStr Tryd.prog 20 = false := by kernel_rfl
theorem cc_20 : isConc Tryd.prog 20 = false := by kernel_rfl
theorem kt_20 : kT Tryd.prog 20 = 4 := by kernel_rfl
theorem sz_21 : szOf Tryd.prog 21 = some 1 := by kernel_rfl
theorem row_21 : rowOf Tryd.prog 21 = some false := by kernel_rfl
theorem zero_21 : zeroOf Tryd.prog 21 = some [.int .i32 0] := by kernel_rfl
theorem by_21 : bytesOf' Tryd.prog 21 = some 4 := by kernel_rfl
theorem str_21 : isStr Tryd.prog 21 = false := by kernel_rfl
theorem kind_21 : kindOf' Tryd.prog 21 = some .i32 := by kernel_rfl
theorem cc_21 : isConc Tryd.prog 21 = true := by kernel_rfl
theorem kt_21 : kT Tryd.prog 21 = 0 := by kernel_rfl
theorem sz_22 : szOf Tryd.prog 22 = some 1 := by kernel_rfl
theorem row_22 : rowOf Tryd.prog 22 = some false := by kernel_rfl
theorem zero_22 : zeroOf Tryd.prog 22 = some [.slice none 0 0] := by kernel_rfl
theorem by_22 : bytesOf' Tryd.prog 22 = some 24 := by kernel_rfl
theorem el_22 : elOf Tryd.prog 22 = some 5 := by kernel_rfl
theorem str_22 : isStr Tryd.prog 22 = false := by kernel_rfl
theorem bs_22 : isBytes Tryd.prog 22 = true := by kernel_rfl
theorem cc_22 : isConc Tryd.prog 22 = true := by kernel_rfl
theorem und_22 : Tryd.prog.underlying 22 = some (.slice 5) := by kernel_rfl
theorem kt_22 : kT Tryd.prog 22 = 1 := by kernel_rfl
theorem sz_23 : szOf Tryd.prog 23 = some 1 := by kernel_rfl
theorem row_23 : rowOf Tryd.prog 23 = some false := by kernel_rfl
theorem zero_23 : zeroOf Tryd.prog 23 = some [.slice none 0 0] := by kernel_rfl
theorem by_23 : bytesOf' Tryd.prog 23 = some 24 := by kernel_rfl
theorem el_23 : elOf Tryd.prog 23 = some 30 := by kernel_rfl
theorem str_23 : isStr Tryd.prog 23 = false := by kernel_rfl
theorem bs_23 : isBytes Tryd.prog 23 = false := by kernel_rfl
theorem cc_23 : isConc Tryd.prog 23 = true := by kernel_rfl
theorem und_23 : Tryd.prog.underlying 23 = some (.slice 30) := by kernel_rfl
theorem kt_23 : kT Tryd.prog 23 = 1 := by kernel_rfl
theorem sz_24 : szOf Tryd.prog 24 = some 1 := by kernel_rfl
theorem row_24 : rowOf Tryd.prog 24 = some false := by kernel_rfl
theorem zero_24 : zeroOf Tryd.prog 24 = some [.int .i64 0] := by kernel_rfl
theorem by_24 : bytesOf' Tryd.prog 24 = some 8 := by kernel_rfl
theorem str_24 : isStr Tryd.prog 24 = false := by kernel_rfl
theorem kind_24 : kindOf' Tryd.prog 24 = some .i64 := by kernel_rfl
theorem cc_24 : isConc Tryd.prog 24 = true := by kernel_rfl
theorem kt_24 : kT Tryd.prog 24 = 0 := by kernel_rfl
theorem kt_26 : kT Tryd.prog 26 = 3 := by kernel_rfl
theorem sz_26 : szOf Tryd.prog 26 = some 1 := by kernel_rfl
theorem row_26 : rowOf Tryd.prog 26 = some false := by kernel_rfl
theorem kt_27 : kT Tryd.prog 27 = 3 := by kernel_rfl
theorem sz_27 : szOf Tryd.prog 27 = some 1 := by kernel_rfl
theorem row_27 : rowOf Tryd.prog 27 = some false := by kernel_rfl
theorem sz_28 : szOf Tryd.prog 28 = some 1 := by kernel_rfl
theorem row_28 : rowOf Tryd.prog 28 = some false := by kernel_rfl
theorem zero_28 : zeroOf Tryd.prog 28 = some [.int .u64 0] := by kernel_rfl
theorem by_28 : bytesOf' Tryd.prog 28 = some 8 := by kernel_rfl
theorem str_28 : isStr Tryd.prog 28 = false := by kernel_rfl
theorem kind_28 : kindOf' Tryd.prog 28 = some .u64 := by kernel_rfl
theorem cc_28 : isConc Tryd.prog 28 = true := by kernel_rfl
theorem kt_28 : kT Tryd.prog 28 = 0 := by kernel_rfl
theorem sz_29 : szOf Tryd.prog 29 = some 4 := by kernel_rfl
theorem row_29 : rowOf Tryd.prog 29 = some true := by kernel_rfl
theorem zero_29 : zeroOf Tryd.prog 29 = some [.int .i64 0, .string ⟨#[]⟩, .int .u64 0, .int .i64 0] := by kernel_rfl
theorem by_29 : bytesOf' Tryd.prog 29 = some 40 := by kernel_rfl
theorem str_29 : isStr Tryd.prog 29 = false := by kernel_rfl
theorem cc_29 : isConc Tryd.prog 29 = true := by kernel_rfl
theorem kt_29 : kT Tryd.prog 29 = 0 := by kernel_rfl
theorem pl_29 : placesOf Tryd.prog 29 = some [(0, 1), (1, 1), (2, 1), (3, 1)] := by kernel_rfl
theorem off_29_0 : offOf Tryd.prog 29 0 = some 0 := by kernel_rfl
theorem fld_29_0 : fldOf Tryd.prog 29 0 = some (0, 1, false) := by kernel_rfl
theorem off_29_1 : offOf Tryd.prog 29 1 = some 1 := by kernel_rfl
theorem fld_29_1 : fldOf Tryd.prog 29 1 = some (1, 1, false) := by kernel_rfl
theorem off_29_2 : offOf Tryd.prog 29 2 = some 2 := by kernel_rfl
theorem fld_29_2 : fldOf Tryd.prog 29 2 = some (2, 1, false) := by kernel_rfl
theorem off_29_3 : offOf Tryd.prog 29 3 = some 3 := by kernel_rfl
theorem fld_29_3 : fldOf Tryd.prog 29 3 = some (3, 1, false) := by kernel_rfl
theorem sz_30 : szOf Tryd.prog 30 = some 4 := by kernel_rfl
theorem row_30 : rowOf Tryd.prog 30 = some true := by kernel_rfl
theorem zero_30 : zeroOf Tryd.prog 30 = some [.int .i64 0, .string ⟨#[]⟩, .int .u64 0, .int .i64 0] := by kernel_rfl
theorem by_30 : bytesOf' Tryd.prog 30 = some 40 := by kernel_rfl
theorem str_30 : isStr Tryd.prog 30 = false := by kernel_rfl
theorem cc_30 : isConc Tryd.prog 30 = true := by kernel_rfl
theorem kt_30 : kT Tryd.prog 30 = 0 := by kernel_rfl
theorem pl_30 : placesOf Tryd.prog 30 = some [(0, 1), (1, 1), (2, 1), (3, 1)] := by kernel_rfl
theorem off_30_0 : offOf Tryd.prog 30 0 = some 0 := by kernel_rfl
theorem fld_30_0 : fldOf Tryd.prog 30 0 = some (0, 1, false) := by kernel_rfl
theorem off_30_1 : offOf Tryd.prog 30 1 = some 1 := by kernel_rfl
theorem fld_30_1 : fldOf Tryd.prog 30 1 = some (1, 1, false) := by kernel_rfl
theorem off_30_2 : offOf Tryd.prog 30 2 = some 2 := by kernel_rfl
theorem fld_30_2 : fldOf Tryd.prog 30 2 = some (2, 1, false) := by kernel_rfl
theorem off_30_3 : offOf Tryd.prog 30 3 = some 3 := by kernel_rfl
theorem fld_30_3 : fldOf Tryd.prog 30 3 = some (3, 1, false) := by kernel_rfl
theorem kt_31 : kT Tryd.prog 31 = 3 := by kernel_rfl
theorem sz_31 : szOf Tryd.prog 31 = some 1 := by kernel_rfl
theorem row_31 : rowOf Tryd.prog 31 = some false := by kernel_rfl
theorem kt_32 : kT Tryd.prog 32 = 3 := by kernel_rfl
theorem sz_32 : szOf Tryd.prog 32 = some 1 := by kernel_rfl
theorem row_32 : rowOf Tryd.prog 32 = some false := by kernel_rfl
theorem kt_33 : kT Tryd.prog 33 = 3 := by kernel_rfl
theorem sz_33 : szOf Tryd.prog 33 = some 1 := by kernel_rfl
theorem row_33 : rowOf Tryd.prog 33 = some false := by kernel_rfl
theorem kt_34 : kT Tryd.prog 34 = 3 := by kernel_rfl
theorem sz_34 : szOf Tryd.prog 34 = some 1 := by kernel_rfl
theorem row_34 : rowOf Tryd.prog 34 = some false := by kernel_rfl
theorem kt_35 : kT Tryd.prog 35 = 3 := by kernel_rfl
theorem sz_35 : szOf Tryd.prog 35 = some 1 := by kernel_rfl
theorem row_35 : rowOf Tryd.prog 35 = some false := by kernel_rfl
theorem sz_36 : szOf Tryd.prog 36 = some 1 := by kernel_rfl
theorem row_36 : rowOf Tryd.prog 36 = some false := by kernel_rfl
theorem zero_36 : zeroOf Tryd.prog 36 = some [.nilFunc] := by kernel_rfl
theorem by_36 : bytesOf' Tryd.prog 36 = some 8 := by kernel_rfl
theorem str_36 : isStr Tryd.prog 36 = false := by kernel_rfl
theorem cc_36 : isConc Tryd.prog 36 = true := by kernel_rfl
theorem kt_36 : kT Tryd.prog 36 = 3 := by kernel_rfl
theorem kt_37 : kT Tryd.prog 37 = 3 := by kernel_rfl
theorem sz_37 : szOf Tryd.prog 37 = some 1 := by kernel_rfl
theorem row_37 : rowOf Tryd.prog 37 = some false := by kernel_rfl
theorem kt_38 : kT Tryd.prog 38 = 3 := by kernel_rfl
theorem sz_38 : szOf Tryd.prog 38 = some 1 := by kernel_rfl
theorem row_38 : rowOf Tryd.prog 38 = some false := by kernel_rfl
theorem kt_39 : kT Tryd.prog 39 = 3 := by kernel_rfl
theorem sz_39 : szOf Tryd.prog 39 = some 1 := by kernel_rfl
theorem row_39 : rowOf Tryd.prog 39 = some false := by kernel_rfl
theorem kt_40 : kT Tryd.prog 40 = 3 := by kernel_rfl
theorem sz_40 : szOf Tryd.prog 40 = some 1 := by kernel_rfl
theorem row_40 : rowOf Tryd.prog 40 = some false := by kernel_rfl
theorem kt_42 : kT Tryd.prog 42 = 3 := by kernel_rfl
theorem sz_42 : szOf Tryd.prog 42 = some 1 := by kernel_rfl
theorem row_42 : rowOf Tryd.prog 42 = some false := by kernel_rfl
theorem kt_43 : kT Tryd.prog 43 = 3 := by kernel_rfl
theorem sz_43 : szOf Tryd.prog 43 = some 1 := by kernel_rfl
theorem row_43 : rowOf Tryd.prog 43 = some false := by kernel_rfl
theorem kt_44 : kT Tryd.prog 44 = 3 := by kernel_rfl
theorem sz_44 : szOf Tryd.prog 44 = some 1 := by kernel_rfl
theorem row_44 : rowOf Tryd.prog 44 = some false := by kernel_rfl
theorem kt_45 : kT Tryd.prog 45 = 3 := by kernel_rfl
theorem sz_45 : szOf Tryd.prog 45 = some 1 := by kernel_rfl
theorem row_45 : rowOf Tryd.prog 45 = some false := by kernel_rfl
theorem kt_46 : kT Tryd.prog 46 = 3 := by kernel_rfl
theorem sz_46 : szOf Tryd.prog 46 = some 1 := by kernel_rfl
theorem row_46 : rowOf Tryd.prog 46 = some false := by kernel_rfl
theorem kt_47 : kT Tryd.prog 47 = 3 := by kernel_rfl
theorem sz_47 : szOf Tryd.prog 47 = some 1 := by kernel_rfl
theorem row_47 : rowOf Tryd.prog 47 = some false := by kernel_rfl
theorem kt_48 : kT Tryd.prog 48 = 3 := by kernel_rfl
theorem sz_48 : szOf Tryd.prog 48 = some 1 := by kernel_rfl
theorem row_48 : rowOf Tryd.prog 48 = some false := by kernel_rfl
theorem kt_49 : kT Tryd.prog 49 = 3 := by kernel_rfl
theorem sz_49 : szOf Tryd.prog 49 = some 1 := by kernel_rfl
theorem row_49 : rowOf Tryd.prog 49 = some false := by kernel_rfl
theorem sz_50 : szOf Tryd.prog 50 = some 3 := by kernel_rfl
theorem row_50 : rowOf Tryd.prog 50 = some true := by kernel_rfl
theorem zero_50 : zeroOf Tryd.prog 50 = some [.int .i64 0, .string ⟨#[]⟩, .string ⟨#[]⟩] := by kernel_rfl
theorem by_50 : bytesOf' Tryd.prog 50 = some 40 := by kernel_rfl
theorem str_50 : isStr Tryd.prog 50 = false := by kernel_rfl
theorem cc_50 : isConc Tryd.prog 50 = true := by kernel_rfl
theorem kt_50 : kT Tryd.prog 50 = 0 := by kernel_rfl
theorem pl_50 : placesOf Tryd.prog 50 = some [(0, 1), (1, 1), (2, 1)] := by kernel_rfl
theorem off_50_0 : offOf Tryd.prog 50 0 = some 0 := by kernel_rfl
theorem fld_50_0 : fldOf Tryd.prog 50 0 = some (0, 1, false) := by kernel_rfl
theorem off_50_1 : offOf Tryd.prog 50 1 = some 1 := by kernel_rfl
theorem fld_50_1 : fldOf Tryd.prog 50 1 = some (1, 1, false) := by kernel_rfl
theorem off_50_2 : offOf Tryd.prog 50 2 = some 2 := by kernel_rfl
theorem fld_50_2 : fldOf Tryd.prog 50 2 = some (2, 1, false) := by kernel_rfl
theorem sz_51 : szOf Tryd.prog 51 = some 3 := by kernel_rfl
theorem row_51 : rowOf Tryd.prog 51 = some true := by kernel_rfl
theorem zero_51 : zeroOf Tryd.prog 51 = some [.int .i64 0, .string ⟨#[]⟩, .string ⟨#[]⟩] := by kernel_rfl
theorem by_51 : bytesOf' Tryd.prog 51 = some 40 := by kernel_rfl
theorem str_51 : isStr Tryd.prog 51 = false := by kernel_rfl
theorem cc_51 : isConc Tryd.prog 51 = true := by kernel_rfl
theorem kt_51 : kT Tryd.prog 51 = 0 := by kernel_rfl
theorem pl_51 : placesOf Tryd.prog 51 = some [(0, 1), (1, 1), (2, 1)] := by kernel_rfl
theorem off_51_0 : offOf Tryd.prog 51 0 = some 0 := by kernel_rfl
theorem fld_51_0 : fldOf Tryd.prog 51 0 = some (0, 1, false) := by kernel_rfl
theorem off_51_1 : offOf Tryd.prog 51 1 = some 1 := by kernel_rfl
theorem fld_51_1 : fldOf Tryd.prog 51 1 = some (1, 1, false) := by kernel_rfl
theorem off_51_2 : offOf Tryd.prog 51 2 = some 2 := by kernel_rfl
theorem fld_51_2 : fldOf Tryd.prog 51 2 = some (2, 1, false) := by kernel_rfl
theorem kt_52 : kT Tryd.prog 52 = 3 := by kernel_rfl
theorem sz_52 : szOf Tryd.prog 52 = some 1 := by kernel_rfl
theorem row_52 : rowOf Tryd.prog 52 = some false := by kernel_rfl
theorem sz_53 : szOf Tryd.prog 53 = some 1 := by kernel_rfl
theorem row_53 : rowOf Tryd.prog 53 = some false := by kernel_rfl
theorem zero_53 : zeroOf Tryd.prog 53 = some [.slice none 0 0] := by kernel_rfl
theorem by_53 : bytesOf' Tryd.prog 53 = some 24 := by kernel_rfl
theorem el_53 : elOf Tryd.prog 53 = some 91 := by kernel_rfl
theorem str_53 : isStr Tryd.prog 53 = false := by kernel_rfl
theorem bs_53 : isBytes Tryd.prog 53 = false := by kernel_rfl
theorem cc_53 : isConc Tryd.prog 53 = true := by kernel_rfl
theorem und_53 : Tryd.prog.underlying 53 = some (.slice 91) := by kernel_rfl
theorem kt_53 : kT Tryd.prog 53 = 1 := by kernel_rfl
theorem kt_55 : kT Tryd.prog 55 = 3 := by kernel_rfl
theorem sz_55 : szOf Tryd.prog 55 = some 1 := by kernel_rfl
theorem row_55 : rowOf Tryd.prog 55 = some false := by kernel_rfl
theorem kt_57 : kT Tryd.prog 57 = 3 := by kernel_rfl
theorem sz_57 : szOf Tryd.prog 57 = some 1 := by kernel_rfl
theorem row_57 : rowOf Tryd.prog 57 = some false := by kernel_rfl
theorem kt_58 : kT Tryd.prog 58 = 3 := by kernel_rfl
theorem sz_58 : szOf Tryd.prog 58 = some 1 := by kernel_rfl
theorem row_58 : rowOf Tryd.prog 58 = some false := by kernel_rfl
theorem kt_59 : kT Tryd.prog 59 = 3 := by kernel_rfl
theorem sz_59 : szOf Tryd.prog 59 = some 1 := by kernel_rfl
theorem row_59 : rowOf Tryd.prog 59 = some false := by kernel_rfl
theorem kt_60 : kT Tryd.prog 60 = 3 := by kernel_rfl
theorem sz_60 : szOf Tryd.prog 60 = some 1 := by kernel_rfl
theorem row_60 : rowOf Tryd.prog 60 = some false := by kernel_rfl
theorem kt_61 : kT Tryd.prog 61 = 3 := by kernel_rfl
theorem sz_61 : szOf Tryd.prog 61 = some 1 := by kernel_rfl
theorem row_61 : rowOf Tryd.prog 61 = some false := by kernel_rfl
theorem kt_62 : kT Tryd.prog 62 = 3 := by kernel_rfl
theorem sz_62 : szOf Tryd.prog 62 = some 1 := by kernel_rfl
theorem row_62 : rowOf Tryd.prog 62 = some false := by kernel_rfl
theorem kt_64 : kT Tryd.prog 64 = 3 := by kernel_rfl
theorem sz_64 : szOf Tryd.prog 64 = some 1 := by kernel_rfl
theorem row_64 : rowOf Tryd.prog 64 = some false := by kernel_rfl
theorem kt_65 : kT Tryd.prog 65 = 3 := by kernel_rfl
theorem sz_65 : szOf Tryd.prog 65 = some 1 := by kernel_rfl
theorem row_65 : rowOf Tryd.prog 65 = some false := by kernel_rfl
theorem kt_66 : kT Tryd.prog 66 = 3 := by kernel_rfl
theorem sz_66 : szOf Tryd.prog 66 = some 1 := by kernel_rfl
theorem row_66 : rowOf Tryd.prog 66 = some false := by kernel_rfl
theorem kt_67 : kT Tryd.prog 67 = 3 := by kernel_rfl
theorem sz_67 : szOf Tryd.prog 67 = some 1 := by kernel_rfl
theorem row_67 : rowOf Tryd.prog 67 = some false := by kernel_rfl
theorem kt_68 : kT Tryd.prog 68 = 3 := by kernel_rfl
theorem sz_68 : szOf Tryd.prog 68 = some 1 := by kernel_rfl
theorem row_68 : rowOf Tryd.prog 68 = some false := by kernel_rfl
theorem kt_70 : kT Tryd.prog 70 = 3 := by kernel_rfl
theorem sz_70 : szOf Tryd.prog 70 = some 1 := by kernel_rfl
theorem row_70 : rowOf Tryd.prog 70 = some false := by kernel_rfl
theorem kt_71 : kT Tryd.prog 71 = 3 := by kernel_rfl
theorem sz_71 : szOf Tryd.prog 71 = some 1 := by kernel_rfl
theorem row_71 : rowOf Tryd.prog 71 = some false := by kernel_rfl
theorem kt_72 : kT Tryd.prog 72 = 3 := by kernel_rfl
theorem sz_72 : szOf Tryd.prog 72 = some 1 := by kernel_rfl
theorem row_72 : rowOf Tryd.prog 72 = some false := by kernel_rfl
theorem kt_73 : kT Tryd.prog 73 = 3 := by kernel_rfl
theorem sz_73 : szOf Tryd.prog 73 = some 1 := by kernel_rfl
theorem row_73 : rowOf Tryd.prog 73 = some false := by kernel_rfl
theorem sz_74 : szOf Tryd.prog 74 = some 1 := by kernel_rfl
theorem row_74 : rowOf Tryd.prog 74 = some false := by kernel_rfl
theorem zero_74 : zeroOf Tryd.prog 74 = some [.int .u8 0] := by kernel_rfl
theorem by_74 : bytesOf' Tryd.prog 74 = some 1 := by kernel_rfl
theorem str_74 : isStr Tryd.prog 74 = false := by kernel_rfl
theorem kind_74 : kindOf' Tryd.prog 74 = some .u8 := by kernel_rfl
theorem cc_74 : isConc Tryd.prog 74 = true := by kernel_rfl
theorem kt_74 : kT Tryd.prog 74 = 0 := by kernel_rfl
theorem sz_75 : szOf Tryd.prog 75 = some 1 := by kernel_rfl
theorem row_75 : rowOf Tryd.prog 75 = some false := by kernel_rfl
theorem zero_75 : zeroOf Tryd.prog 75 = some [.int .u64 0] := by kernel_rfl
theorem by_75 : bytesOf' Tryd.prog 75 = some 8 := by kernel_rfl
theorem str_75 : isStr Tryd.prog 75 = false := by kernel_rfl
theorem kind_75 : kindOf' Tryd.prog 75 = some .u64 := by kernel_rfl
theorem cc_75 : isConc Tryd.prog 75 = true := by kernel_rfl
theorem kt_75 : kT Tryd.prog 75 = 0 := by kernel_rfl
theorem kt_76 : kT Tryd.prog 76 = 3 := by kernel_rfl
theorem sz_76 : szOf Tryd.prog 76 = some 1 := by kernel_rfl
theorem row_76 : rowOf Tryd.prog 76 = some false := by kernel_rfl
theorem kt_77 : kT Tryd.prog 77 = 3 := by kernel_rfl
theorem sz_77 : szOf Tryd.prog 77 = some 1 := by kernel_rfl
theorem row_77 : rowOf Tryd.prog 77 = some false := by kernel_rfl
theorem kt_78 : kT Tryd.prog 78 = 3 := by kernel_rfl
theorem sz_78 : szOf Tryd.prog 78 = some 1 := by kernel_rfl
theorem row_78 : rowOf Tryd.prog 78 = some false := by kernel_rfl
theorem sz_79 : szOf Tryd.prog 79 = some 1 := by kernel_rfl
theorem row_79 : rowOf Tryd.prog 79 = some false := by kernel_rfl
theorem zero_79 : zeroOf Tryd.prog 79 = some [.pointer none] := by kernel_rfl
theorem by_79 : bytesOf' Tryd.prog 79 = some 8 := by kernel_rfl
theorem str_79 : isStr Tryd.prog 79 = false := by kernel_rfl
theorem cc_79 : isConc Tryd.prog 79 = true := by kernel_rfl
theorem und_79 : Tryd.prog.underlying 79 = some (.pointer 81) := by kernel_rfl
theorem kt_79 : kT Tryd.prog 79 = 2 := by kernel_rfl
theorem sz_80 : szOf Tryd.prog 80 = some 2 := by kernel_rfl
theorem row_80 : rowOf Tryd.prog 80 = some true := by kernel_rfl
theorem zero_80 : zeroOf Tryd.prog 80 = some [.pointer none, .slice none 0 0] := by kernel_rfl
theorem by_80 : bytesOf' Tryd.prog 80 = some 32 := by kernel_rfl
theorem str_80 : isStr Tryd.prog 80 = false := by kernel_rfl
theorem cc_80 : isConc Tryd.prog 80 = true := by kernel_rfl
theorem kt_80 : kT Tryd.prog 80 = 0 := by kernel_rfl
theorem pl_80 : placesOf Tryd.prog 80 = some [(0, 1), (1, 1)] := by kernel_rfl
theorem off_80_0 : offOf Tryd.prog 80 0 = some 0 := by kernel_rfl
theorem fld_80_0 : fldOf Tryd.prog 80 0 = some (0, 1, false) := by kernel_rfl
theorem off_80_1 : offOf Tryd.prog 80 1 = some 1 := by kernel_rfl
theorem fld_80_1 : fldOf Tryd.prog 80 1 = some (1, 1, false) := by kernel_rfl
theorem sz_81 : szOf Tryd.prog 81 = some 2 := by kernel_rfl
theorem row_81 : rowOf Tryd.prog 81 = some true := by kernel_rfl
theorem zero_81 : zeroOf Tryd.prog 81 = some [.pointer none, .slice none 0 0] := by kernel_rfl
theorem by_81 : bytesOf' Tryd.prog 81 = some 32 := by kernel_rfl
theorem str_81 : isStr Tryd.prog 81 = false := by kernel_rfl
theorem cc_81 : isConc Tryd.prog 81 = true := by kernel_rfl
theorem kt_81 : kT Tryd.prog 81 = 0 := by kernel_rfl
theorem pl_81 : placesOf Tryd.prog 81 = some [(0, 1), (1, 1)] := by kernel_rfl
theorem off_81_0 : offOf Tryd.prog 81 0 = some 0 := by kernel_rfl
theorem fld_81_0 : fldOf Tryd.prog 81 0 = some (0, 1, false) := by kernel_rfl
theorem off_81_1 : offOf Tryd.prog 81 1 = some 1 := by kernel_rfl
theorem fld_81_1 : fldOf Tryd.prog 81 1 = some (1, 1, false) := by kernel_rfl
theorem kt_82 : kT Tryd.prog 82 = 3 := by kernel_rfl
theorem sz_82 : szOf Tryd.prog 82 = some 1 := by kernel_rfl
theorem row_82 : rowOf Tryd.prog 82 = some false := by kernel_rfl
theorem sz_83 : szOf Tryd.prog 83 = some 1 := by kernel_rfl
theorem row_83 : rowOf Tryd.prog 83 = some false := by kernel_rfl
theorem zero_83 : zeroOf Tryd.prog 83 = some [.nilIface] := by kernel_rfl
theorem by_83 : bytesOf' Tryd.prog 83 = some 16 := by kernel_rfl
theorem str_83 : isStr Tryd.prog 83 = false := by kernel_rfl
theorem cc_83 : isConc Tryd.prog 83 = false := by kernel_rfl
theorem kt_83 : kT Tryd.prog 83 = 4 := by kernel_rfl
theorem sz_84 : szOf Tryd.prog 84 = some 1 := by kernel_rfl
theorem row_84 : rowOf Tryd.prog 84 = some false := by kernel_rfl
theorem zero_84 : zeroOf Tryd.prog 84 = some [.nilIface] := by kernel_rfl
theorem by_84 : bytesOf' Tryd.prog 84 = some 16 := by kernel_rfl
theorem str_84 : isStr Tryd.prog 84 = false := by kernel_rfl
theorem cc_84 : isConc Tryd.prog 84 = false := by kernel_rfl
theorem kt_84 : kT Tryd.prog 84 = 4 := by kernel_rfl
theorem kt_85 : kT Tryd.prog 85 = 3 := by kernel_rfl
theorem sz_85 : szOf Tryd.prog 85 = some 1 := by kernel_rfl
theorem row_85 : rowOf Tryd.prog 85 = some false := by kernel_rfl
theorem kt_87 : kT Tryd.prog 87 = 3 := by kernel_rfl
theorem sz_87 : szOf Tryd.prog 87 = some 1 := by kernel_rfl
theorem row_87 : rowOf Tryd.prog 87 = some false := by kernel_rfl
theorem kt_88 : kT Tryd.prog 88 = 3 := by kernel_rfl
theorem sz_88 : szOf Tryd.prog 88 = some 1 := by kernel_rfl
theorem row_88 : rowOf Tryd.prog 88 = some false := by kernel_rfl
theorem kt_89 : kT Tryd.prog 89 = 3 := by kernel_rfl
theorem sz_89 : szOf Tryd.prog 89 = some 1 := by kernel_rfl
theorem row_89 : rowOf Tryd.prog 89 = some false := by kernel_rfl
theorem sz_90 : szOf Tryd.prog 90 = some 3 := by kernel_rfl
theorem row_90 : rowOf Tryd.prog 90 = some true := by kernel_rfl
theorem zero_90 : zeroOf Tryd.prog 90 = some [.int .i64 0, .int .i64 0, .string ⟨#[]⟩] := by kernel_rfl
theorem by_90 : bytesOf' Tryd.prog 90 = some 32 := by kernel_rfl
theorem str_90 : isStr Tryd.prog 90 = false := by kernel_rfl
theorem cc_90 : isConc Tryd.prog 90 = true := by kernel_rfl
theorem kt_90 : kT Tryd.prog 90 = 0 := by kernel_rfl
theorem pl_90 : placesOf Tryd.prog 90 = some [(0, 1), (1, 1), (2, 1)] := by kernel_rfl
theorem off_90_0 : offOf Tryd.prog 90 0 = some 0 := by kernel_rfl
theorem fld_90_0 : fldOf Tryd.prog 90 0 = some (0, 1, false) := by kernel_rfl
theorem off_90_1 : offOf Tryd.prog 90 1 = some 1 := by kernel_rfl
theorem fld_90_1 : fldOf Tryd.prog 90 1 = some (1, 1, false) := by kernel_rfl
theorem off_90_2 : offOf Tryd.prog 90 2 = some 2 := by kernel_rfl
theorem fld_90_2 : fldOf Tryd.prog 90 2 = some (2, 1, false) := by kernel_rfl
theorem sz_91 : szOf Tryd.prog 91 = some 3 := by kernel_rfl
theorem row_91 : rowOf Tryd.prog 91 = some true := by kernel_rfl
theorem zero_91 : zeroOf Tryd.prog 91 = some [.int .i64 0, .int .i64 0, .string ⟨#[]⟩] := by kernel_rfl
theorem by_91 : bytesOf' Tryd.prog 91 = some 32 := by kernel_rfl
theorem str_91 : isStr Tryd.prog 91 = false := by kernel_rfl
theorem cc_91 : isConc Tryd.prog 91 = true := by kernel_rfl
theorem kt_91 : kT Tryd.prog 91 = 0 := by kernel_rfl
theorem pl_91 : placesOf Tryd.prog 91 = some [(0, 1), (1, 1), (2, 1)] := by kernel_rfl
theorem off_91_0 : offOf Tryd.prog 91 0 = some 0 := by kernel_rfl
theorem fld_91_0 : fldOf Tryd.prog 91 0 = some (0, 1, false) := by kernel_rfl
theorem off_91_1 : offOf Tryd.prog 91 1 = some 1 := by kernel_rfl
theorem fld_91_1 : fldOf Tryd.prog 91 1 = some (1, 1, false) := by kernel_rfl
theorem off_91_2 : offOf Tryd.prog 91 2 = some 2 := by kernel_rfl
theorem fld_91_2 : fldOf Tryd.prog 91 2 = some (2, 1, false) := by kernel_rfl
theorem sz_92 : szOf Tryd.prog 92 = some 2 := by kernel_rfl
theorem row_92 : rowOf Tryd.prog 92 = some true := by kernel_rfl
theorem zero_92 : zeroOf Tryd.prog 92 = some [.string ⟨#[]⟩, .string ⟨#[]⟩] := by kernel_rfl
theorem by_92 : bytesOf' Tryd.prog 92 = some 32 := by kernel_rfl
theorem str_92 : isStr Tryd.prog 92 = false := by kernel_rfl
theorem cc_92 : isConc Tryd.prog 92 = true := by kernel_rfl
theorem und_92 : Tryd.prog.underlying 92 = some (.array 2 9) := by kernel_rfl
theorem kt_92 : kT Tryd.prog 92 = 0 := by kernel_rfl
theorem asz_92 : arrSz Tryd.prog 92 = some 1 := by kernel_rfl
theorem pl_92 : placesOf Tryd.prog 92 = none := by kernel_rfl
theorem arr_92 : arrOf Tryd.prog 92 = some (2, 1) := by kernel_rfl
theorem kt_93 : kT Tryd.prog 93 = 3 := by kernel_rfl
theorem sz_93 : szOf Tryd.prog 93 = some 1 := by kernel_rfl
theorem row_93 : rowOf Tryd.prog 93 = some false := by kernel_rfl
theorem sz_94 : szOf Tryd.prog 94 = some 1 := by kernel_rfl
theorem row_94 : rowOf Tryd.prog 94 = some true := by kernel_rfl
theorem zero_94 : zeroOf Tryd.prog 94 = some [.int .i64 0] := by kernel_rfl
theorem by_94 : bytesOf' Tryd.prog 94 = some 8 := by kernel_rfl
theorem str_94 : isStr Tryd.prog 94 = false := by kernel_rfl
theorem cc_94 : isConc Tryd.prog 94 = true := by kernel_rfl
theorem kt_94 : kT Tryd.prog 94 = 0 := by kernel_rfl
theorem pl_94 : placesOf Tryd.prog 94 = some [(0, 1)] := by kernel_rfl
theorem off_94_0 : offOf Tryd.prog 94 0 = some 0 := by kernel_rfl
theorem fld_94_0 : fldOf Tryd.prog 94 0 = some (0, 1, false) := by kernel_rfl
theorem sz_95 : szOf Tryd.prog 95 = some 1 := by kernel_rfl
theorem row_95 : rowOf Tryd.prog 95 = some true := by kernel_rfl
theorem zero_95 : zeroOf Tryd.prog 95 = some [.int .i64 0] := by kernel_rfl
theorem by_95 : bytesOf' Tryd.prog 95 = some 8 := by kernel_rfl
theorem str_95 : isStr Tryd.prog 95 = false := by kernel_rfl
theorem cc_95 : isConc Tryd.prog 95 = true := by kernel_rfl
theorem kt_95 : kT Tryd.prog 95 = 0 := by kernel_rfl
theorem pl_95 : placesOf Tryd.prog 95 = some [(0, 1)] := by kernel_rfl
theorem off_95_0 : offOf Tryd.prog 95 0 = some 0 := by kernel_rfl
theorem fld_95_0 : fldOf Tryd.prog 95 0 = some (0, 1, false) := by kernel_rfl
theorem sz_96 : szOf Tryd.prog 96 = some 1 := by kernel_rfl
theorem row_96 : rowOf Tryd.prog 96 = some false := by kernel_rfl
theorem zero_96 : zeroOf Tryd.prog 96 = some [.pointer none] := by kernel_rfl
theorem by_96 : bytesOf' Tryd.prog 96 = some 8 := by kernel_rfl
theorem str_96 : isStr Tryd.prog 96 = false := by kernel_rfl
theorem cc_96 : isConc Tryd.prog 96 = true := by kernel_rfl
theorem und_96 : Tryd.prog.underlying 96 = some (.pointer 98) := by kernel_rfl
theorem kt_96 : kT Tryd.prog 96 = 2 := by kernel_rfl
theorem sz_97 : szOf Tryd.prog 97 = some 4 := by kernel_rfl
theorem row_97 : rowOf Tryd.prog 97 = some true := by kernel_rfl
theorem zero_97 : zeroOf Tryd.prog 97 = some [.slice none 0 0, .int .i64 0, .int .i64 0, .slice none 0 0] := by kernel_rfl
theorem by_97 : bytesOf' Tryd.prog 97 = some 64 := by kernel_rfl
theorem str_97 : isStr Tryd.prog 97 = false := by kernel_rfl
theorem cc_97 : isConc Tryd.prog 97 = true := by kernel_rfl
theorem kt_97 : kT Tryd.prog 97 = 0 := by kernel_rfl
theorem pl_97 : placesOf Tryd.prog 97 = some [(0, 1), (1, 1), (2, 1), (3, 1)] := by kernel_rfl
theorem off_97_0 : offOf Tryd.prog 97 0 = some 0 := by kernel_rfl
theorem fld_97_0 : fldOf Tryd.prog 97 0 = some (0, 1, false) := by kernel_rfl
theorem off_97_1 : offOf Tryd.prog 97 1 = some 1 := by kernel_rfl
theorem fld_97_1 : fldOf Tryd.prog 97 1 = some (1, 1, false) := by kernel_rfl
theorem off_97_2 : offOf Tryd.prog 97 2 = some 2 := by kernel_rfl
theorem fld_97_2 : fldOf Tryd.prog 97 2 = some (2, 1, false) := by kernel_rfl
theorem off_97_3 : offOf Tryd.prog 97 3 = some 3 := by kernel_rfl
theorem fld_97_3 : fldOf Tryd.prog 97 3 = some (3, 1, false) := by kernel_rfl
theorem sz_98 : szOf Tryd.prog 98 = some 4 := by kernel_rfl
theorem row_98 : rowOf Tryd.prog 98 = some true := by kernel_rfl
theorem zero_98 : zeroOf Tryd.prog 98 = some [.slice none 0 0, .int .i64 0, .int .i64 0, .slice none 0 0] := by kernel_rfl
theorem by_98 : bytesOf' Tryd.prog 98 = some 64 := by kernel_rfl
theorem str_98 : isStr Tryd.prog 98 = false := by kernel_rfl
theorem cc_98 : isConc Tryd.prog 98 = true := by kernel_rfl
theorem kt_98 : kT Tryd.prog 98 = 0 := by kernel_rfl
theorem pl_98 : placesOf Tryd.prog 98 = some [(0, 1), (1, 1), (2, 1), (3, 1)] := by kernel_rfl
theorem off_98_0 : offOf Tryd.prog 98 0 = some 0 := by kernel_rfl
theorem fld_98_0 : fldOf Tryd.prog 98 0 = some (0, 1, false) := by kernel_rfl
theorem off_98_1 : offOf Tryd.prog 98 1 = some 1 := by kernel_rfl
theorem fld_98_1 : fldOf Tryd.prog 98 1 = some (1, 1, false) := by kernel_rfl
theorem off_98_2 : offOf Tryd.prog 98 2 = some 2 := by kernel_rfl
theorem fld_98_2 : fldOf Tryd.prog 98 2 = some (2, 1, false) := by kernel_rfl
theorem off_98_3 : offOf Tryd.prog 98 3 = some 3 := by kernel_rfl
theorem fld_98_3 : fldOf Tryd.prog 98 3 = some (3, 1, false) := by kernel_rfl
theorem kt_99 : kT Tryd.prog 99 = 3 := by kernel_rfl
theorem sz_99 : szOf Tryd.prog 99 = some 1 := by kernel_rfl
theorem row_99 : rowOf Tryd.prog 99 = some false := by kernel_rfl
theorem sz_100 : szOf Tryd.prog 100 = some 1 := by kernel_rfl
theorem row_100 : rowOf Tryd.prog 100 = some false := by kernel_rfl
theorem zero_100 : zeroOf Tryd.prog 100 = some [.slice none 0 0] := by kernel_rfl
theorem by_100 : bytesOf' Tryd.prog 100 = some 24 := by kernel_rfl
theorem el_100 : elOf Tryd.prog 100 = some 51 := by kernel_rfl
theorem str_100 : isStr Tryd.prog 100 = false := by kernel_rfl
theorem bs_100 : isBytes Tryd.prog 100 = false := by kernel_rfl
theorem cc_100 : isConc Tryd.prog 100 = true := by kernel_rfl
theorem und_100 : Tryd.prog.underlying 100 = some (.slice 51) := by kernel_rfl
theorem kt_100 : kT Tryd.prog 100 = 1 := by kernel_rfl
theorem kt_101 : kT Tryd.prog 101 = 3 := by kernel_rfl
theorem sz_101 : szOf Tryd.prog 101 = some 1 := by kernel_rfl
theorem row_101 : rowOf Tryd.prog 101 = some false := by kernel_rfl
theorem kt_102 : kT Tryd.prog 102 = 3 := by kernel_rfl
theorem sz_102 : szOf Tryd.prog 102 = some 1 := by kernel_rfl
theorem row_102 : rowOf Tryd.prog 102 = some false := by kernel_rfl
theorem sz_103 : szOf Tryd.prog 103 = some 1 := by kernel_rfl
theorem row_103 : rowOf Tryd.prog 103 = some false := by kernel_rfl
theorem zero_103 : zeroOf Tryd.prog 103 = some [.slice none 0 0] := by kernel_rfl
theorem by_103 : bytesOf' Tryd.prog 103 = some 24 := by kernel_rfl
theorem el_103 : elOf Tryd.prog 103 = some 105 := by kernel_rfl
theorem str_103 : isStr Tryd.prog 103 = false := by kernel_rfl
theorem bs_103 : isBytes Tryd.prog 103 = false := by kernel_rfl
theorem cc_103 : isConc Tryd.prog 103 = true := by kernel_rfl
theorem und_103 : Tryd.prog.underlying 103 = some (.slice 105) := by kernel_rfl
theorem kt_103 : kT Tryd.prog 103 = 1 := by kernel_rfl
theorem sz_104 : szOf Tryd.prog 104 = some 2 := by kernel_rfl
theorem row_104 : rowOf Tryd.prog 104 = some true := by kernel_rfl
theorem zero_104 : zeroOf Tryd.prog 104 = some [.string ⟨#[]⟩, .int .i64 0] := by kernel_rfl
theorem by_104 : bytesOf' Tryd.prog 104 = some 24 := by kernel_rfl
theorem str_104 : isStr Tryd.prog 104 = false := by kernel_rfl
theorem cc_104 : isConc Tryd.prog 104 = true := by kernel_rfl
theorem kt_104 : kT Tryd.prog 104 = 0 := by kernel_rfl
theorem pl_104 : placesOf Tryd.prog 104 = some [(0, 1), (1, 1)] := by kernel_rfl
theorem off_104_0 : offOf Tryd.prog 104 0 = some 0 := by kernel_rfl
theorem fld_104_0 : fldOf Tryd.prog 104 0 = some (0, 1, false) := by kernel_rfl
theorem off_104_1 : offOf Tryd.prog 104 1 = some 1 := by kernel_rfl
theorem fld_104_1 : fldOf Tryd.prog 104 1 = some (1, 1, false) := by kernel_rfl
theorem sz_105 : szOf Tryd.prog 105 = some 2 := by kernel_rfl
theorem row_105 : rowOf Tryd.prog 105 = some true := by kernel_rfl
theorem zero_105 : zeroOf Tryd.prog 105 = some [.string ⟨#[]⟩, .int .i64 0] := by kernel_rfl
theorem by_105 : bytesOf' Tryd.prog 105 = some 24 := by kernel_rfl
theorem str_105 : isStr Tryd.prog 105 = false := by kernel_rfl
theorem cc_105 : isConc Tryd.prog 105 = true := by kernel_rfl
theorem kt_105 : kT Tryd.prog 105 = 0 := by kernel_rfl
theorem pl_105 : placesOf Tryd.prog 105 = some [(0, 1), (1, 1)] := by kernel_rfl
theorem off_105_0 : offOf Tryd.prog 105 0 = some 0 := by kernel_rfl
theorem fld_105_0 : fldOf Tryd.prog 105 0 = some (0, 1, false) := by kernel_rfl
theorem off_105_1 : offOf Tryd.prog 105 1 = some 1 := by kernel_rfl
theorem fld_105_1 : fldOf Tryd.prog 105 1 = some (1, 1, false) := by kernel_rfl
theorem kt_106 : kT Tryd.prog 106 = 3 := by kernel_rfl
theorem sz_106 : szOf Tryd.prog 106 = some 1 := by kernel_rfl
theorem row_106 : rowOf Tryd.prog 106 = some false := by kernel_rfl
theorem sz_107 : szOf Tryd.prog 107 = some 1 := by kernel_rfl
theorem row_107 : rowOf Tryd.prog 107 = some false := by kernel_rfl
theorem zero_107 : zeroOf Tryd.prog 107 = some [.slice none 0 0] := by kernel_rfl
theorem by_107 : bytesOf' Tryd.prog 107 = some 24 := by kernel_rfl
theorem el_107 : elOf Tryd.prog 107 = some 3 := by kernel_rfl
theorem str_107 : isStr Tryd.prog 107 = false := by kernel_rfl
theorem bs_107 : isBytes Tryd.prog 107 = false := by kernel_rfl
theorem cc_107 : isConc Tryd.prog 107 = true := by kernel_rfl
theorem und_107 : Tryd.prog.underlying 107 = some (.slice 3) := by kernel_rfl
theorem kt_107 : kT Tryd.prog 107 = 1 := by kernel_rfl
theorem sz_108 : szOf Tryd.prog 108 = some 1 := by kernel_rfl
theorem row_108 : rowOf Tryd.prog 108 = some false := by kernel_rfl
theorem zero_108 : zeroOf Tryd.prog 108 = some [.string ⟨#[]⟩] := by kernel_rfl
theorem by_108 : bytesOf' Tryd.prog 108 = some 16 := by kernel_rfl
theorem str_108 : isStr Tryd.prog 108 = true := by kernel_rfl
theorem bs_108 : isBytes Tryd.prog 108 = false := by kernel_rfl
theorem cc_108 : isConc Tryd.prog 108 = true := by kernel_rfl
theorem kt_108 : kT Tryd.prog 108 = 0 := by kernel_rfl
theorem kt_109 : kT Tryd.prog 109 = 3 := by kernel_rfl
theorem sz_109 : szOf Tryd.prog 109 = some 1 := by kernel_rfl
theorem row_109 : rowOf Tryd.prog 109 = some false := by kernel_rfl
theorem kt_111 : kT Tryd.prog 111 = 3 := by kernel_rfl
theorem sz_111 : szOf Tryd.prog 111 = some 1 := by kernel_rfl
theorem row_111 : rowOf Tryd.prog 111 = some false := by kernel_rfl
theorem kt_112 : kT Tryd.prog 112 = 3 := by kernel_rfl
theorem sz_112 : szOf Tryd.prog 112 = some 1 := by kernel_rfl
theorem row_112 : rowOf Tryd.prog 112 = some false := by kernel_rfl
theorem kt_114 : kT Tryd.prog 114 = 3 := by kernel_rfl
theorem sz_114 : szOf Tryd.prog 114 = some 1 := by kernel_rfl
theorem row_114 : rowOf Tryd.prog 114 = some false := by kernel_rfl
theorem kt_115 : kT Tryd.prog 115 = 3 := by kernel_rfl
theorem sz_115 : szOf Tryd.prog 115 = some 1 := by kernel_rfl
theorem row_115 : rowOf Tryd.prog 115 = some false := by kernel_rfl
theorem sz_116 : szOf Tryd.prog 116 = some 1 := by kernel_rfl
theorem row_116 : rowOf Tryd.prog 116 = some false := by kernel_rfl
theorem zero_116 : zeroOf Tryd.prog 116 = some [.pointer none] := by kernel_rfl
theorem by_116 : bytesOf' Tryd.prog 116 = some 8 := by kernel_rfl
theorem str_116 : isStr Tryd.prog 116 = false := by kernel_rfl
theorem cc_116 : isConc Tryd.prog 116 = true := by kernel_rfl
theorem und_116 : Tryd.prog.underlying 116 = some (.pointer 5) := by kernel_rfl
theorem kt_116 : kT Tryd.prog 116 = 2 := by kernel_rfl
theorem sz_117 : szOf Tryd.prog 117 = some 20 := by kernel_rfl
theorem row_117 : rowOf Tryd.prog 117 = some true := by kernel_rfl
theorem zero_117 : zeroOf Tryd.prog 117 = some [.int .u8 0, .int .u8 0, .int .u8 0, .int .u8 0, .int .u8 0, .int .u8 0, .int .u8 0, .int .u8 0, .int .u8 0, .int .u8 0, .int .u8 0, .int .u8 0, .int .u8 0, .int .u8 0, .int .u8 0, .int .u8 0, .int .u8 0, .int .u8 0, .int .u8 0, .int .u8 0] := by kernel_rfl
theorem by_117 : bytesOf' Tryd.prog 117 = some 20 := by kernel_rfl
theorem str_117 : isStr Tryd.prog 117 = false := by kernel_rfl
theorem cc_117 : isConc Tryd.prog 117 = true := by kernel_rfl
theorem und_117 : Tryd.prog.underlying 117 = some (.array 20 5) := by kernel_rfl
theorem kt_117 : kT Tryd.prog 117 = 0 := by kernel_rfl
theorem asz_117 : arrSz Tryd.prog 117 = some 1 := by kernel_rfl
theorem pl_117 : placesOf Tryd.prog 117 = none := by kernel_rfl
theorem arr_117 : arrOf Tryd.prog 117 = some (20, 1) := by kernel_rfl
theorem kt_118 : kT Tryd.prog 118 = 3 := by kernel_rfl
theorem sz_118 : szOf Tryd.prog 118 = some 1 := by kernel_rfl
theorem row_118 : rowOf Tryd.prog 118 = some false := by kernel_rfl
theorem kt_119 : kT Tryd.prog 119 = 3 := by kernel_rfl
theorem sz_119 : szOf Tryd.prog 119 = some 1 := by kernel_rfl
theorem row_119 : rowOf Tryd.prog 119 = some false := by kernel_rfl
theorem kt_120 : kT Tryd.prog 120 = 3 := by kernel_rfl
theorem sz_120 : szOf Tryd.prog 120 = some 1 := by kernel_rfl
theorem row_120 : rowOf Tryd.prog 120 = some false := by kernel_rfl
theorem kt_121 : kT Tryd.prog 121 = 3 := by kernel_rfl
theorem sz_121 : szOf Tryd.prog 121 = some 1 := by kernel_rfl
theorem row_121 : rowOf Tryd.prog 121 = some false := by kernel_rfl
theorem kt_122 : kT Tryd.prog 122 = 3 := by kernel_rfl
theorem sz_122 : szOf Tryd.prog 122 = some 1 := by kernel_rfl
theorem row_122 : rowOf Tryd.prog 122 = some false := by kernel_rfl
theorem kt_124 : kT Tryd.prog 124 = 3 := by kernel_rfl
theorem sz_124 : szOf Tryd.prog 124 = some 1 := by kernel_rfl
theorem row_124 : rowOf Tryd.prog 124 = some false := by kernel_rfl
theorem sz_125 : szOf Tryd.prog 125 = some 15 := by kernel_rfl
theorem row_125 : rowOf Tryd.prog 125 = some true := by kernel_rfl
theorem zero_125 : zeroOf Tryd.prog 125 = some [.string ⟨#[]⟩, .string ⟨#[]⟩, .string ⟨#[]⟩, .string ⟨#[]⟩, .string ⟨#[]⟩, .string ⟨#[]⟩, .string ⟨#[]⟩, .string ⟨#[]⟩, .string ⟨#[]⟩, .string ⟨#[]⟩, .string ⟨#[]⟩, .string ⟨#[]⟩, .string ⟨#[]⟩, .string ⟨#[]⟩, .string ⟨#[]⟩] := by kernel_rfl
theorem by_125 : bytesOf' Tryd.prog 125 = some 240 := by kernel_rfl
theorem str_125 : isStr Tryd.prog 125 = false := by kernel_rfl
theorem cc_125 : isConc Tryd.prog 125 = true := by kernel_rfl
theorem und_125 : Tryd.prog.underlying 125 = some (.array 15 9) := by kernel_rfl
theorem kt_125 : kT Tryd.prog 125 = 0 := by kernel_rfl
theorem asz_125 : arrSz Tryd.prog 125 = some 1 := by kernel_rfl
theorem pl_125 : placesOf Tryd.prog 125 = none := by kernel_rfl
theorem arr_125 : arrOf Tryd.prog 125 = some (15, 1) := by kernel_rfl
theorem kt_126 : kT Tryd.prog 126 = 3 := by kernel_rfl
theorem sz_126 : szOf Tryd.prog 126 = some 1 := by kernel_rfl
theorem row_126 : rowOf Tryd.prog 126 = some false := by kernel_rfl
theorem sz_127 : szOf Tryd.prog 127 = some 2 := by kernel_rfl
theorem row_127 : rowOf Tryd.prog 127 = some true := by kernel_rfl
theorem zero_127 : zeroOf Tryd.prog 127 = some [.nilFunc, .int .i64 0] := by kernel_rfl
theorem by_127 : bytesOf' Tryd.prog 127 = some 16 := by kernel_rfl
theorem str_127 : isStr Tryd.prog 127 = false := by kernel_rfl
theorem cc_127 : isConc Tryd.prog 127 = true := by kernel_rfl
theorem kt_127 : kT Tryd.prog 127 = 0 := by kernel_rfl
theorem pl_127 : placesOf Tryd.prog 127 = some [(0, 1), (1, 1)] := by kernel_rfl
theorem off_127_0 : offOf Tryd.prog 127 0 = some 0 := by kernel_rfl
theorem fld_127_0 : fldOf Tryd.prog 127 0 = some (0, 1, false) := by kernel_rfl
theorem off_127_1 : offOf Tryd.prog 127 1 = some 1 := by kernel_rfl
theorem fld_127_1 : fldOf Tryd.prog 127 1 = some (1, 1, false) := by kernel_rfl
theorem sz_128 : szOf Tryd.prog 128 = some 2 := by kernel_rfl
theorem row_128 : rowOf Tryd.prog 128 = some true := by kernel_rfl
theorem zero_128 : zeroOf Tryd.prog 128 = some [.nilFunc, .int .i64 0] := by kernel_rfl
theorem by_128 : bytesOf' Tryd.prog 128 = some 16 := by kernel_rfl
theorem str_128 : isStr Tryd.prog 128 = false := by kernel_rfl
theorem cc_128 : isConc Tryd.prog 128 = true := by kernel_rfl
theorem kt_128 : kT Tryd.prog 128 = 0 := by kernel_rfl
theorem pl_128 : placesOf Tryd.prog 128 = some [(0, 1), (1, 1)] := by kernel_rfl
theorem off_128_0 : offOf Tryd.prog 128 0 = some 0 := by kernel_rfl
theorem fld_128_0 : fldOf Tryd.prog 128 0 = some (0, 1, false) := by kernel_rfl
theorem off_128_1 : offOf Tryd.prog 128 1 = some 1 := by kernel_rfl
theorem fld_128_1 : fldOf Tryd.prog 128 1 = some (1, 1, false) := by kernel_rfl
theorem kt_130 : kT Tryd.prog 130 = 3 := by kernel_rfl
theorem sz_130 : szOf Tryd.prog 130 = some 1 := by kernel_rfl
theorem row_130 : rowOf Tryd.prog 130 = some false := by kernel_rfl
theorem sz_131 : szOf Tryd.prog 131 = some 24 := by kernel_rfl
theorem row_131 : rowOf Tryd.prog 131 = some true := by kernel_rfl
theorem zero_131 : zeroOf Tryd.prog 131 = some [.int .u8 0, .int .u8 0, .int .u8 0, .int .u8 0, .int .u8 0, .int .u8 0, .int .u8 0, .int .u8 0, .int .u8 0, .int .u8 0, .int .u8 0, .int .u8 0, .int .u8 0, .int .u8 0, .int .u8 0, .int .u8 0, .int .u8 0, .int .u8 0, .int .u8 0, .int .u8 0, .int .u8 0, .int .u8 0, .int .u8 0, .int .u8 0] := by kernel_rfl
theorem by_131 : bytesOf' Tryd.prog 131 = some 24 := by kernel_rfl
theorem str_131 : isStr Tryd.prog 131 = false := by kernel_rfl
theorem cc_131 : isConc Tryd.prog 131 = true := by kernel_rfl
theorem und_131 : Tryd.prog.underlying 131 = some (.array 24 5) := by kernel_rfl
theorem kt_131 : kT Tryd.prog 131 = 0 := by kernel_rfl
theorem asz_131 : arrSz Tryd.prog 131 = some 1 := by kernel_rfl
theorem pl_131 : placesOf Tryd.prog 131 = none := by kernel_rfl
theorem arr_131 : arrOf Tryd.prog 131 = some (24, 1) := by kernel_rfl
theorem kt_132 : kT Tryd.prog 132 = 3 := by kernel_rfl
theorem sz_132 : szOf Tryd.prog 132 = some 1 := by kernel_rfl
theorem row_132 : rowOf Tryd.prog 132 = some false := by kernel_rfl
theorem kt_133 : kT Tryd.prog 133 = 3 := by kernel_rfl
theorem sz_133 : szOf Tryd.prog 133 = some 1 := by kernel_rfl
theorem row_133 : rowOf Tryd.prog 133 = some false := by kernel_rfl
theorem kt_135 : kT Tryd.prog 135 = 3 := by kernel_rfl
theorem sz_135 : szOf Tryd.prog 135 = some 1 := by kernel_rfl
theorem row_135 : rowOf Tryd.prog 135 = some false := by kernel_rfl
theorem sz_136 : szOf Tryd.prog 136 = some 1 := by kernel_rfl
theorem row_136 : rowOf Tryd.prog 136 = some false := by kernel_rfl
theorem zero_136 : zeroOf Tryd.prog 136 = some [.pointer none] := by kernel_rfl
theorem by_136 : bytesOf' Tryd.prog 136 = some 8 := by kernel_rfl
theorem str_136 : isStr Tryd.prog 136 = false := by kernel_rfl
theorem cc_136 : isConc Tryd.prog 136 = true := by kernel_rfl
theorem kt_136 : kT Tryd.prog 136 = 0 := by kernel_rfl
theorem kt_137 : kT Tryd.prog 137 = 3 := by kernel_rfl
theorem sz_137 : szOf Tryd.prog 137 = some 1 := by kernel_rfl
theorem row_137 : rowOf Tryd.prog 137 = some false := by kernel_rfl
theorem kt_138 : kT Tryd.prog 138 = 3 := by kernel_rfl
theorem sz_138 : szOf Tryd.prog 138 = some 1 := by kernel_rfl
theorem row_138 : rowOf Tryd.prog 138 = some false := by kernel_rfl
theorem kt_139 : kT Tryd.prog 139 = 3 := by kernel_rfl
theorem sz_139 : szOf Tryd.prog 139 = some 1 := by kernel_rfl
theorem row_139 : rowOf Tryd.prog 139 = some false := by kernel_rfl
theorem kt_140 : kT Tryd.prog 140 = 3 := by kernel_rfl
theorem sz_140 : szOf Tryd.prog 140 = some 1 := by kernel_rfl
theorem row_140 : rowOf Tryd.prog 140 = some false := by kernel_rfl
theorem sz_141 : szOf Tryd.prog 141 = some 1 := by kernel_rfl
theorem row_141 : rowOf Tryd.prog 141 = some false := by kernel_rfl
theorem zero_141 : zeroOf Tryd.prog 141 = some [.pointer none] := by kernel_rfl
theorem by_141 : bytesOf' Tryd.prog 141 = some 8 := by kernel_rfl
theorem str_141 : isStr Tryd.prog 141 = false := by kernel_rfl
theorem cc_141 : isConc Tryd.prog 141 = true := by kernel_rfl
theorem und_141 : Tryd.prog.underlying 141 = some (.pointer 9) := by kernel_rfl
theorem kt_141 : kT Tryd.prog 141 = 2 := by kernel_rfl
theorem kt_142 : kT Tryd.prog 142 = 3 := by kernel_rfl
theorem sz_142 : szOf Tryd.prog 142 = some 1 := by kernel_rfl
theorem row_142 : rowOf Tryd.prog 142 = some false := by kernel_rfl
theorem sz_143 : szOf Tryd.prog 143 = some 20 := by kernel_rfl
theorem row_143 : rowOf Tryd.prog 143 = some true := by kernel_rfl
theorem zero_143 : zeroOf Tryd.prog 143 = some [.int .u64 0, .int .u64 0, .int .u64 0, .int .u64 0, .int .u64 0, .int .u64 0, .int .u64 0, .int .u64 0, .int .u64 0, .int .u64 0, .int .u64 0, .int .u64 0, .int .u64 0, .int .u64 0, .int .u64 0, .int .u64 0, .int .u64 0, .int .u64 0, .int .u64 0, .int .u64 0] := by kernel_rfl
theorem by_143 : bytesOf' Tryd.prog 143 = some 160 := by kernel_rfl
theorem str_143 : isStr Tryd.prog 143 = false := by kernel_rfl
theorem cc_143 : isConc Tryd.prog 143 = true := by kernel_rfl
theorem und_143 : Tryd.prog.underlying 143 = some (.array 20 28) := by kernel_rfl
theorem kt_143 : kT Tryd.prog 143 = 0 := by kernel_rfl
theorem asz_143 : arrSz Tryd.prog 143 = some 1 := by kernel_rfl
theorem pl_143 : placesOf Tryd.prog 143 = none := by kernel_rfl
theorem arr_143 : arrOf Tryd.prog 143 = some (20, 1) := by kernel_rfl
theorem sz_144 : szOf Tryd.prog 144 = some 1 := by kernel_rfl
theorem row_144 : rowOf Tryd.prog 144 = some false := by kernel_rfl
theorem zero_144 : zeroOf Tryd.prog 144 = some [.int .u32 0] := by kernel_rfl
theorem by_144 : bytesOf' Tryd.prog 144 = some 4 := by kernel_rfl
theorem str_144 : isStr Tryd.prog 144 = false := by kernel_rfl
theorem kind_144 : kindOf' Tryd.prog 144 = some .u32 := by kernel_rfl
theorem cc_144 : isConc Tryd.prog 144 = true := by kernel_rfl
theorem kt_144 : kT Tryd.prog 144 = 0 := by kernel_rfl
theorem sz_145 : szOf Tryd.prog 145 = some 65 := by kernel_rfl
theorem row_145 : rowOf Tryd.prog 145 = some true := by kernel_rfl
theorem by_145 : bytesOf' Tryd.prog 145 = some 65 := by kernel_rfl
theorem str_145 : isStr Tryd.prog 145 = false := by kernel_rfl
theorem cc_145 : isConc Tryd.prog 145 = true := by kernel_rfl
theorem und_145 : Tryd.prog.underlying 145 = some (.array 65 5) := by kernel_rfl
theorem kt_145 : kT Tryd.prog 145 = 0 := by kernel_rfl
theorem asz_145 : arrSz Tryd.prog 145 = some 1 := by kernel_rfl
theorem pl_145 : placesOf Tryd.prog 145 = none := by kernel_rfl
theorem arr_145 : arrOf Tryd.prog 145 = some (65, 1) := by kernel_rfl
theorem kt_146 : kT Tryd.prog 146 = 3 := by kernel_rfl
theorem sz_146 : szOf Tryd.prog 146 = some 1 := by kernel_rfl
theorem row_146 : rowOf Tryd.prog 146 = some false := by kernel_rfl
theorem kt_147 : kT Tryd.prog 147 = 3 := by kernel_rfl
theorem sz_147 : szOf Tryd.prog 147 = some 1 := by kernel_rfl
theorem row_147 : rowOf Tryd.prog 147 = some false := by kernel_rfl
theorem kt_148 : kT Tryd.prog 148 = 3 := by kernel_rfl
theorem sz_148 : szOf Tryd.prog 148 = some 1 := by kernel_rfl
theorem row_148 : rowOf Tryd.prog 148 = some false := by kernel_rfl
theorem kt_150 : kT Tryd.prog 150 = 3 := by kernel_rfl
theorem sz_150 : szOf Tryd.prog 150 = some 1 := by kernel_rfl
theorem row_150 : rowOf Tryd.prog 150 = some false := by kernel_rfl
theorem kt_151 : kT Tryd.prog 151 = 3 := by kernel_rfl
theorem sz_151 : szOf Tryd.prog 151 = some 1 := by kernel_rfl
theorem row_151 : rowOf Tryd.prog 151 = some false := by kernel_rfl
theorem kt_152 : kT Tryd.prog 152 = 3 := by kernel_rfl
theorem sz_152 : szOf Tryd.prog 152 = some 1 := by kernel_rfl
theorem row_152 : rowOf Tryd.prog 152 = some false := by kernel_rfl
theorem sz_153 : szOf Tryd.prog 153 = some 32 := by kernel_rfl
theorem row_153 : rowOf Tryd.prog 153 = some true := by kernel_rfl
theorem zero_153 : zeroOf Tryd.prog 153 = some [.int .u8 0, .int .u8 0, .int .u8 0, .int .u8 0, .int .u8 0, .int .u8 0, .int .u8 0, .int .u8 0, .int .u8 0, .int .u8 0, .int .u8 0, .int .u8 0, .int .u8 0, .int .u8 0, .int .u8 0, .int .u8 0, .int .u8 0, .int .u8 0, .int .u8 0, .int .u8 0, .int .u8 0, .int .u8 0, .int .u8 0, .int .u8 0, .int .u8 0, .int .u8 0, .int .u8 0, .int .u8 0, .int .u8 0, .int .u8 0, .int .u8 0, .int .u8 0] := by kernel_rfl
theorem by_153 : bytesOf' Tryd.prog 153 = some 32 := by kernel_rfl
theorem str_153 : isStr Tryd.prog 153 = false := by kernel_rfl
theorem cc_153 : isConc Tryd.prog 153 = true := by kernel_rfl
theorem und_153 : Tryd.prog.underlying 153 = some (.array 32 5) := by kernel_rfl
theorem kt_153 : kT Tryd.prog 153 = 0 := by kernel_rfl
theorem asz_153 : arrSz Tryd.prog 153 = some 1 := by kernel_rfl
theorem pl_153 : placesOf Tryd.prog 153 = none := by kernel_rfl
theorem arr_153 : arrOf Tryd.prog 153 = some (32, 1) := by kernel_rfl
theorem sz_154 : szOf Tryd.prog 154 = some 64 := by kernel_rfl
theorem row_154 : rowOf Tryd.prog 154 = some true := by kernel_rfl
theorem by_154 : bytesOf' Tryd.prog 154 = some 64 := by kernel_rfl
theorem str_154 : isStr Tryd.prog 154 = false := by kernel_rfl
theorem cc_154 : isConc Tryd.prog 154 = true := by kernel_rfl
theorem und_154 : Tryd.prog.underlying 154 = some (.array 64 5) := by kernel_rfl
theorem kt_154 : kT Tryd.prog 154 = 0 := by kernel_rfl
theorem asz_154 : arrSz Tryd.prog 154 = some 1 := by kernel_rfl
theorem pl_154 : placesOf Tryd.prog 154 = none := by kernel_rfl
theorem arr_154 : arrOf Tryd.prog 154 = some (64, 1) := by kernel_rfl
theorem sz_156 : szOf Tryd.prog 156 = some 1 := by kernel_rfl
theorem row_156 : rowOf Tryd.prog 156 = some false := by kernel_rfl
theorem zero_156 : zeroOf Tryd.prog 156 = some [.pointer none] := by kernel_rfl
theorem by_156 : bytesOf' Tryd.prog 156 = some 8 := by kernel_rfl
theorem str_156 : isStr Tryd.prog 156 = false := by kernel_rfl
theorem cc_156 : isConc Tryd.prog 156 = true := by kernel_rfl
theorem und_156 : Tryd.prog.underlying 156 = some (.pointer 160) := by kernel_rfl
theorem kt_156 : kT Tryd.prog 156 = 2 := by kernel_rfl
theorem kt_157 : kT Tryd.prog 157 = 3 := by kernel_rfl
theorem sz_157 : szOf Tryd.prog 157 = some 1 := by kernel_rfl
theorem row_157 : rowOf Tryd.prog 157 = some false := by kernel_rfl
theorem kt_158 : kT Tryd.prog 158 = 3 := by kernel_rfl
theorem sz_158 : szOf Tryd.prog 158 = some 1 := by kernel_rfl
theorem row_158 : rowOf Tryd.prog 158 = some false := by kernel_rfl
theorem sz_159 : szOf Tryd.prog 159 = some 3 := by kernel_rfl
theorem row_159 : rowOf Tryd.prog 159 = some true := by kernel_rfl
theorem zero_159 : zeroOf Tryd.prog 159 = some [.string ⟨#[]⟩, .string ⟨#[]⟩, .nilIface] := by kernel_rfl
theorem by_159 : bytesOf' Tryd.prog 159 = some 48 := by kernel_rfl
theorem str_159 : isStr Tryd.prog 159 = false := by kernel_rfl
theorem cc_159 : isConc Tryd.prog 159 = true := by kernel_rfl
theorem kt_159 : kT Tryd.prog 159 = 0 := by kernel_rfl
theorem pl_159 : placesOf Tryd.prog 159 = some [(0, 1), (1, 1), (2, 1)] := by kernel_rfl
theorem off_159_0 : offOf Tryd.prog 159 0 = some 0 := by kernel_rfl
theorem fld_159_0 : fldOf Tryd.prog 159 0 = some (0, 1, false) := by kernel_rfl
theorem off_159_1 : offOf Tryd.prog 159 1 = some 1 := by kernel_rfl
theorem fld_159_1 : fldOf Tryd.prog 159 1 = some (1, 1, false) := by kernel_rfl
theorem off_159_2 : offOf Tryd.prog 159 2 = some 2 := by kernel_rfl
theorem fld_159_2 : fldOf Tryd.prog 159 2 = some (2, 1, false) := by kernel_rfl
theorem kt_161 : kT Tryd.prog 161 = 3 := by kernel_rfl
theorem sz_161 : szOf Tryd.prog 161 = some 1 := by kernel_rfl
theorem row_161 : rowOf Tryd.prog 161 = some false := by kernel_rfl
theorem kt_162 : kT Tryd.prog 162 = 3 := by kernel_rfl
theorem sz_162 : szOf Tryd.prog 162 = some 1 := by kernel_rfl
theorem row_162 : rowOf Tryd.prog 162 = some false := by kernel_rfl
theorem sz_163 : szOf Tryd.prog 163 = some 1 := by kernel_rfl
theorem row_163 : rowOf Tryd.prog 163 = some false := by kernel_rfl
theorem zero_163 : zeroOf Tryd.prog 163 = some [.pointer none] := by kernel_rfl
theorem by_163 : bytesOf' Tryd.prog 163 = some 8 := by kernel_rfl
theorem str_163 : isStr Tryd.prog 163 = false := by kernel_rfl
theorem cc_163 : isConc Tryd.prog 163 = true := by kernel_rfl
theorem und_163 : Tryd.prog.underlying 163 = some (.pointer 165) := by kernel_rfl
theorem kt_163 : kT Tryd.prog 163 = 2 := by kernel_rfl
theorem sz_164 : szOf Tryd.prog 164 = some 1 := by kernel_rfl
theorem row_164 : rowOf Tryd.prog 164 = some true := by kernel_rfl
theorem zero_164 : zeroOf Tryd.prog 164 = some [.string ⟨#[]⟩] := by kernel_rfl
theorem by_164 : bytesOf' Tryd.prog 164 = some 16 := by kernel_rfl
theorem str_164 : isStr Tryd.prog 164 = false := by kernel_rfl
theorem cc_164 : isConc Tryd.prog 164 = true := by kernel_rfl
theorem kt_164 : kT Tryd.prog 164 = 0 := by kernel_rfl
theorem pl_164 : placesOf Tryd.prog 164 = some [(0, 1)] := by kernel_rfl
theorem off_164_0 : offOf Tryd.prog 164 0 = some 0 := by kernel_rfl
theorem fld_164_0 : fldOf Tryd.prog 164 0 = some (0, 1, false) := by kernel_rfl
theorem kt_166 : kT Tryd.prog 166 = 3 := by kernel_rfl
theorem sz_166 : szOf Tryd.prog 166 = some 1 := by kernel_rfl
theorem row_166 : rowOf Tryd.prog 166 = some false := by kernel_rfl
theorem sz_167 : szOf Tryd.prog 167 = some 4 := by kernel_rfl
theorem row_167 : rowOf Tryd.prog 167 = some true := by kernel_rfl
theorem zero_167 : zeroOf Tryd.prog 167 = some [.pointer none, .pointer none, .pointer none, .string ⟨#[]⟩] := by kernel_rfl
theorem by_167 : bytesOf' Tryd.prog 167 = some 40 := by kernel_rfl
theorem str_167 : isStr Tryd.prog 167 = false := by kernel_rfl
theorem cc_167 : isConc Tryd.prog 167 = true := by kernel_rfl
theorem kt_167 : kT Tryd.prog 167 = 0 := by kernel_rfl
theorem pl_167 : placesOf Tryd.prog 167 = some [(0, 1), (1, 1), (2, 1), (3, 1)] := by kernel_rfl
theorem off_167_0 : offOf Tryd.prog 167 0 = some 0 := by kernel_rfl
theorem fld_167_0 : fldOf Tryd.prog 167 0 = some (0, 1, false) := by kernel_rfl
theorem off_167_1 : offOf Tryd.prog 167 1 = some 1 := by kernel_rfl
theorem fld_167_1 : fldOf Tryd.prog 167 1 = some (1, 1, false) := by kernel_rfl
theorem off_167_2 : offOf Tryd.prog 167 2 = some 2 := by kernel_rfl
theorem fld_167_2 : fldOf Tryd.prog 167 2 = some (2, 1, false) := by kernel_rfl
theorem off_167_3 : offOf Tryd.prog 167 3 = some 3 := by kernel_rfl
theorem fld_167_3 : fldOf Tryd.prog 167 3 = some (3, 1, false) := by kernel_rfl
theorem sz_169 : szOf Tryd.prog 169 = some 0 := by kernel_rfl
theorem row_169 : rowOf Tryd.prog 169 = some true := by kernel_rfl
theorem by_169 : bytesOf' Tryd.prog 169 = some 0 := by kernel_rfl
theorem str_169 : isStr Tryd.prog 169 = false := by kernel_rfl
theorem cc_169 : isConc Tryd.prog 169 = true := by kernel_rfl
theorem und_169 : Tryd.prog.underlying 169 = some (.array 0 16) := by kernel_rfl
theorem kt_169 : kT Tryd.prog 169 = 0 := by kernel_rfl
theorem asz_169 : arrSz Tryd.prog 169 = some 1 := by kernel_rfl
theorem pl_169 : placesOf Tryd.prog 169 = none := by kernel_rfl
theorem sz_170 : szOf Tryd.prog 170 = some 0 := by kernel_rfl
theorem row_170 : rowOf Tryd.prog 170 = some true := by kernel_rfl
theorem by_170 : bytesOf' Tryd.prog 170 = some 0 := by kernel_rfl
theorem str_170 : isStr Tryd.prog 170 = false := by kernel_rfl
theorem cc_170 : isConc Tryd.prog 170 = true := by kernel_rfl
theorem kt_170 : kT Tryd.prog 170 = 0 := by kernel_rfl
theorem pl_170 : placesOf Tryd.prog 170 = some [(0, 0)] := by kernel_rfl
theorem kt_174 : kT Tryd.prog 174 = 3 := by kernel_rfl
theorem sz_174 : szOf Tryd.prog 174 = some 1 := by kernel_rfl
theorem row_174 : rowOf Tryd.prog 174 = some false := by kernel_rfl
theorem sz_177 : szOf Tryd.prog 177 = some 11 := by kernel_rfl
theorem row_177 : rowOf Tryd.prog 177 = some true := by kernel_rfl
theorem zero_177 : zeroOf Tryd.prog 177 = some [.int .u64 0, .int .u64 0, .int .u32 0, .int .u8 0, .int .u8 0, .int .u8 0, .int .u8 0, .nilFunc, .pointer none, .int .i32 0, .int .i32 0] := by kernel_rfl
theorem by_177 : bytesOf' Tryd.prog 177 = some 48 := by kernel_rfl
theorem str_177 : isStr Tryd.prog 177 = false := by kernel_rfl
theorem cc_177 : isConc Tryd.prog 177 = true := by kernel_rfl
theorem kt_177 : kT Tryd.prog 177 = 0 := by kernel_rfl
theorem pl_177 : placesOf Tryd.prog 177 = some [(0, 1), (1, 1), (2, 1), (3, 1), (4, 1), (5, 1), (6, 1), (7, 1), (8, 1), (9, 1), (10, 1)] := by kernel_rfl
theorem off_177_0 : offOf Tryd.prog 177 0 = some 0 := by kernel_rfl
theorem fld_177_0 : fldOf Tryd.prog 177 0 = some (0, 1, false) := by kernel_rfl
theorem off_177_1 : offOf Tryd.prog 177 1 = some 1 := by kernel_rfl
theorem fld_177_1 : fldOf Tryd.prog 177 1 = some (1, 1, false) := by kernel_rfl
theorem off_177_2 : offOf Tryd.prog 177 2 = some 2 := by kernel_rfl
theorem fld_177_2 : fldOf Tryd.prog 177 2 = some (2, 1, false) := by kernel_rfl
theorem off_177_3 : offOf Tryd.prog 177 3 = some 3 := by kernel_rfl
theorem fld_177_3 : fldOf Tryd.prog 177 3 = some (3, 1, false) := by kernel_rfl
theorem off_177_4 : offOf Tryd.prog 177 4 = some 4 := by kernel_rfl
theorem fld_177_4 : fldOf Tryd.prog 177 4 = some (4, 1, false) := by kernel_rfl
theorem off_177_5 : offOf Tryd.prog 177 5 = some 5 := by kernel_rfl
theorem fld_177_5 : fldOf Tryd.prog 177 5 = some (5, 1, false) := by kernel_rfl
theorem off_177_6 : offOf Tryd.prog 177 6 = some 6 := by kernel_rfl
theorem fld_177_6 : fldOf Tryd.prog 177 6 = some (6, 1, false) := by kernel_rfl
theorem off_177_7 : offOf Tryd.prog 177 7 = some 7 := by kernel_rfl
theorem fld_177_7 : fldOf Tryd.prog 177 7 = some (7, 1, false) := by kernel_rfl
theorem off_177_8 : offOf Tryd.prog 177 8 = some 8 := by kernel_rfl
theorem fld_177_8 : fldOf Tryd.prog 177 8 = some (8, 1, false) := by kernel_rfl
theorem off_177_9 : offOf Tryd.prog 177 9 = some 9 := by kernel_rfl
theorem fld_177_9 : fldOf Tryd.prog 177 9 = some (9, 1, false) := by kernel_rfl
theorem off_177_10 : offOf Tryd.prog 177 10 = some 10 := by kernel_rfl
theorem fld_177_10 : fldOf Tryd.prog 177 10 = some (10, 1, false) := by kernel_rfl
end Go.Proofs.YtcdbldakjepjiaaDoor
