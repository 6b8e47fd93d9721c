/- What the program's table of types says, a fact each. Printed by a program of the prover's. -/
import Derived.Test.YthhlghoeapjagaaChecked
import Derived.Test.YthhlghoeapjagaaU7
set_option linter.unusedVariables false
set_option linter.unusedSimpArgs false
namespace Go.Proofs.Ythhlghoeapjagaa
theorem kt_1 : kT Try.prog 1 = 3 := by kernel_rfl
theorem sz_1 : szOf Try.prog 1 = some 1 := by kernel_rfl
theorem row_1 : rowOf Try.prog 1 = some false := by kernel_rfl
theorem sz_2 : szOf Try.prog 2 = some 1 := by kernel_rfl
theorem row_2 : rowOf Try.prog 2 = some false := by kernel_rfl
theorem zero_2 : zeroOf Try.prog 2 = some [.int .i64 0] := by kernel_rfl
theorem by_2 : bytesOf' Try.prog 2 = some 8 := by kernel_rfl
theorem str_2 : isStr Try.prog 2 = false := by kernel_rfl
theorem kind_2 : kindOf' Try.prog 2 = some .i64 := by kernel_rfl
theorem cc_2 : isConc Try.prog 2 = true := by kernel_rfl
theorem kt_2 : kT Try.prog 2 = 0 := by kernel_rfl
theorem sz_3 : szOf Try.prog 3 = some 1 := by kernel_rfl
theorem row_3 : rowOf Try.prog 3 = some false := by kernel_rfl
theorem zero_3 : zeroOf Try.prog 3 = some [.int .i64 0] := by kernel_rfl
theorem by_3 : bytesOf' Try.prog 3 = some 8 := by kernel_rfl
theorem str_3 : isStr Try.prog 3 = false := by kernel_rfl
theorem kind_3 : kindOf' Try.prog 3 = some .i64 := by kernel_rfl
theorem cc_3 : isConc Try.prog 3 = true := by kernel_rfl
theorem kt_3 : kT Try.prog 3 = 0 := by kernel_rfl
theorem sz_4 : szOf Try.prog 4 = some 1 := by kernel_rfl
theorem row_4 : rowOf Try.prog 4 = some false := by kernel_rfl
theorem zero_4 : zeroOf Try.prog 4 = some [.bool false] := by kernel_rfl
theorem by_4 : bytesOf' Try.prog 4 = some 1 := by kernel_rfl
theorem str_4 : isStr Try.prog 4 = false := by kernel_rfl
theorem cc_4 : isConc Try.prog 4 = true := by kernel_rfl
theorem kt_4 : kT Try.prog 4 = 0 := by kernel_rfl
theorem sz_5 : szOf Try.prog 5 = some 1 := by kernel_rfl
theorem row_5 : rowOf Try.prog 5 = some false := by kernel_rfl
theorem zero_5 : zeroOf Try.prog 5 = some [.int .u8 0] := by kernel_rfl
theorem by_5 : bytesOf' Try.prog 5 = some 1 := by kernel_rfl
theorem str_5 : isStr Try.prog 5 = false := by kernel_rfl
theorem kind_5 : kindOf' Try.prog 5 = some .u8 := by kernel_rfl
theorem cc_5 : isConc Try.prog 5 = true := by kernel_rfl
theorem kt_5 : kT Try.prog 5 = 0 := by kernel_rfl
theorem sz_7 : szOf Try.prog 7 = some 4 := by kernel_rfl
theorem row_7 : rowOf Try.prog 7 = some true := by kernel_rfl
theorem zero_7 : zeroOf Try.prog 7 = some [.int .i64 0, .int .i64 0, .bool false, .int .u8 0] := by kernel_rfl
theorem by_7 : bytesOf' Try.prog 7 = some 24 := by kernel_rfl
theorem str_7 : isStr Try.prog 7 = false := by kernel_rfl
theorem cc_7 : isConc Try.prog 7 = true := by kernel_rfl
theorem kt_7 : kT Try.prog 7 = 0 := by kernel_rfl
theorem pl_7 : placesOf Try.prog 7 = some [(0, 1), (1, 1), (2, 1), (3, 1)] := by kernel_rfl
theorem off_7_0 : offOf Try.prog 7 0 = some 0 := by kernel_rfl
theorem fld_7_0 : fldOf Try.prog 7 0 = some (0, 1, false) := by kernel_rfl
theorem off_7_1 : offOf Try.prog 7 1 = some 1 := by kernel_rfl
theorem fld_7_1 : fldOf Try.prog 7 1 = some (1, 1, false) := by kernel_rfl
theorem off_7_2 : offOf Try.prog 7 2 = some 2 := by kernel_rfl
theorem fld_7_2 : fldOf Try.prog 7 2 = some (2, 1, false) := by kernel_rfl
theorem off_7_3 : offOf Try.prog 7 3 = some 3 := by kernel_rfl
theorem fld_7_3 : fldOf Try.prog 7 3 = some (3, 1, false) := by kernel_rfl
theorem sz_9 : szOf Try.prog 9 = some 1 := by kernel_rfl
theorem row_9 : rowOf Try.prog 9 = some false := by kernel_rfl
theorem zero_9 : zeroOf Try.prog 9 = some [.string ⟨#[]⟩] := by kernel_rfl
theorem by_9 : bytesOf' Try.prog 9 = some 16 := by kernel_rfl
theorem str_9 : isStr Try.prog 9 = true := by kernel_rfl
theorem bs_9 : isBytes Try.prog 9 = false := by kernel_rfl
theorem cc_9 : isConc Try.prog 9 = true := by kernel_rfl
theorem kt_9 : kT Try.prog 9 = 0 := by kernel_rfl
theorem sz_12 : szOf Try.prog 12 = some 1 := by kernel_rfl
theorem row_12 : rowOf Try.prog 12 = some false := by kernel_rfl
theorem zero_12 : zeroOf Try.prog 12 = some [.int .u64 0] := by kernel_rfl
theorem by_12 : bytesOf' Try.prog 12 = some 8 := by kernel_rfl
theorem str_12 : isStr Try.prog 12 = false := by kernel_rfl
theorem kind_12 : kindOf' Try.prog 12 = some .u64 := by kernel_rfl
theorem cc_12 : isConc Try.prog 12 = true := by kernel_rfl
theorem kt_12 : kT Try.prog 12 = 0 := by kernel_rfl
theorem sz_13 : szOf Try.prog 13 = some 2 := by kernel_rfl
theorem row_13 : rowOf Try.prog 13 = some true := by kernel_rfl
theorem zero_13 : zeroOf Try.prog 13 = some [.string ⟨#[]⟩, .int .u64 0] := by kernel_rfl
theorem by_13 : bytesOf' Try.prog 13 = some 24 := by kernel_rfl
theorem str_13 : isStr Try.prog 13 = false := by kernel_rfl
theorem cc_13 : isConc Try.prog 13 = true := by kernel_rfl
theorem kt_13 : kT Try.prog 13 = 0 := by kernel_rfl
theorem pl_13 : placesOf Try.prog 13 = some [(0, 1), (1, 1)] := by kernel_rfl
theorem off_13_0 : offOf Try.prog 13 0 = some 0 := by kernel_rfl
theorem fld_13_0 : fldOf Try.prog 13 0 = some (0, 1, false) := by kernel_rfl
theorem off_13_1 : offOf Try.prog 13 1 = some 1 := by kernel_rfl
theorem fld_13_1 : fldOf Try.prog 13 1 = some (1, 1, false) := by kernel_rfl
theorem sz_15 : szOf Try.prog 15 = some 1 := by kernel_rfl
theorem row_15 : rowOf Try.prog 15 = some false := by kernel_rfl
theorem zero_15 : zeroOf Try.prog 15 = some [.pointer none] := by kernel_rfl
theorem by_15 : bytesOf' Try.prog 15 = some 8 := by kernel_rfl
theorem str_15 : isStr Try.prog 15 = false := by kernel_rfl
theorem cc_15 : isConc Try.prog 15 = true := by kernel_rfl
theorem und_15 : Try.prog.underlying 15 = some (.pointer 104) := by kernel_rfl
theorem kt_15 : kT Try.prog 15 = 2 := by kernel_rfl
theorem sz_16 : szOf Try.prog 16 = some 1 := by kernel_rfl
theorem row_16 : rowOf Try.prog 16 = some false := by kernel_rfl
theorem zero_16 : zeroOf Try.prog 16 = some [.pointer none] := by kernel_rfl
theorem by_16 : bytesOf' Try.prog 16 = some 8 := by kernel_rfl
theorem str_16 : isStr Try.prog 16 = false := by kernel_rfl
theorem cc_16 : isConc Try.prog 16 = true := by kernel_rfl
theorem und_16 : Try.prog.underlying 16 = some (.pointer 107) := by kernel_rfl
theorem kt_16 : kT Try.prog 16 = 2 := by kernel_rfl
theorem sz_17 : szOf Try.prog 17 = some 1 := by kernel_rfl
theorem row_17 : rowOf Try.prog 17 = some false := by kernel_rfl
theorem zero_17 : zeroOf Try.prog 17 = some [.pointer none] := by kernel_rfl
theorem by_17 : bytesOf' Try.prog 17 = some 8 := by kernel_rfl
theorem str_17 : isStr Try.prog 17 = false := by kernel_rfl
theorem cc_17 : isConc Try.prog 17 = true := by kernel_rfl
theorem und_17 : Try.prog.underlying 17 = some (.pointer 117) := by kernel_rfl
theorem kt_17 : kT Try.prog 17 = 2 := by kernel_rfl
theorem sz_18 : szOf Try.prog 18 = some 1 := by kernel_rfl
theorem row_18 : rowOf Try.prog 18 = some true := by kernel_rfl
theorem zero_18 : zeroOf Try.prog 18 = some [.pointer none] := by kernel_rfl
theorem by_18 : bytesOf' Try.prog 18 = some 8 := by kernel_rfl
theorem str_18 : isStr Try.prog 18 = false := by kernel_rfl
theorem cc_18 : isConc Try.prog 18 = true := by kernel_rfl
theorem kt_18 : kT Try.prog 18 = 0 := by kernel_rfl
theorem pl_18 : placesOf Try.prog 18 = some [(0, 1)] := by kernel_rfl
theorem off_18_0 : offOf Try.prog 18 0 = some 0 := by kernel_rfl
theorem fld_18_0 : fldOf Try.prog 18 0 = some (0, 1, false) := by kernel_rfl
theorem sz_20 : szOf Try.prog 20 = some 1 := by kernel_rfl
theorem row_20 : rowOf Try.prog 20 = some false := by kernel_rfl
theorem zero_20 : zeroOf Try.prog 20 = some [.nilIface] := by kernel_rfl
theorem by_20 : bytesOf' Try.prog 20 = some 16 := by kernel_rfl
theorem str_20 : isStr Try.prog 20 = false := by kernel_rfl
theorem cc_20 : isConc Try.prog 20 = false := by kernel_rfl
theorem kt_20 : kT Try.prog 20 = 4 := by kernel_rfl
theorem sz_21 : szOf Try.prog 21 = some 1 := by kernel_rfl
theorem row_21 : rowOf Try.prog 21 = some false := by kernel_rfl
theorem zero_21 : zeroOf Try.prog 21 = some [.int .i32 0] := by kernel_rfl
theorem by_21 : bytesOf' Try.prog 21 = some 4 := by kernel_rfl
theorem str_21 : isStr Try.prog 21 = false := by kernel_rfl
theorem kind_21 : kindOf' Try.prog 21 = some .i32 := by kernel_rfl
theorem cc_21 : isConc Try.prog 21 = true := by kernel_rfl
theorem kt_21 : kT Try.prog 21 = 0 := by kernel_rfl
theorem sz_22 : szOf Try.prog 22 = some 3 := by kernel_rfl
theorem row_22 : rowOf Try.prog 22 = some true := by kernel_rfl
theorem zero_22 : zeroOf Try.prog 22 = some [.int .i64 0, .string ⟨#[]⟩, .string ⟨#[]⟩] := by kernel_rfl
theorem by_22 : bytesOf' Try.prog 22 = some 40 := by kernel_rfl
theorem str_22 : isStr Try.prog 22 = false := by kernel_rfl
theorem cc_22 : isConc Try.prog 22 = true := by kernel_rfl
theorem kt_22 : kT Try.prog 22 = 0 := by kernel_rfl
theorem pl_22 : placesOf Try.prog 22 = some [(0, 1), (1, 1), (2, 1)] := by kernel_rfl
theorem off_22_0 : offOf Try.prog 22 0 = some 0 := by kernel_rfl
theorem fld_22_0 : fldOf Try.prog 22 0 = some (0, 1, false) := by kernel_rfl
theorem off_22_1 : offOf Try.prog 22 1 = some 1 := by kernel_rfl
theorem fld_22_1 : fldOf Try.prog 22 1 = some (1, 1, false) := by kernel_rfl
theorem off_22_2 : offOf Try.prog 22 2 = some 2 := by kernel_rfl
theorem fld_22_2 : fldOf Try.prog 22 2 = some (2, 1, false) := by kernel_rfl
theorem sz_23 : szOf Try.prog 23 = some 3 := by kernel_rfl
theorem row_23 : rowOf Try.prog 23 = some true := by kernel_rfl
theorem zero_23 : zeroOf Try.prog 23 = some [.int .i64 0, .string ⟨#[]⟩, .string ⟨#[]⟩] := by kernel_rfl
theorem by_23 : bytesOf' Try.prog 23 = some 40 := by kernel_rfl
theorem str_23 : isStr Try.prog 23 = false := by kernel_rfl
theorem cc_23 : isConc Try.prog 23 = true := by kernel_rfl
theorem kt_23 : kT Try.prog 23 = 0 := by kernel_rfl
theorem pl_23 : placesOf Try.prog 23 = some [(0, 1), (1, 1), (2, 1)] := by kernel_rfl
theorem off_23_0 : offOf Try.prog 23 0 = some 0 := by kernel_rfl
theorem fld_23_0 : fldOf Try.prog 23 0 = some (0, 1, false) := by kernel_rfl
theorem off_23_1 : offOf Try.prog 23 1 = some 1 := by kernel_rfl
theorem fld_23_1 : fldOf Try.prog 23 1 = some (1, 1, false) := by kernel_rfl
theorem off_23_2 : offOf Try.prog 23 2 = some 2 := by kernel_rfl
theorem fld_23_2 : fldOf Try.prog 23 2 = some (2, 1, false) := by kernel_rfl
theorem kt_24 : kT Try.prog 24 = 3 := by kernel_rfl
theorem sz_24 : szOf Try.prog 24 = some 1 := by kernel_rfl
theorem row_24 : rowOf Try.prog 24 = some false := by kernel_rfl
theorem sz_25 : szOf Try.prog 25 = some 1 := by kernel_rfl
theorem row_25 : rowOf Try.prog 25 = some false := by kernel_rfl
theorem zero_25 : zeroOf Try.prog 25 = some [.int .i64 0] := by kernel_rfl
theorem by_25 : bytesOf' Try.prog 25 = some 8 := by kernel_rfl
theorem str_25 : isStr Try.prog 25 = false := by kernel_rfl
theorem kind_25 : kindOf' Try.prog 25 = some .i64 := by kernel_rfl
theorem cc_25 : isConc Try.prog 25 = true := by kernel_rfl
theorem kt_25 : kT Try.prog 25 = 0 := by kernel_rfl
theorem kt_27 : kT Try.prog 27 = 3 := by kernel_rfl
theorem sz_27 : szOf Try.prog 27 = some 1 := by kernel_rfl
theorem row_27 : rowOf Try.prog 27 = some false := by kernel_rfl
theorem kt_29 : kT Try.prog 29 = 3 := by kernel_rfl
theorem sz_29 : szOf Try.prog 29 = some 1 := by kernel_rfl
theorem row_29 : rowOf Try.prog 29 = some false := by kernel_rfl
theorem kt_30 : kT Try.prog 30 = 3 := by kernel_rfl
theorem sz_30 : szOf Try.prog 30 = some 1 := by kernel_rfl
theorem row_30 : rowOf Try.prog 30 = some false := by kernel_rfl
theorem kt_31 : kT Try.prog 31 = 3 := by kernel_rfl
theorem sz_31 : szOf Try.prog 31 = some 1 := by kernel_rfl
theorem row_31 : rowOf Try.prog 31 = some false := by kernel_rfl
theorem kt_32 : kT Try.prog 32 = 3 := by kernel_rfl
theorem sz_32 : szOf Try.prog 32 = some 1 := by kernel_rfl
theorem row_32 : rowOf Try.prog 32 = some false := by kernel_rfl
theorem kt_33 : kT Try.prog 33 = 3 := by kernel_rfl
theorem sz_33 : szOf Try.prog 33 = some 1 := by kernel_rfl
theorem row_33 : rowOf Try.prog 33 = some false := by kernel_rfl
theorem sz_34 : szOf Try.prog 34 = some 1 := by kernel_rfl
theorem row_34 : rowOf Try.prog 34 = some false := by kernel_rfl
theorem zero_34 : zeroOf Try.prog 34 = some [.slice none 0 0] := by kernel_rfl
theorem by_34 : bytesOf' Try.prog 34 = some 24 := by kernel_rfl
theorem el_34 : elOf Try.prog 34 = some 57 := by kernel_rfl
theorem str_34 : isStr Try.prog 34 = false := by kernel_rfl
theorem bs_34 : isBytes Try.prog 34 = false := by kernel_rfl
theorem cc_34 : isConc Try.prog 34 = true := by kernel_rfl
theorem und_34 : Try.prog.underlying 34 = some (.slice 57) := by kernel_rfl
theorem kt_34 : kT Try.prog 34 = 1 := by kernel_rfl
theorem kt_35 : kT Try.prog 35 = 3 := by kernel_rfl
theorem sz_35 : szOf Try.prog 35 = some 1 := by kernel_rfl
theorem row_35 : rowOf Try.prog 35 = some false := by kernel_rfl
theorem kt_36 : kT Try.prog 36 = 3 := by kernel_rfl
theorem sz_36 : szOf Try.prog 36 = some 1 := by kernel_rfl
theorem row_36 : rowOf Try.prog 36 = some false := by kernel_rfl
theorem kt_37 : kT Try.prog 37 = 3 := by kernel_rfl
theorem sz_37 : szOf Try.prog 37 = some 1 := by kernel_rfl
theorem row_37 : rowOf Try.prog 37 = some false := by kernel_rfl
theorem kt_38 : kT Try.prog 38 = 3 := by kernel_rfl
theorem sz_38 : szOf Try.prog 38 = some 1 := by kernel_rfl
theorem row_38 : rowOf Try.prog 38 = some false := by kernel_rfl
theorem kt_39 : kT Try.prog 39 = 3 := by kernel_rfl
theorem sz_39 : szOf Try.prog 39 = some 1 := by kernel_rfl
theorem row_39 : rowOf Try.prog 39 = some false := by kernel_rfl
theorem kt_40 : kT Try.prog 40 = 3 := by kernel_rfl
theorem sz_40 : szOf Try.prog 40 = some 1 := by kernel_rfl
theorem row_40 : rowOf Try.prog 40 = some false := by kernel_rfl
theorem sz_41 : szOf Try.prog 41 = some 1 := by kernel_rfl
theorem row_41 : rowOf Try.prog 41 = some false := by kernel_rfl
theorem zero_41 : zeroOf Try.prog 41 = some [.nilFunc] := by kernel_rfl
theorem by_41 : bytesOf' Try.prog 41 = some 8 := by kernel_rfl
theorem str_41 : isStr Try.prog 41 = false := by kernel_rfl
theorem cc_41 : isConc Try.prog 41 = true := by kernel_rfl
theorem kt_41 : kT Try.prog 41 = 3 := by kernel_rfl
theorem kt_42 : kT Try.prog 42 = 3 := by kernel_rfl
theorem sz_42 : szOf Try.prog 42 = some 1 := by kernel_rfl
theorem row_42 : rowOf Try.prog 42 = some false := by kernel_rfl
theorem kt_43 : kT Try.prog 43 = 3 := by kernel_rfl
theorem sz_43 : szOf Try.prog 43 = some 1 := by kernel_rfl
theorem row_43 : rowOf Try.prog 43 = some false := by kernel_rfl
theorem kt_44 : kT Try.prog 44 = 3 := by kernel_rfl
theorem sz_44 : szOf Try.prog 44 = some 1 := by kernel_rfl
theorem row_44 : rowOf Try.prog 44 = some false := by kernel_rfl
theorem kt_45 : kT Try.prog 45 = 3 := by kernel_rfl
theorem sz_45 : szOf Try.prog 45 = some 1 := by kernel_rfl
theorem row_45 : rowOf Try.prog 45 = some false := by kernel_rfl
theorem sz_46 : szOf Try.prog 46 = some 1 := by kernel_rfl
theorem row_46 : rowOf Try.prog 46 = some false := by kernel_rfl
theorem zero_46 : zeroOf Try.prog 46 = some [.slice none 0 0] := by kernel_rfl
theorem by_46 : bytesOf' Try.prog 46 = some 24 := by kernel_rfl
theorem el_46 : elOf Try.prog 46 = some 9 := by kernel_rfl
theorem str_46 : isStr Try.prog 46 = false := by kernel_rfl
theorem bs_46 : isBytes Try.prog 46 = false := by kernel_rfl
theorem cc_46 : isConc Try.prog 46 = true := by kernel_rfl
theorem und_46 : Try.prog.underlying 46 = some (.slice 9) := by kernel_rfl
theorem kt_46 : kT Try.prog 46 = 1 := by kernel_rfl
theorem kt_47 : kT Try.prog 47 = 3 := by kernel_rfl
theorem sz_47 : szOf Try.prog 47 = some 1 := by kernel_rfl
theorem row_47 : rowOf Try.prog 47 = some false := by kernel_rfl
theorem kt_48 : kT Try.prog 48 = 3 := by kernel_rfl
theorem sz_48 : szOf Try.prog 48 = some 1 := by kernel_rfl
theorem row_48 : rowOf Try.prog 48 = some false := by kernel_rfl
theorem sz_49 : szOf Try.prog 49 = some 1 := by kernel_rfl
theorem row_49 : rowOf Try.prog 49 = some false := by kernel_rfl
theorem zero_49 : zeroOf Try.prog 49 = some [.slice none 0 0] := by kernel_rfl
theorem by_49 : bytesOf' Try.prog 49 = some 24 := by kernel_rfl
theorem el_49 : elOf Try.prog 49 = some 52 := by kernel_rfl
theorem str_49 : isStr Try.prog 49 = false := by kernel_rfl
theorem bs_49 : isBytes Try.prog 49 = false := by kernel_rfl
theorem cc_49 : isConc Try.prog 49 = true := by kernel_rfl
theorem und_49 : Try.prog.underlying 49 = some (.slice 52) := by kernel_rfl
theorem kt_49 : kT Try.prog 49 = 1 := by kernel_rfl
theorem sz_50 : szOf Try.prog 50 = some 1 := by kernel_rfl
theorem row_50 : rowOf Try.prog 50 = some false := by kernel_rfl
theorem zero_50 : zeroOf Try.prog 50 = some [.int .u64 0] := by kernel_rfl
theorem by_50 : bytesOf' Try.prog 50 = some 8 := by kernel_rfl
theorem str_50 : isStr Try.prog 50 = false := by kernel_rfl
theorem kind_50 : kindOf' Try.prog 50 = some .u64 := by kernel_rfl
theorem cc_50 : isConc Try.prog 50 = true := by kernel_rfl
theorem kt_50 : kT Try.prog 50 = 0 := by kernel_rfl
theorem sz_51 : szOf Try.prog 51 = some 4 := by kernel_rfl
theorem row_51 : rowOf Try.prog 51 = some true := by kernel_rfl
theorem zero_51 : zeroOf Try.prog 51 = some [.int .i64 0, .string ⟨#[]⟩, .int .u64 0, .int .i64 0] := by kernel_rfl
theorem by_51 : bytesOf' Try.prog 51 = some 40 := by kernel_rfl
theorem str_51 : isStr Try.prog 51 = false := by kernel_rfl
theorem cc_51 : isConc Try.prog 51 = true := by kernel_rfl
theorem kt_51 : kT Try.prog 51 = 0 := by kernel_rfl
theorem pl_51 : placesOf Try.prog 51 = some [(0, 1), (1, 1), (2, 1), (3, 1)] := by kernel_rfl
theorem off_51_0 : offOf Try.prog 51 0 = some 0 := by kernel_rfl
theorem fld_51_0 : fldOf Try.prog 51 0 = some (0, 1, false) := by kernel_rfl
theorem off_51_1 : offOf Try.prog 51 1 = some 1 := by kernel_rfl
theorem fld_51_1 : fldOf Try.prog 51 1 = some (1, 1, false) := by kernel_rfl
theorem off_51_2 : offOf Try.prog 51 2 = some 2 := by kernel_rfl
theorem fld_51_2 : fldOf Try.prog 51 2 = some (2, 1, false) := by kernel_rfl
theorem off_51_3 : offOf Try.prog 51 3 = some 3 := by kernel_rfl
theorem fld_51_3 : fldOf Try.prog 51 3 = some (3, 1, false) := by kernel_rfl
theorem sz_52 : szOf Try.prog 52 = some 4 := by kernel_rfl
theorem row_52 : rowOf Try.prog 52 = some true := by kernel_rfl
theorem zero_52 : zeroOf Try.prog 52 = some [.int .i64 0, .string ⟨#[]⟩, .int .u64 0, .int .i64 0] := by kernel_rfl
theorem by_52 : bytesOf' Try.prog 52 = some 40 := by kernel_rfl
theorem str_52 : isStr Try.prog 52 = false := by kernel_rfl
theorem cc_52 : isConc Try.prog 52 = true := by kernel_rfl
theorem kt_52 : kT Try.prog 52 = 0 := by kernel_rfl
theorem pl_52 : placesOf Try.prog 52 = some [(0, 1), (1, 1), (2, 1), (3, 1)] := by kernel_rfl
theorem off_52_0 : offOf Try.prog 52 0 = some 0 := by kernel_rfl
theorem fld_52_0 : fldOf Try.prog 52 0 = some (0, 1, false) := by kernel_rfl
theorem off_52_1 : offOf Try.prog 52 1 = some 1 := by kernel_rfl
theorem fld_52_1 : fldOf Try.prog 52 1 = some (1, 1, false) := by kernel_rfl
theorem off_52_2 : offOf Try.prog 52 2 = some 2 := by kernel_rfl
theorem fld_52_2 : fldOf Try.prog 52 2 = some (2, 1, false) := by kernel_rfl
theorem off_52_3 : offOf Try.prog 52 3 = some 3 := by kernel_rfl
theorem fld_52_3 : fldOf Try.prog 52 3 = some (3, 1, false) := by kernel_rfl
theorem kt_54 : kT Try.prog 54 = 3 := by kernel_rfl
theorem sz_54 : szOf Try.prog 54 = some 1 := by kernel_rfl
theorem row_54 : rowOf Try.prog 54 = some false := by kernel_rfl
theorem kt_55 : kT Try.prog 55 = 3 := by kernel_rfl
theorem sz_55 : szOf Try.prog 55 = some 1 := by kernel_rfl
theorem row_55 : rowOf Try.prog 55 = some false := by kernel_rfl
theorem sz_56 : szOf Try.prog 56 = some 3 := by kernel_rfl
theorem row_56 : rowOf Try.prog 56 = some true := by kernel_rfl
theorem zero_56 : zeroOf Try.prog 56 = some [.int .i64 0, .int .i64 0, .string ⟨#[]⟩] := by kernel_rfl
theorem by_56 : bytesOf' Try.prog 56 = some 32 := by kernel_rfl
theorem str_56 : isStr Try.prog 56 = false := by kernel_rfl
theorem cc_56 : isConc Try.prog 56 = true := by kernel_rfl
theorem kt_56 : kT Try.prog 56 = 0 := by kernel_rfl
theorem pl_56 : placesOf Try.prog 56 = some [(0, 1), (1, 1), (2, 1)] := by kernel_rfl
theorem off_56_0 : offOf Try.prog 56 0 = some 0 := by kernel_rfl
theorem fld_56_0 : fldOf Try.prog 56 0 = some (0, 1, false) := by kernel_rfl
theorem off_56_1 : offOf Try.prog 56 1 = some 1 := by kernel_rfl
theorem fld_56_1 : fldOf Try.prog 56 1 = some (1, 1, false) := by kernel_rfl
theorem off_56_2 : offOf Try.prog 56 2 = some 2 := by kernel_rfl
theorem fld_56_2 : fldOf Try.prog 56 2 = some (2, 1, false) := by kernel_rfl
theorem sz_57 : szOf Try.prog 57 = some 3 := by kernel_rfl
theorem row_57 : rowOf Try.prog 57 = some true := by kernel_rfl
theorem zero_57 : zeroOf Try.prog 57 = some [.int .i64 0, .int .i64 0, .string ⟨#[]⟩] := by kernel_rfl
theorem by_57 : bytesOf' Try.prog 57 = some 32 := by kernel_rfl
theorem str_57 : isStr Try.prog 57 = false := by kernel_rfl
theorem cc_57 : isConc Try.prog 57 = true := by kernel_rfl
theorem kt_57 : kT Try.prog 57 = 0 := by kernel_rfl
theorem pl_57 : placesOf Try.prog 57 = some [(0, 1), (1, 1), (2, 1)] := by kernel_rfl
theorem off_57_0 : offOf Try.prog 57 0 = some 0 := by kernel_rfl
theorem fld_57_0 : fldOf Try.prog 57 0 = some (0, 1, false) := by kernel_rfl
theorem off_57_1 : offOf Try.prog 57 1 = some 1 := by kernel_rfl
theorem fld_57_1 : fldOf Try.prog 57 1 = some (1, 1, false) := by kernel_rfl
theorem off_57_2 : offOf Try.prog 57 2 = some 2 := by kernel_rfl
theorem fld_57_2 : fldOf Try.prog 57 2 = some (2, 1, false) := by kernel_rfl
theorem kt_58 : kT Try.prog 58 = 3 := by kernel_rfl
theorem sz_58 : szOf Try.prog 58 = some 1 := by kernel_rfl
theorem row_58 : rowOf Try.prog 58 = some false := by kernel_rfl
theorem sz_59 : szOf Try.prog 59 = some 1 := by kernel_rfl
theorem row_59 : rowOf Try.prog 59 = some false := by kernel_rfl
theorem zero_59 : zeroOf Try.prog 59 = some [.pointer none] := by kernel_rfl
theorem by_59 : bytesOf' Try.prog 59 = some 8 := by kernel_rfl
theorem str_59 : isStr Try.prog 59 = false := by kernel_rfl
theorem cc_59 : isConc Try.prog 59 = true := by kernel_rfl
theorem und_59 : Try.prog.underlying 59 = some (.pointer 9) := by kernel_rfl
theorem kt_59 : kT Try.prog 59 = 2 := by kernel_rfl
theorem kt_61 : kT Try.prog 61 = 3 := by kernel_rfl
theorem sz_61 : szOf Try.prog 61 = some 1 := by kernel_rfl
theorem row_61 : rowOf Try.prog 61 = some false := by kernel_rfl
theorem sz_62 : szOf Try.prog 62 = some 2 := by kernel_rfl
theorem row_62 : rowOf Try.prog 62 = some true := by kernel_rfl
theorem zero_62 : zeroOf Try.prog 62 = some [.string ⟨#[]⟩, .string ⟨#[]⟩] := by kernel_rfl
theorem by_62 : bytesOf' Try.prog 62 = some 32 := by kernel_rfl
theorem str_62 : isStr Try.prog 62 = false := by kernel_rfl
theorem cc_62 : isConc Try.prog 62 = true := by kernel_rfl
theorem und_62 : Try.prog.underlying 62 = some (.array 2 9) := by kernel_rfl
theorem kt_62 : kT Try.prog 62 = 0 := by kernel_rfl
theorem asz_62 : arrSz Try.prog 62 = some 1 := by kernel_rfl
theorem pl_62 : placesOf Try.prog 62 = none := by kernel_rfl
theorem arr_62 : arrOf Try.prog 62 = some (2, 1) := by kernel_rfl
theorem kt_63 : kT Try.prog 63 = 3 := by kernel_rfl
theorem sz_63 : szOf Try.prog 63 = some 1 := by kernel_rfl
theorem row_63 : rowOf Try.prog 63 = some false := by kernel_rfl
theorem kt_64 : kT Try.prog 64 = 3 := by kernel_rfl
theorem sz_64 : szOf Try.prog 64 = some 1 := by kernel_rfl
theorem row_64 : rowOf Try.prog 64 = some false := by kernel_rfl
theorem kt_65 : kT Try.prog 65 = 3 := by kernel_rfl
theorem sz_65 : szOf Try.prog 65 = some 1 := by kernel_rfl
theorem row_65 : rowOf Try.prog 65 = some false := by kernel_rfl
theorem sz_66 : szOf Try.prog 66 = some 1 := by kernel_rfl
theorem row_66 : rowOf Try.prog 66 = some false := by kernel_rfl
theorem zero_66 : zeroOf Try.prog 66 = some [.slice none 0 0] := by kernel_rfl
theorem by_66 : bytesOf' Try.prog 66 = some 24 := by kernel_rfl
theorem el_66 : elOf Try.prog 66 = some 23 := by kernel_rfl
theorem str_66 : isStr Try.prog 66 = false := by kernel_rfl
theorem bs_66 : isBytes Try.prog 66 = false := by kernel_rfl
theorem cc_66 : isConc Try.prog 66 = true := by kernel_rfl
theorem und_66 : Try.prog.underlying 66 = some (.slice 23) := by kernel_rfl
theorem kt_66 : kT Try.prog 66 = 1 := by kernel_rfl
theorem kt_67 : kT Try.prog 67 = 3 := by kernel_rfl
theorem sz_67 : szOf Try.prog 67 = some 1 := by kernel_rfl
theorem row_67 : rowOf Try.prog 67 = some false := by kernel_rfl
theorem kt_68 : kT Try.prog 68 = 3 := by kernel_rfl
theorem sz_68 : szOf Try.prog 68 = some 1 := by kernel_rfl
theorem row_68 : rowOf Try.prog 68 = some false := by kernel_rfl
theorem kt_69 : kT Try.prog 69 = 3 := by kernel_rfl
theorem sz_69 : szOf Try.prog 69 = some 1 := by kernel_rfl
theorem row_69 : rowOf Try.prog 69 = some false := by kernel_rfl
theorem sz_70 : szOf Try.prog 70 = some 1 := by kernel_rfl
theorem row_70 : rowOf Try.prog 70 = some false := by kernel_rfl
theorem zero_70 : zeroOf Try.prog 70 = some [.slice none 0 0] := by kernel_rfl
theorem by_70 : bytesOf' Try.prog 70 = some 24 := by kernel_rfl
theorem el_70 : elOf Try.prog 70 = some 72 := by kernel_rfl
theorem str_70 : isStr Try.prog 70 = false := by kernel_rfl
theorem bs_70 : isBytes Try.prog 70 = false := by kernel_rfl
theorem cc_70 : isConc Try.prog 70 = true := by kernel_rfl
theorem und_70 : Try.prog.underlying 70 = some (.slice 72) := by kernel_rfl
theorem kt_70 : kT Try.prog 70 = 1 := by kernel_rfl
theorem sz_71 : szOf Try.prog 71 = some 2 := by kernel_rfl
theorem row_71 : rowOf Try.prog 71 = some true := by kernel_rfl
theorem zero_71 : zeroOf Try.prog 71 = some [.string ⟨#[]⟩, .int .i64 0] := by kernel_rfl
theorem by_71 : bytesOf' Try.prog 71 = some 24 := by kernel_rfl
theorem str_71 : isStr Try.prog 71 = false := by kernel_rfl
theorem cc_71 : isConc Try.prog 71 = true := by kernel_rfl
theorem kt_71 : kT Try.prog 71 = 0 := by kernel_rfl
theorem pl_71 : placesOf Try.prog 71 = some [(0, 1), (1, 1)] := by kernel_rfl
theorem off_71_0 : offOf Try.prog 71 0 = some 0 := by kernel_rfl
theorem fld_71_0 : fldOf Try.prog 71 0 = some (0, 1, false) := by kernel_rfl
theorem off_71_1 : offOf Try.prog 71 1 = some 1 := by kernel_rfl
theorem fld_71_1 : fldOf Try.prog 71 1 = some (1, 1, false) := by kernel_rfl
theorem sz_72 : szOf Try.prog 72 = some 2 := by kernel_rfl
theorem row_72 : rowOf Try.prog 72 = some true := by kernel_rfl
theorem zero_72 : zeroOf Try.prog 72 = some [.string ⟨#[]⟩, .int .i64 0] := by kernel_rfl
theorem by_72 : bytesOf' Try.prog 72 = some 24 := by kernel_rfl
theorem str_72 : isStr Try.prog 72 = false := by kernel_rfl
theorem cc_72 : isConc Try.prog 72 = true := by kernel_rfl
theorem kt_72 : kT Try.prog 72 = 0 := by kernel_rfl
theorem pl_72 : placesOf Try.prog 72 = some [(0, 1), (1, 1)] := by kernel_rfl
theorem off_72_0 : offOf Try.prog 72 0 = some 0 := by kernel_rfl
theorem fld_72_0 : fldOf Try.prog 72 0 = some (0, 1, false) := by kernel_rfl
theorem off_72_1 : offOf Try.prog 72 1 = some 1 := by kernel_rfl
theorem fld_72_1 : fldOf Try.prog 72 1 = some (1, 1, false) := by kernel_rfl
theorem kt_73 : kT Try.prog 73 = 3 := by kernel_rfl
theorem sz_73 : szOf Try.prog 73 = some 1 := by kernel_rfl
theorem row_73 : rowOf Try.prog 73 = some false := by kernel_rfl
theorem sz_74 : szOf Try.prog 74 = some 1 := by kernel_rfl
theorem row_74 : rowOf Try.prog 74 = some false := by kernel_rfl
theorem zero_74 : zeroOf Try.prog 74 = some [.slice none 0 0] := by kernel_rfl
theorem by_74 : bytesOf' Try.prog 74 = some 24 := by kernel_rfl
theorem el_74 : elOf Try.prog 74 = some 76 := by kernel_rfl
theorem str_74 : isStr Try.prog 74 = false := by kernel_rfl
theorem bs_74 : isBytes Try.prog 74 = false := by kernel_rfl
theorem cc_74 : isConc Try.prog 74 = true := by kernel_rfl
theorem und_74 : Try.prog.underlying 74 = some (.slice 76) := by kernel_rfl
theorem kt_74 : kT Try.prog 74 = 1 := by kernel_rfl
theorem sz_75 : szOf Try.prog 75 = some 2 := by kernel_rfl
theorem row_75 : rowOf Try.prog 75 = some true := by kernel_rfl
theorem zero_75 : zeroOf Try.prog 75 = some [.string ⟨#[]⟩, .int .i64 0] := by kernel_rfl
theorem by_75 : bytesOf' Try.prog 75 = some 24 := by kernel_rfl
theorem str_75 : isStr Try.prog 75 = false := by kernel_rfl
theorem cc_75 : isConc Try.prog 75 = true := by kernel_rfl
theorem kt_75 : kT Try.prog 75 = 0 := by kernel_rfl
theorem pl_75 : placesOf Try.prog 75 = some [(0, 1), (1, 1)] := by kernel_rfl
theorem off_75_0 : offOf Try.prog 75 0 = some 0 := by kernel_rfl
theorem fld_75_0 : fldOf Try.prog 75 0 = some (0, 1, false) := by kernel_rfl
theorem off_75_1 : offOf Try.prog 75 1 = some 1 := by kernel_rfl
theorem fld_75_1 : fldOf Try.prog 75 1 = some (1, 1, false) := by kernel_rfl
theorem sz_76 : szOf Try.prog 76 = some 2 := by kernel_rfl
theorem row_76 : rowOf Try.prog 76 = some true := by kernel_rfl
theorem zero_76 : zeroOf Try.prog 76 = some [.string ⟨#[]⟩, .int .i64 0] := by kernel_rfl
theorem by_76 : bytesOf' Try.prog 76 = some 24 := by kernel_rfl
theorem str_76 : isStr Try.prog 76 = false := by kernel_rfl
theorem cc_76 : isConc Try.prog 76 = true := by kernel_rfl
theorem kt_76 : kT Try.prog 76 = 0 := by kernel_rfl
theorem pl_76 : placesOf Try.prog 76 = some [(0, 1), (1, 1)] := by kernel_rfl
theorem off_76_0 : offOf Try.prog 76 0 = some 0 := by kernel_rfl
theorem fld_76_0 : fldOf Try.prog 76 0 = some (0, 1, false) := by kernel_rfl
theorem off_76_1 : offOf Try.prog 76 1 = some 1 := by kernel_rfl
theorem fld_76_1 : fldOf Try.prog 76 1 = some (1, 1, false) := by kernel_rfl
theorem kt_77 : kT Try.prog 77 = 3 := by kernel_rfl
theorem sz_77 : szOf Try.prog 77 = some 1 := by kernel_rfl
theorem row_77 : rowOf Try.prog 77 = some false := by kernel_rfl
theorem sz_78 : szOf Try.prog 78 = some 1 := by kernel_rfl
theorem row_78 : rowOf Try.prog 78 = some false := by kernel_rfl
theorem zero_78 : zeroOf Try.prog 78 = some [.nilFunc] := by kernel_rfl
theorem by_78 : bytesOf' Try.prog 78 = some 8 := by kernel_rfl
theorem str_78 : isStr Try.prog 78 = false := by kernel_rfl
theorem cc_78 : isConc Try.prog 78 = true := by kernel_rfl
theorem kt_78 : kT Try.prog 78 = 3 := by kernel_rfl
theorem kt_79 : kT Try.prog 79 = 3 := by kernel_rfl
theorem sz_79 : szOf Try.prog 79 = some 1 := by kernel_rfl
theorem row_79 : rowOf Try.prog 79 = some false := by kernel_rfl
theorem kt_80 : kT Try.prog 80 = 3 := by kernel_rfl
theorem sz_80 : szOf Try.prog 80 = some 1 := by kernel_rfl
theorem row_80 : rowOf Try.prog 80 = some false := by kernel_rfl
theorem kt_81 : kT Try.prog 81 = 3 := by kernel_rfl
theorem sz_81 : szOf Try.prog 81 = some 1 := by kernel_rfl
theorem row_81 : rowOf Try.prog 81 = some false := by kernel_rfl
theorem sz_82 : szOf Try.prog 82 = some 1 := by kernel_rfl
theorem row_82 : rowOf Try.prog 82 = some true := by kernel_rfl
theorem zero_82 : zeroOf Try.prog 82 = some [.int .i64 0] := by kernel_rfl
theorem by_82 : bytesOf' Try.prog 82 = some 8 := by kernel_rfl
theorem str_82 : isStr Try.prog 82 = false := by kernel_rfl
theorem cc_82 : isConc Try.prog 82 = true := by kernel_rfl
theorem kt_82 : kT Try.prog 82 = 0 := by kernel_rfl
theorem pl_82 : placesOf Try.prog 82 = some [(0, 1)] := by kernel_rfl
theorem off_82_0 : offOf Try.prog 82 0 = some 0 := by kernel_rfl
theorem fld_82_0 : fldOf Try.prog 82 0 = some (0, 1, false) := by kernel_rfl
theorem sz_83 : szOf Try.prog 83 = some 1 := by kernel_rfl
theorem row_83 : rowOf Try.prog 83 = some true := by kernel_rfl
theorem zero_83 : zeroOf Try.prog 83 = some [.int .i64 0] := by kernel_rfl
theorem by_83 : bytesOf' Try.prog 83 = some 8 := by kernel_rfl
theorem str_83 : isStr Try.prog 83 = false := by kernel_rfl
theorem cc_83 : isConc Try.prog 83 = true := by kernel_rfl
theorem kt_83 : kT Try.prog 83 = 0 := by kernel_rfl
theorem pl_83 : placesOf Try.prog 83 = some [(0, 1)] := by kernel_rfl
theorem off_83_0 : offOf Try.prog 83 0 = some 0 := by kernel_rfl
theorem fld_83_0 : fldOf Try.prog 83 0 = some (0, 1, false) := by kernel_rfl
theorem sz_84 : szOf Try.prog 84 = some 1 := by kernel_rfl
theorem row_84 : rowOf Try.prog 84 = some false := by kernel_rfl
theorem zero_84 : zeroOf Try.prog 84 = some [.pointer none] := by kernel_rfl
theorem by_84 : bytesOf' Try.prog 84 = some 8 := by kernel_rfl
theorem str_84 : isStr Try.prog 84 = false := by kernel_rfl
theorem cc_84 : isConc Try.prog 84 = true := by kernel_rfl
theorem und_84 : Try.prog.underlying 84 = some (.pointer 86) := by kernel_rfl
theorem kt_84 : kT Try.prog 84 = 2 := by kernel_rfl
theorem sz_85 : szOf Try.prog 85 = some 4 := by kernel_rfl
theorem row_85 : rowOf Try.prog 85 = some true := by kernel_rfl
theorem zero_85 : zeroOf Try.prog 85 = some [.slice none 0 0, .int .i64 0, .int .i64 0, .slice none 0 0] := by kernel_rfl
theorem by_85 : bytesOf' Try.prog 85 = some 64 := by kernel_rfl
theorem str_85 : isStr Try.prog 85 = false := by kernel_rfl
theorem cc_85 : isConc Try.prog 85 = true := by kernel_rfl
theorem kt_85 : kT Try.prog 85 = 0 := by kernel_rfl
theorem pl_85 : placesOf Try.prog 85 = some [(0, 1), (1, 1), (2, 1), (3, 1)] := by kernel_rfl
theorem off_85_0 : offOf Try.prog 85 0 = some 0 := by kernel_rfl
theorem fld_85_0 : fldOf Try.prog 85 0 = some (0, 1, false) := by kernel_rfl
theorem off_85_1 : offOf Try.prog 85 1 = some 1 := by kernel_rfl
theorem fld_85_1 : fldOf Try.prog 85 1 = some (1, 1, false) := by kernel_rfl
theorem off_85_2 : offOf Try.prog 85 2 = some 2 := by kernel_rfl
theorem fld_85_2 : fldOf Try.prog 85 2 = some (2, 1, false) := by kernel_rfl
theorem off_85_3 : offOf Try.prog 85 3 = some 3 := by kernel_rfl
theorem fld_85_3 : fldOf Try.prog 85 3 = some (3, 1, false) := by kernel_rfl
theorem sz_86 : szOf Try.prog 86 = some 4 := by kernel_rfl
theorem row_86 : rowOf Try.prog 86 = some true := by kernel_rfl
theorem zero_86 : zeroOf Try.prog 86 = some [.slice none 0 0, .int .i64 0, .int .i64 0, .slice none 0 0] := by kernel_rfl
theorem by_86 : bytesOf' Try.prog 86 = some 64 := by kernel_rfl
theorem str_86 : isStr Try.prog 86 = false := by kernel_rfl
theorem cc_86 : isConc Try.prog 86 = true := by kernel_rfl
theorem kt_86 : kT Try.prog 86 = 0 := by kernel_rfl
theorem pl_86 : placesOf Try.prog 86 = some [(0, 1), (1, 1), (2, 1), (3, 1)] := by kernel_rfl
theorem off_86_0 : offOf Try.prog 86 0 = some 0 := by kernel_rfl
theorem fld_86_0 : fldOf Try.prog 86 0 = some (0, 1, false) := by kernel_rfl
theorem off_86_1 : offOf Try.prog 86 1 = some 1 := by kernel_rfl
theorem fld_86_1 : fldOf Try.prog 86 1 = some (1, 1, false) := by kernel_rfl
theorem off_86_2 : offOf Try.prog 86 2 = some 2 := by kernel_rfl
theorem fld_86_2 : fldOf Try.prog 86 2 = some (2, 1, false) := by kernel_rfl
theorem off_86_3 : offOf Try.prog 86 3 = some 3 := by kernel_rfl
theorem fld_86_3 : fldOf Try.prog 86 3 = some (3, 1, false) := by kernel_rfl
theorem sz_87 : szOf Try.prog 87 = some 20 := by kernel_rfl
theorem row_87 : rowOf Try.prog 87 = some true := by kernel_rfl
theorem zero_87 : zeroOf Try.prog 87 = some [.int .u8 0, .int .u8 0, .int .u8 0, .int .u8 0, .int .u8 0, .int .u8 0, .int .u8 0, .int .u8 0, .int .u8 0, .int .u8 0, .int .u8 0, .int .u8 0, .int .u8 0, .int .u8 0, .int .u8 0, .int .u8 0, .int .u8 0, .int .u8 0, .int .u8 0, .int .u8 0] := by kernel_rfl
theorem by_87 : bytesOf' Try.prog 87 = some 20 := by kernel_rfl
theorem str_87 : isStr Try.prog 87 = false := by kernel_rfl
theorem cc_87 : isConc Try.prog 87 = true := by kernel_rfl
theorem und_87 : Try.prog.underlying 87 = some (.array 20 5) := by kernel_rfl
theorem kt_87 : kT Try.prog 87 = 0 := by kernel_rfl
theorem asz_87 : arrSz Try.prog 87 = some 1 := by kernel_rfl
theorem pl_87 : placesOf Try.prog 87 = none := by kernel_rfl
theorem arr_87 : arrOf Try.prog 87 = some (20, 1) := by kernel_rfl
theorem sz_88 : szOf Try.prog 88 = some 1 := by kernel_rfl
theorem row_88 : rowOf Try.prog 88 = some false := by kernel_rfl
theorem zero_88 : zeroOf Try.prog 88 = some [.slice none 0 0] := by kernel_rfl
theorem by_88 : bytesOf' Try.prog 88 = some 24 := by kernel_rfl
theorem el_88 : elOf Try.prog 88 = some 5 := by kernel_rfl
theorem str_88 : isStr Try.prog 88 = false := by kernel_rfl
theorem bs_88 : isBytes Try.prog 88 = true := by kernel_rfl
theorem cc_88 : isConc Try.prog 88 = true := by kernel_rfl
theorem und_88 : Try.prog.underlying 88 = some (.slice 5) := by kernel_rfl
theorem kt_88 : kT Try.prog 88 = 1 := by kernel_rfl
theorem sz_89 : szOf Try.prog 89 = some 1 := by kernel_rfl
theorem row_89 : rowOf Try.prog 89 = some false := by kernel_rfl
theorem zero_89 : zeroOf Try.prog 89 = some [.int .u8 0] := by kernel_rfl
theorem by_89 : bytesOf' Try.prog 89 = some 1 := by kernel_rfl
theorem str_89 : isStr Try.prog 89 = false := by kernel_rfl
theorem kind_89 : kindOf' Try.prog 89 = some .u8 := by kernel_rfl
theorem cc_89 : isConc Try.prog 89 = true := by kernel_rfl
theorem kt_89 : kT Try.prog 89 = 0 := by kernel_rfl
theorem kt_90 : kT Try.prog 90 = 3 := by kernel_rfl
theorem sz_90 : szOf Try.prog 90 = some 1 := by kernel_rfl
theorem row_90 : rowOf Try.prog 90 = some false := by kernel_rfl
theorem kt_91 : kT Try.prog 91 = 3 := by kernel_rfl
theorem sz_91 : szOf Try.prog 91 = some 1 := by kernel_rfl
theorem row_91 : rowOf Try.prog 91 = some false := by kernel_rfl
theorem kt_93 : kT Try.prog 93 = 3 := by kernel_rfl
theorem sz_93 : szOf Try.prog 93 = some 1 := by kernel_rfl
theorem row_93 : rowOf Try.prog 93 = some false := by kernel_rfl
theorem sz_94 : szOf Try.prog 94 = some 15 := by kernel_rfl
theorem row_94 : rowOf Try.prog 94 = some true := by kernel_rfl
theorem zero_94 : zeroOf Try.prog 94 = some [.string ⟨#[]⟩, .string ⟨#[]⟩, .string ⟨#[]⟩, .string ⟨#[]⟩, .string ⟨#[]⟩, .string ⟨#[]⟩, .string ⟨#[]⟩, .string ⟨#[]⟩, .string ⟨#[]⟩, .string ⟨#[]⟩, .string ⟨#[]⟩, .string ⟨#[]⟩, .string ⟨#[]⟩, .string ⟨#[]⟩, .string ⟨#[]⟩] := by kernel_rfl
theorem by_94 : bytesOf' Try.prog 94 = some 240 := by kernel_rfl
theorem str_94 : isStr Try.prog 94 = false := by kernel_rfl
theorem cc_94 : isConc Try.prog 94 = true := by kernel_rfl
theorem und_94 : Try.prog.underlying 94 = some (.array 15 9) := by kernel_rfl
theorem kt_94 : kT Try.prog 94 = 0 := by kernel_rfl
theorem asz_94 : arrSz Try.prog 94 = some 1 := by kernel_rfl
theorem pl_94 : placesOf Try.prog 94 = none := by kernel_rfl
theorem arr_94 : arrOf Try.prog 94 = some (15, 1) := by kernel_rfl
theorem kt_95 : kT Try.prog 95 = 3 := by kernel_rfl
theorem sz_95 : szOf Try.prog 95 = some 1 := by kernel_rfl
theorem row_95 : rowOf Try.prog 95 = some false := by kernel_rfl
theorem kt_96 : kT Try.prog 96 = 3 := by kernel_rfl
theorem sz_96 : szOf Try.prog 96 = some 1 := by kernel_rfl
theorem row_96 : rowOf Try.prog 96 = some false := by kernel_rfl
theorem kt_97 : kT Try.prog 97 = 3 := by kernel_rfl
theorem sz_97 : szOf Try.prog 97 = some 1 := by kernel_rfl
theorem row_97 : rowOf Try.prog 97 = some false := by kernel_rfl
theorem sz_98 : szOf Try.prog 98 = some 1 := by kernel_rfl
theorem row_98 : rowOf Try.prog 98 = some false := by kernel_rfl
theorem zero_98 : zeroOf Try.prog 98 = some [.slice none 0 0] := by kernel_rfl
theorem by_98 : bytesOf' Try.prog 98 = some 24 := by kernel_rfl
theorem el_98 : elOf Try.prog 98 = some 3 := by kernel_rfl
theorem str_98 : isStr Try.prog 98 = false := by kernel_rfl
theorem bs_98 : isBytes Try.prog 98 = false := by kernel_rfl
theorem cc_98 : isConc Try.prog 98 = true := by kernel_rfl
theorem und_98 : Try.prog.underlying 98 = some (.slice 3) := by kernel_rfl
theorem kt_98 : kT Try.prog 98 = 1 := by kernel_rfl
theorem kt_99 : kT Try.prog 99 = 3 := by kernel_rfl
theorem sz_99 : szOf Try.prog 99 = some 1 := by kernel_rfl
theorem row_99 : rowOf Try.prog 99 = some false := by kernel_rfl
theorem kt_100 : kT Try.prog 100 = 3 := by kernel_rfl
theorem sz_100 : szOf Try.prog 100 = some 1 := by kernel_rfl
theorem row_100 : rowOf Try.prog 100 = some false := by kernel_rfl
theorem kt_101 : kT Try.prog 101 = 3 := by kernel_rfl
theorem sz_101 : szOf Try.prog 101 = some 1 := by kernel_rfl
theorem row_101 : rowOf Try.prog 101 = some false := by kernel_rfl
theorem kt_102 : kT Try.prog 102 = 3 := by kernel_rfl
theorem sz_102 : szOf Try.prog 102 = some 1 := by kernel_rfl
theorem row_102 : rowOf Try.prog 102 = some false := by kernel_rfl
theorem sz_103 : szOf Try.prog 103 = some 4 := by kernel_rfl
theorem row_103 : rowOf Try.prog 103 = some true := by kernel_rfl
theorem zero_103 : zeroOf Try.prog 103 = some [.pointer none, .pointer none, .pointer none, .string ⟨#[]⟩] := by kernel_rfl
theorem by_103 : bytesOf' Try.prog 103 = some 40 := by kernel_rfl
theorem str_103 : isStr Try.prog 103 = false := by kernel_rfl
theorem cc_103 : isConc Try.prog 103 = true := by kernel_rfl
theorem kt_103 : kT Try.prog 103 = 0 := by kernel_rfl
theorem pl_103 : placesOf Try.prog 103 = some [(0, 1), (1, 1), (2, 1), (3, 1)] := by kernel_rfl
theorem off_103_0 : offOf Try.prog 103 0 = some 0 := by kernel_rfl
theorem fld_103_0 : fldOf Try.prog 103 0 = some (0, 1, false) := by kernel_rfl
theorem off_103_1 : offOf Try.prog 103 1 = some 1 := by kernel_rfl
theorem fld_103_1 : fldOf Try.prog 103 1 = some (1, 1, false) := by kernel_rfl
theorem off_103_2 : offOf Try.prog 103 2 = some 2 := by kernel_rfl
theorem fld_103_2 : fldOf Try.prog 103 2 = some (2, 1, false) := by kernel_rfl
theorem off_103_3 : offOf Try.prog 103 3 = some 3 := by kernel_rfl
theorem fld_103_3 : fldOf Try.prog 103 3 = some (3, 1, false) := by kernel_rfl
theorem sz_105 : szOf Try.prog 105 = some 0 := by kernel_rfl
theorem row_105 : rowOf Try.prog 105 = some true := by kernel_rfl
theorem by_105 : bytesOf' Try.prog 105 = some 0 := by kernel_rfl
theorem str_105 : isStr Try.prog 105 = false := by kernel_rfl
theorem cc_105 : isConc Try.prog 105 = true := by kernel_rfl
theorem und_105 : Try.prog.underlying 105 = some (.array 0 16) := by kernel_rfl
theorem kt_105 : kT Try.prog 105 = 0 := by kernel_rfl
theorem asz_105 : arrSz Try.prog 105 = some 1 := by kernel_rfl
theorem pl_105 : placesOf Try.prog 105 = none := by kernel_rfl
theorem sz_106 : szOf Try.prog 106 = some 0 := by kernel_rfl
theorem row_106 : rowOf Try.prog 106 = some true := by kernel_rfl
theorem by_106 : bytesOf' Try.prog 106 = some 0 := by kernel_rfl
theorem str_106 : isStr Try.prog 106 = false := by kernel_rfl
theorem cc_106 : isConc Try.prog 106 = true := by kernel_rfl
theorem kt_106 : kT Try.prog 106 = 0 := by kernel_rfl
theorem pl_106 : placesOf Try.prog 106 = some [(0, 0)] := by kernel_rfl
theorem kt_108 : kT Try.prog 108 = 3 := by kernel_rfl
theorem sz_108 : szOf Try.prog 108 = some 1 := by kernel_rfl
theorem row_108 : rowOf Try.prog 108 = some false := by kernel_rfl
theorem sz_109 : szOf Try.prog 109 = some 1 := by kernel_rfl
theorem row_109 : rowOf Try.prog 109 = some false := by kernel_rfl
theorem zero_109 : zeroOf Try.prog 109 = some [.int .u32 0] := by kernel_rfl
theorem by_109 : bytesOf' Try.prog 109 = some 4 := by kernel_rfl
theorem str_109 : isStr Try.prog 109 = false := by kernel_rfl
theorem kind_109 : kindOf' Try.prog 109 = some .u32 := by kernel_rfl
theorem cc_109 : isConc Try.prog 109 = true := by kernel_rfl
theorem kt_109 : kT Try.prog 109 = 0 := by kernel_rfl
theorem kt_112 : kT Try.prog 112 = 3 := by kernel_rfl
theorem sz_112 : szOf Try.prog 112 = some 1 := by kernel_rfl
theorem row_112 : rowOf Try.prog 112 = some false := by kernel_rfl
theorem sz_113 : szOf Try.prog 113 = some 1 := by kernel_rfl
theorem row_113 : rowOf Try.prog 113 = some false := by kernel_rfl
theorem zero_113 : zeroOf Try.prog 113 = some [.pointer none] := by kernel_rfl
theorem by_113 : bytesOf' Try.prog 113 = some 8 := by kernel_rfl
theorem str_113 : isStr Try.prog 113 = false := by kernel_rfl
theorem cc_113 : isConc Try.prog 113 = true := by kernel_rfl
theorem und_113 : Try.prog.underlying 113 = some (.pointer 5) := by kernel_rfl
theorem kt_113 : kT Try.prog 113 = 2 := by kernel_rfl
theorem sz_116 : szOf Try.prog 116 = some 11 := by kernel_rfl
theorem row_116 : rowOf Try.prog 116 = some true := by kernel_rfl
theorem zero_116 : zeroOf Try.prog 116 = some [.int .u64 0, .int .u64 0, .int .u32 0, .int .u8 0, .int .u8 0, .int .u8 0, .int .u8 0, .nilFunc, .pointer none, .int .i32 0, .int .i32 0] := by kernel_rfl
theorem by_116 : bytesOf' Try.prog 116 = some 48 := by kernel_rfl
theorem str_116 : isStr Try.prog 116 = false := by kernel_rfl
theorem cc_116 : isConc Try.prog 116 = true := by kernel_rfl
theorem kt_116 : kT Try.prog 116 = 0 := by kernel_rfl
theorem pl_116 : placesOf Try.prog 116 = some [(0, 1), (1, 1), (2, 1), (3, 1), (4, 1), (5, 1), (6, 1), (7, 1), (8, 1), (9, 1), (10, 1)] := by kernel_rfl
theorem off_116_0 : offOf Try.prog 116 0 = some 0 := by kernel_rfl
theorem fld_116_0 : fldOf Try.prog 116 0 = some (0, 1, false) := by kernel_rfl
theorem off_116_1 : offOf Try.prog 116 1 = some 1 := by kernel_rfl
theorem fld_116_1 : fldOf Try.prog 116 1 = some (1, 1, false) := by kernel_rfl
theorem off_116_2 : offOf Try.prog 116 2 = some 2 := by kernel_rfl
theorem fld_116_2 : fldOf Try.prog 116 2 = some (2, 1, false) := by kernel_rfl
theorem off_116_3 : offOf Try.prog 116 3 = some 3 := by kernel_rfl
theorem fld_116_3 : fldOf Try.prog 116 3 = some (3, 1, false) := by kernel_rfl
theorem off_116_4 : offOf Try.prog 116 4 = some 4 := by kernel_rfl
theorem fld_116_4 : fldOf Try.prog 116 4 = some (4, 1, false) := by kernel_rfl
theorem off_116_5 : offOf Try.prog 116 5 = some 5 := by kernel_rfl
theorem fld_116_5 : fldOf Try.prog 116 5 = some (5, 1, false) := by kernel_rfl
theorem off_116_6 : offOf Try.prog 116 6 = some 6 := by kernel_rfl
theorem fld_116_6 : fldOf Try.prog 116 6 = some (6, 1, false) := by kernel_rfl
theorem off_116_7 : offOf Try.prog 116 7 = some 7 := by kernel_rfl
theorem fld_116_7 : fldOf Try.prog 116 7 = some (7, 1, false) := by kernel_rfl
theorem off_116_8 : offOf Try.prog 116 8 = some 8 := by kernel_rfl
theorem fld_116_8 : fldOf Try.prog 116 8 = some (8, 1, false) := by kernel_rfl
theorem off_116_9 : offOf Try.prog 116 9 = some 9 := by kernel_rfl
theorem fld_116_9 : fldOf Try.prog 116 9 = some (9, 1, false) := by kernel_rfl
theorem off_116_10 : offOf Try.prog 116 10 = some 10 := by kernel_rfl
theorem fld_116_10 : fldOf Try.prog 116 10 = some (10, 1, false) := by kernel_rfl
theorem sz_118 : szOf Try.prog 118 = some 1 := by kernel_rfl
theorem row_118 : rowOf Try.prog 118 = some false := by kernel_rfl
theorem zero_118 : zeroOf Try.prog 118 = some [.pointer none] := by kernel_rfl
theorem by_118 : bytesOf' Try.prog 118 = some 8 := by kernel_rfl
theorem str_118 : isStr Try.prog 118 = false := by kernel_rfl
theorem cc_118 : isConc Try.prog 118 = true := by kernel_rfl
theorem kt_118 : kT Try.prog 118 = 0 := by kernel_rfl
end Go.Proofs.Ythhlghoeapjagaa
