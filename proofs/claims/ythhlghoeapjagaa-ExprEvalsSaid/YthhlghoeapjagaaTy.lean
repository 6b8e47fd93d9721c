/- What the program's table of types says, a fact each. Printed by a program of the prover's. -/
import Derived.Test.YthhlghoeapjagaaChecked
import Derived.Test.YthhlghoeapjagaaV7
set_option linter.unusedVariables false
set_option linter.unusedSimpArgs false
namespace Go.Proofs.Ythhlghoeapjagaa
theorem sz_2 : szOf Try.prog 2 = some 1 := by kernel_rfl
theorem row_2 : rowOf Try.prog 2 = some false := by kernel_rfl
theorem zero_2 : zeroOf Try.prog 2 = some [.int .i64 0] := by kernel_rfl
theorem by_2 : bytesOf' Try.prog 2 = some 8 := by kernel_rfl
theorem str_2 : isStr Try.prog 2 = false := by kernel_rfl
theorem kind_2 : kindOf' Try.prog 2 = some .i64 := by kernel_rfl
theorem sz_3 : szOf Try.prog 3 = some 1 := by kernel_rfl
theorem row_3 : rowOf Try.prog 3 = some false := by kernel_rfl
theorem zero_3 : zeroOf Try.prog 3 = some [.int .i64 0] := by kernel_rfl
theorem by_3 : bytesOf' Try.prog 3 = some 8 := by kernel_rfl
theorem str_3 : isStr Try.prog 3 = false := by kernel_rfl
theorem kind_3 : kindOf' Try.prog 3 = some .i64 := by kernel_rfl
theorem sz_4 : szOf Try.prog 4 = some 1 := by kernel_rfl
theorem row_4 : rowOf Try.prog 4 = some false := by kernel_rfl
theorem zero_4 : zeroOf Try.prog 4 = some [.bool false] := by kernel_rfl
theorem by_4 : bytesOf' Try.prog 4 = some 1 := by kernel_rfl
theorem str_4 : isStr Try.prog 4 = false := by kernel_rfl
theorem sz_5 : szOf Try.prog 5 = some 1 := by kernel_rfl
theorem row_5 : rowOf Try.prog 5 = some false := by kernel_rfl
theorem zero_5 : zeroOf Try.prog 5 = some [.int .u8 0] := by kernel_rfl
theorem by_5 : bytesOf' Try.prog 5 = some 1 := by kernel_rfl
theorem str_5 : isStr Try.prog 5 = false := by kernel_rfl
theorem kind_5 : kindOf' Try.prog 5 = some .u8 := by kernel_rfl
theorem sz_9 : szOf Try.prog 9 = some 1 := by kernel_rfl
theorem row_9 : rowOf Try.prog 9 = some false := by kernel_rfl
theorem zero_9 : zeroOf Try.prog 9 = some [.string ⟨#[]⟩] := by kernel_rfl
theorem by_9 : bytesOf' Try.prog 9 = some 16 := by kernel_rfl
theorem str_9 : isStr Try.prog 9 = true := by kernel_rfl
theorem bs_9 : isBytes Try.prog 9 = false := by kernel_rfl
theorem sz_21 : szOf Try.prog 21 = some 1 := by kernel_rfl
theorem row_21 : rowOf Try.prog 21 = some false := by kernel_rfl
theorem zero_21 : zeroOf Try.prog 21 = some [.int .i32 0] := by kernel_rfl
theorem by_21 : bytesOf' Try.prog 21 = some 4 := by kernel_rfl
theorem str_21 : isStr Try.prog 21 = false := by kernel_rfl
theorem kind_21 : kindOf' Try.prog 21 = some .i32 := by kernel_rfl
theorem sz_22 : szOf Try.prog 22 = some 3 := by kernel_rfl
theorem row_22 : rowOf Try.prog 22 = some true := by kernel_rfl
theorem zero_22 : zeroOf Try.prog 22 = some [.int .i64 0, .string ⟨#[]⟩, .string ⟨#[]⟩] := by kernel_rfl
theorem by_22 : bytesOf' Try.prog 22 = some 40 := by kernel_rfl
theorem str_22 : isStr Try.prog 22 = false := by kernel_rfl
theorem pl_22 : placesOf Try.prog 22 = some [(0, 1), (1, 1), (2, 1)] := by kernel_rfl
theorem off_22_0 : offOf Try.prog 22 0 = some 0 := by kernel_rfl
theorem fld_22_0 : fldOf Try.prog 22 0 = some (0, 1, false) := by kernel_rfl
theorem off_22_1 : offOf Try.prog 22 1 = some 1 := by kernel_rfl
theorem fld_22_1 : fldOf Try.prog 22 1 = some (1, 1, false) := by kernel_rfl
theorem off_22_2 : offOf Try.prog 22 2 = some 2 := by kernel_rfl
theorem fld_22_2 : fldOf Try.prog 22 2 = some (2, 1, false) := by kernel_rfl
theorem sz_23 : szOf Try.prog 23 = some 3 := by kernel_rfl
theorem row_23 : rowOf Try.prog 23 = some true := by kernel_rfl
theorem zero_23 : zeroOf Try.prog 23 = some [.int .i64 0, .string ⟨#[]⟩, .string ⟨#[]⟩] := by kernel_rfl
theorem by_23 : bytesOf' Try.prog 23 = some 40 := by kernel_rfl
theorem str_23 : isStr Try.prog 23 = false := by kernel_rfl
theorem pl_23 : placesOf Try.prog 23 = some [(0, 1), (1, 1), (2, 1)] := by kernel_rfl
theorem off_23_0 : offOf Try.prog 23 0 = some 0 := by kernel_rfl
theorem fld_23_0 : fldOf Try.prog 23 0 = some (0, 1, false) := by kernel_rfl
theorem off_23_1 : offOf Try.prog 23 1 = some 1 := by kernel_rfl
theorem fld_23_1 : fldOf Try.prog 23 1 = some (1, 1, false) := by kernel_rfl
theorem off_23_2 : offOf Try.prog 23 2 = some 2 := by kernel_rfl
theorem fld_23_2 : fldOf Try.prog 23 2 = some (2, 1, false) := by kernel_rfl
theorem sz_25 : szOf Try.prog 25 = some 1 := by kernel_rfl
theorem row_25 : rowOf Try.prog 25 = some false := by kernel_rfl
theorem zero_25 : zeroOf Try.prog 25 = some [.int .i64 0] := by kernel_rfl
theorem by_25 : bytesOf' Try.prog 25 = some 8 := by kernel_rfl
theorem str_25 : isStr Try.prog 25 = false := by kernel_rfl
theorem kind_25 : kindOf' Try.prog 25 = some .i64 := by kernel_rfl
theorem sz_34 : szOf Try.prog 34 = some 1 := by kernel_rfl
theorem row_34 : rowOf Try.prog 34 = some false := by kernel_rfl
theorem zero_34 : zeroOf Try.prog 34 = some [.slice none 0 0] := by kernel_rfl
theorem by_34 : bytesOf' Try.prog 34 = some 24 := by kernel_rfl
theorem el_34 : elOf Try.prog 34 = some 57 := by kernel_rfl
theorem str_34 : isStr Try.prog 34 = false := by kernel_rfl
theorem bs_34 : isBytes Try.prog 34 = false := by kernel_rfl
theorem sz_46 : szOf Try.prog 46 = some 1 := by kernel_rfl
theorem row_46 : rowOf Try.prog 46 = some false := by kernel_rfl
theorem zero_46 : zeroOf Try.prog 46 = some [.slice none 0 0] := by kernel_rfl
theorem by_46 : bytesOf' Try.prog 46 = some 24 := by kernel_rfl
theorem el_46 : elOf Try.prog 46 = some 9 := by kernel_rfl
theorem str_46 : isStr Try.prog 46 = false := by kernel_rfl
theorem bs_46 : isBytes Try.prog 46 = false := by kernel_rfl
theorem sz_49 : szOf Try.prog 49 = some 1 := by kernel_rfl
theorem row_49 : rowOf Try.prog 49 = some false := by kernel_rfl
theorem zero_49 : zeroOf Try.prog 49 = some [.slice none 0 0] := by kernel_rfl
theorem by_49 : bytesOf' Try.prog 49 = some 24 := by kernel_rfl
theorem el_49 : elOf Try.prog 49 = some 52 := by kernel_rfl
theorem str_49 : isStr Try.prog 49 = false := by kernel_rfl
theorem bs_49 : isBytes Try.prog 49 = false := by kernel_rfl
theorem sz_50 : szOf Try.prog 50 = some 1 := by kernel_rfl
theorem row_50 : rowOf Try.prog 50 = some false := by kernel_rfl
theorem zero_50 : zeroOf Try.prog 50 = some [.int .u64 0] := by kernel_rfl
theorem by_50 : bytesOf' Try.prog 50 = some 8 := by kernel_rfl
theorem str_50 : isStr Try.prog 50 = false := by kernel_rfl
theorem kind_50 : kindOf' Try.prog 50 = some .u64 := by kernel_rfl
theorem sz_51 : szOf Try.prog 51 = some 4 := by kernel_rfl
theorem row_51 : rowOf Try.prog 51 = some true := by kernel_rfl
theorem zero_51 : zeroOf Try.prog 51 = some [.int .i64 0, .string ⟨#[]⟩, .int .u64 0, .int .i64 0] := by kernel_rfl
theorem by_51 : bytesOf' Try.prog 51 = some 40 := by kernel_rfl
theorem str_51 : isStr Try.prog 51 = false := by kernel_rfl
theorem pl_51 : placesOf Try.prog 51 = some [(0, 1), (1, 1), (2, 1), (3, 1)] := by kernel_rfl
theorem off_51_0 : offOf Try.prog 51 0 = some 0 := by kernel_rfl
theorem fld_51_0 : fldOf Try.prog 51 0 = some (0, 1, false) := by kernel_rfl
theorem off_51_1 : offOf Try.prog 51 1 = some 1 := by kernel_rfl
theorem fld_51_1 : fldOf Try.prog 51 1 = some (1, 1, false) := by kernel_rfl
theorem off_51_2 : offOf Try.prog 51 2 = some 2 := by kernel_rfl
theorem fld_51_2 : fldOf Try.prog 51 2 = some (2, 1, false) := by kernel_rfl
theorem off_51_3 : offOf Try.prog 51 3 = some 3 := by kernel_rfl
theorem fld_51_3 : fldOf Try.prog 51 3 = some (3, 1, false) := by kernel_rfl
theorem sz_52 : szOf Try.prog 52 = some 4 := by kernel_rfl
theorem row_52 : rowOf Try.prog 52 = some true := by kernel_rfl
theorem zero_52 : zeroOf Try.prog 52 = some [.int .i64 0, .string ⟨#[]⟩, .int .u64 0, .int .i64 0] := by kernel_rfl
theorem by_52 : bytesOf' Try.prog 52 = some 40 := by kernel_rfl
theorem str_52 : isStr Try.prog 52 = false := by kernel_rfl
theorem pl_52 : placesOf Try.prog 52 = some [(0, 1), (1, 1), (2, 1), (3, 1)] := by kernel_rfl
theorem off_52_0 : offOf Try.prog 52 0 = some 0 := by kernel_rfl
theorem fld_52_0 : fldOf Try.prog 52 0 = some (0, 1, false) := by kernel_rfl
theorem off_52_1 : offOf Try.prog 52 1 = some 1 := by kernel_rfl
theorem fld_52_1 : fldOf Try.prog 52 1 = some (1, 1, false) := by kernel_rfl
theorem off_52_2 : offOf Try.prog 52 2 = some 2 := by kernel_rfl
theorem fld_52_2 : fldOf Try.prog 52 2 = some (2, 1, false) := by kernel_rfl
theorem off_52_3 : offOf Try.prog 52 3 = some 3 := by kernel_rfl
theorem fld_52_3 : fldOf Try.prog 52 3 = some (3, 1, false) := by kernel_rfl
theorem sz_56 : szOf Try.prog 56 = some 3 := by kernel_rfl
theorem row_56 : rowOf Try.prog 56 = some true := by kernel_rfl
theorem zero_56 : zeroOf Try.prog 56 = some [.int .i64 0, .int .i64 0, .string ⟨#[]⟩] := by kernel_rfl
theorem by_56 : bytesOf' Try.prog 56 = some 32 := by kernel_rfl
theorem str_56 : isStr Try.prog 56 = false := by kernel_rfl
theorem pl_56 : placesOf Try.prog 56 = some [(0, 1), (1, 1), (2, 1)] := by kernel_rfl
theorem off_56_0 : offOf Try.prog 56 0 = some 0 := by kernel_rfl
theorem fld_56_0 : fldOf Try.prog 56 0 = some (0, 1, false) := by kernel_rfl
theorem off_56_1 : offOf Try.prog 56 1 = some 1 := by kernel_rfl
theorem fld_56_1 : fldOf Try.prog 56 1 = some (1, 1, false) := by kernel_rfl
theorem off_56_2 : offOf Try.prog 56 2 = some 2 := by kernel_rfl
theorem fld_56_2 : fldOf Try.prog 56 2 = some (2, 1, false) := by kernel_rfl
theorem sz_57 : szOf Try.prog 57 = some 3 := by kernel_rfl
theorem row_57 : rowOf Try.prog 57 = some true := by kernel_rfl
theorem zero_57 : zeroOf Try.prog 57 = some [.int .i64 0, .int .i64 0, .string ⟨#[]⟩] := by kernel_rfl
theorem by_57 : bytesOf' Try.prog 57 = some 32 := by kernel_rfl
theorem str_57 : isStr Try.prog 57 = false := by kernel_rfl
theorem pl_57 : placesOf Try.prog 57 = some [(0, 1), (1, 1), (2, 1)] := by kernel_rfl
theorem off_57_0 : offOf Try.prog 57 0 = some 0 := by kernel_rfl
theorem fld_57_0 : fldOf Try.prog 57 0 = some (0, 1, false) := by kernel_rfl
theorem off_57_1 : offOf Try.prog 57 1 = some 1 := by kernel_rfl
theorem fld_57_1 : fldOf Try.prog 57 1 = some (1, 1, false) := by kernel_rfl
theorem off_57_2 : offOf Try.prog 57 2 = some 2 := by kernel_rfl
theorem fld_57_2 : fldOf Try.prog 57 2 = some (2, 1, false) := by kernel_rfl
theorem sz_70 : szOf Try.prog 70 = some 1 := by kernel_rfl
theorem row_70 : rowOf Try.prog 70 = some false := by kernel_rfl
theorem zero_70 : zeroOf Try.prog 70 = some [.slice none 0 0] := by kernel_rfl
theorem by_70 : bytesOf' Try.prog 70 = some 24 := by kernel_rfl
theorem el_70 : elOf Try.prog 70 = some 72 := by kernel_rfl
theorem str_70 : isStr Try.prog 70 = false := by kernel_rfl
theorem bs_70 : isBytes Try.prog 70 = false := by kernel_rfl
theorem sz_72 : szOf Try.prog 72 = some 2 := by kernel_rfl
theorem row_72 : rowOf Try.prog 72 = some true := by kernel_rfl
theorem zero_72 : zeroOf Try.prog 72 = some [.string ⟨#[]⟩, .int .i64 0] := by kernel_rfl
theorem by_72 : bytesOf' Try.prog 72 = some 24 := by kernel_rfl
theorem str_72 : isStr Try.prog 72 = false := by kernel_rfl
theorem pl_72 : placesOf Try.prog 72 = some [(0, 1), (1, 1)] := by kernel_rfl
theorem off_72_0 : offOf Try.prog 72 0 = some 0 := by kernel_rfl
theorem fld_72_0 : fldOf Try.prog 72 0 = some (0, 1, false) := by kernel_rfl
theorem off_72_1 : offOf Try.prog 72 1 = some 1 := by kernel_rfl
theorem fld_72_1 : fldOf Try.prog 72 1 = some (1, 1, false) := by kernel_rfl
theorem sz_74 : szOf Try.prog 74 = some 1 := by kernel_rfl
theorem row_74 : rowOf Try.prog 74 = some false := by kernel_rfl
theorem zero_74 : zeroOf Try.prog 74 = some [.slice none 0 0] := by kernel_rfl
theorem by_74 : bytesOf' Try.prog 74 = some 24 := by kernel_rfl
theorem el_74 : elOf Try.prog 74 = some 76 := by kernel_rfl
theorem str_74 : isStr Try.prog 74 = false := by kernel_rfl
theorem bs_74 : isBytes Try.prog 74 = false := by kernel_rfl
theorem sz_76 : szOf Try.prog 76 = some 2 := by kernel_rfl
theorem row_76 : rowOf Try.prog 76 = some true := by kernel_rfl
theorem zero_76 : zeroOf Try.prog 76 = some [.string ⟨#[]⟩, .int .i64 0] := by kernel_rfl
theorem by_76 : bytesOf' Try.prog 76 = some 24 := by kernel_rfl
theorem str_76 : isStr Try.prog 76 = false := by kernel_rfl
theorem pl_76 : placesOf Try.prog 76 = some [(0, 1), (1, 1)] := by kernel_rfl
theorem off_76_0 : offOf Try.prog 76 0 = some 0 := by kernel_rfl
theorem fld_76_0 : fldOf Try.prog 76 0 = some (0, 1, false) := by kernel_rfl
theorem off_76_1 : offOf Try.prog 76 1 = some 1 := by kernel_rfl
theorem fld_76_1 : fldOf Try.prog 76 1 = some (1, 1, false) := by kernel_rfl
theorem sz_88 : szOf Try.prog 88 = some 1 := by kernel_rfl
theorem row_88 : rowOf Try.prog 88 = some false := by kernel_rfl
theorem zero_88 : zeroOf Try.prog 88 = some [.slice none 0 0] := by kernel_rfl
theorem by_88 : bytesOf' Try.prog 88 = some 24 := by kernel_rfl
theorem el_88 : elOf Try.prog 88 = some 5 := by kernel_rfl
theorem str_88 : isStr Try.prog 88 = false := by kernel_rfl
theorem bs_88 : isBytes Try.prog 88 = true := by kernel_rfl
theorem sz_94 : szOf Try.prog 94 = some 15 := by kernel_rfl
theorem row_94 : rowOf Try.prog 94 = some true := by kernel_rfl
theorem zero_94 : zeroOf Try.prog 94 = some [.string ⟨#[]⟩, .string ⟨#[]⟩, .string ⟨#[]⟩, .string ⟨#[]⟩, .string ⟨#[]⟩, .string ⟨#[]⟩, .string ⟨#[]⟩, .string ⟨#[]⟩, .string ⟨#[]⟩, .string ⟨#[]⟩, .string ⟨#[]⟩, .string ⟨#[]⟩, .string ⟨#[]⟩, .string ⟨#[]⟩, .string ⟨#[]⟩] := by kernel_rfl
theorem by_94 : bytesOf' Try.prog 94 = some 240 := by kernel_rfl
theorem str_94 : isStr Try.prog 94 = false := by kernel_rfl
theorem asz_94 : arrSz Try.prog 94 = some 1 := by kernel_rfl
theorem pl_94 : placesOf Try.prog 94 = none := by kernel_rfl
theorem arr_94 : arrOf Try.prog 94 = some (15, 1) := by kernel_rfl
end Go.Proofs.Ythhlghoeapjagaa
