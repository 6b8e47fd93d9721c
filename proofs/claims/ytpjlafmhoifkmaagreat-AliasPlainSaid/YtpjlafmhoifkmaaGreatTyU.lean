/- What the program's table of types says, a fact each. Printed by a program of the prover's. -/
import Derived.Test.YtpjlafmhoifkmaaGreatChecked
import Derived.Test.YtpjlafmhoifkmaaGreatU7
set_option linter.unusedVariables false
set_option linter.unusedSimpArgs false
namespace Go.Proofs.YtpjlafmhoifkmaaGreat
theorem sz_1 : szOf Tryz.prog 1 = some 1 := by kernel_rfl
theorem row_1 : rowOf Tryz.prog 1 = some false := by kernel_rfl
theorem sz_2 : szOf Tryz.prog 2 = some 1 := by kernel_rfl
theorem row_2 : rowOf Tryz.prog 2 = some false := by kernel_rfl
theorem zero_2 : zeroOf Tryz.prog 2 = some [.int .i64 0] := by kernel_rfl
theorem sz_3 : szOf Tryz.prog 3 = some 1 := by kernel_rfl
theorem row_3 : rowOf Tryz.prog 3 = some false := by kernel_rfl
theorem zero_3 : zeroOf Tryz.prog 3 = some [.int .i64 0] := by kernel_rfl
theorem by_3 : bytesOf' Tryz.prog 3 = some 8 := by kernel_rfl
theorem kind_3 : kindOf' Tryz.prog 3 = some .i64 := by kernel_rfl
theorem kt_3 : kT Tryz.prog 3 = 0 := by kernel_rfl
theorem sz_4 : szOf Tryz.prog 4 = some 1 := by kernel_rfl
theorem row_4 : rowOf Tryz.prog 4 = some false := by kernel_rfl
theorem sz_9 : szOf Tryz.prog 9 = some 1 := by kernel_rfl
theorem row_9 : rowOf Tryz.prog 9 = some false := by kernel_rfl
theorem zero_9 : zeroOf Tryz.prog 9 = some [.string ⟨#[]⟩] := by kernel_rfl
theorem str_9 : isStr Tryz.prog 9 = true := by kernel_rfl
theorem sz_23 : szOf Tryz.prog 23 = some 3 := by kernel_rfl
theorem zero_23 : zeroOf Tryz.prog 23 = some [.int .i64 0, .bool false, .bool false] := by kernel_rfl
theorem pl_23 : placesOf Tryz.prog 23 = some [(0, 1), (1, 1), (2, 1)] := by kernel_rfl
theorem sz_24 : szOf Tryz.prog 24 = some 1 := by kernel_rfl
theorem row_24 : rowOf Tryz.prog 24 = some false := by kernel_rfl
theorem kind_24 : kindOf' Tryz.prog 24 = some .u64 := by kernel_rfl
theorem sz_27 : szOf Tryz.prog 27 = some 10 := by kernel_rfl
theorem row_27 : rowOf Tryz.prog 27 = some true := by kernel_rfl
theorem zero_27 : zeroOf Tryz.prog 27 = some [.int .i64 0, .bool false, .bool false, .int .i64 0, .int .i64 0, .int .i64 0, .int .i64 0, .int .i64 0, .int .i64 0, .int .i64 0] := by kernel_rfl
theorem pl_27 : placesOf Tryz.prog 27 = some [(0, 1), (1, 1), (2, 1), (3, 1), (4, 1), (5, 1), (6, 1), (7, 1), (8, 1), (9, 1)] := by kernel_rfl
theorem off_27_0 : offOf Tryz.prog 27 0 = some 0 := by kernel_rfl
theorem off_27_1 : offOf Tryz.prog 27 1 = some 1 := by kernel_rfl
theorem off_27_2 : offOf Tryz.prog 27 2 = some 2 := by kernel_rfl
theorem off_27_3 : offOf Tryz.prog 27 3 = some 3 := by kernel_rfl
theorem off_27_4 : offOf Tryz.prog 27 4 = some 4 := by kernel_rfl
theorem off_27_5 : offOf Tryz.prog 27 5 = some 5 := by kernel_rfl
theorem off_27_6 : offOf Tryz.prog 27 6 = some 6 := by kernel_rfl
theorem off_27_7 : offOf Tryz.prog 27 7 = some 7 := by kernel_rfl
theorem off_27_8 : offOf Tryz.prog 27 8 = some 8 := by kernel_rfl
theorem off_27_9 : offOf Tryz.prog 27 9 = some 9 := by kernel_rfl
theorem sz_28 : szOf Tryz.prog 28 = some 1 := by kernel_rfl
theorem row_28 : rowOf Tryz.prog 28 = some false := by kernel_rfl
theorem zero_28 : zeroOf Tryz.prog 28 = some [.int .i64 0] := by kernel_rfl
theorem sz_31 : szOf Tryz.prog 31 = some 1 := by kernel_rfl
theorem row_31 : rowOf Tryz.prog 31 = some false := by kernel_rfl
theorem el_31 : elOf Tryz.prog 31 = some 40 := by kernel_rfl
theorem sz_33 : szOf Tryz.prog 33 = some 2 := by kernel_rfl
theorem row_33 : rowOf Tryz.prog 33 = some true := by kernel_rfl
theorem zero_33 : zeroOf Tryz.prog 33 = some [.string ⟨#[]⟩, .slice none 0 0] := by kernel_rfl
theorem pl_33 : placesOf Tryz.prog 33 = some [(0, 1), (1, 1)] := by kernel_rfl
theorem off_33_0 : offOf Tryz.prog 33 0 = some 0 := by kernel_rfl
theorem off_33_1 : offOf Tryz.prog 33 1 = some 1 := by kernel_rfl
theorem zero_38 : zeroOf Tryz.prog 38 = some [.int .i64 0, .string ⟨#[]⟩, .string ⟨#[]⟩] := by kernel_rfl
theorem pl_38 : placesOf Tryz.prog 38 = some [(0, 1), (1, 1), (2, 1)] := by kernel_rfl
theorem off_38_0 : offOf Tryz.prog 38 0 = some 0 := by kernel_rfl
theorem sz_40 : szOf Tryz.prog 40 = some 15 := by kernel_rfl
theorem row_40 : rowOf Tryz.prog 40 = some true := by kernel_rfl
theorem zero_40 : zeroOf Tryz.prog 40 = some [.int .i64 0, .int .i64 0, .bool false, .bool false, .int .i64 0, .bool false, .bool false, .int .i64 0, .int .i64 0, .int .i64 0, .int .i64 0, .string ⟨#[]⟩, .string ⟨#[]⟩, .bool false, .int .i64 0] := by kernel_rfl
theorem by_40 : bytesOf' Tryz.prog 40 = some 120 := by kernel_rfl
theorem pl_40 : placesOf Tryz.prog 40 = some [(0, 1), (1, 3), (4, 3), (7, 1), (8, 1), (9, 1), (10, 3), (13, 1), (14, 1)] := by kernel_rfl
theorem off_40_2 : offOf Tryz.prog 40 2 = some 4 := by kernel_rfl
theorem off_40_3 : offOf Tryz.prog 40 3 = some 7 := by kernel_rfl
theorem off_40_4 : offOf Tryz.prog 40 4 = some 8 := by kernel_rfl
theorem off_40_6 : offOf Tryz.prog 40 6 = some 10 := by kernel_rfl
theorem off_40_8 : offOf Tryz.prog 40 8 = some 14 := by kernel_rfl
theorem kind_65 : kindOf' Tryz.prog 65 = some .u64 := by kernel_rfl
theorem sz_66 : szOf Tryz.prog 66 = some 1 := by kernel_rfl
theorem row_66 : rowOf Tryz.prog 66 = some false := by kernel_rfl
theorem zero_66 : zeroOf Tryz.prog 66 = some [.pointer none] := by kernel_rfl
theorem zero_68 : zeroOf Tryz.prog 68 = some [.int .i64 0, .bool false, .bool false, .int .i64 0, .int .i64 0, .int .i64 0, .int .i64 0, .int .i64 0, .int .i64 0, .int .i64 0, .string ⟨#[]⟩, .slice none 0 0] := by kernel_rfl
theorem pl_68 : placesOf Tryz.prog 68 = some [(0, 10), (10, 2)] := by kernel_rfl
theorem off_68_0 : offOf Tryz.prog 68 0 = some 0 := by kernel_rfl
theorem off_68_1 : offOf Tryz.prog 68 1 = some 10 := by kernel_rfl
theorem sz_70 : szOf Tryz.prog 70 = some 1 := by kernel_rfl
theorem row_70 : rowOf Tryz.prog 70 = some false := by kernel_rfl
theorem el_70 : elOf Tryz.prog 70 = some 75 := by kernel_rfl
theorem str_70 : isStr Tryz.prog 70 = false := by kernel_rfl
theorem kt_70 : kT Tryz.prog 70 = 1 := by kernel_rfl
theorem sz_75 : szOf Tryz.prog 75 = some 3 := by kernel_rfl
theorem row_75 : rowOf Tryz.prog 75 = some true := by kernel_rfl
theorem zero_75 : zeroOf Tryz.prog 75 = some [.int .i64 0, .int .i64 0, .int .i64 0] := by kernel_rfl
theorem by_75 : bytesOf' Tryz.prog 75 = some 24 := by kernel_rfl
theorem pl_75 : placesOf Tryz.prog 75 = some [(0, 1), (1, 1), (2, 1)] := by kernel_rfl
theorem off_75_0 : offOf Tryz.prog 75 0 = some 0 := by kernel_rfl
theorem off_75_1 : offOf Tryz.prog 75 1 = some 1 := by kernel_rfl
theorem off_75_2 : offOf Tryz.prog 75 2 = some 2 := by kernel_rfl
theorem el_77 : elOf Tryz.prog 77 = some 9 := by kernel_rfl
theorem sz_91 : szOf Tryz.prog 91 = some 3 := by kernel_rfl
theorem row_91 : rowOf Tryz.prog 91 = some true := by kernel_rfl
theorem zero_91 : zeroOf Tryz.prog 91 = some [.int .i64 0, .int .i64 0, .int .i64 0] := by kernel_rfl
theorem pl_91 : placesOf Tryz.prog 91 = some [(0, 1), (1, 1), (2, 1)] := by kernel_rfl
theorem off_91_0 : offOf Tryz.prog 91 0 = some 0 := by kernel_rfl
theorem off_91_1 : offOf Tryz.prog 91 1 = some 1 := by kernel_rfl
theorem off_91_2 : offOf Tryz.prog 91 2 = some 2 := by kernel_rfl
theorem el_98 : elOf Tryz.prog 98 = some 1 := by kernel_rfl
theorem el_108 : elOf Tryz.prog 108 = some 111 := by kernel_rfl
theorem sz_111 : szOf Tryz.prog 111 = some 2 := by kernel_rfl
theorem zero_111 : zeroOf Tryz.prog 111 = some [.string ⟨#[]⟩, .int .i64 0] := by kernel_rfl
theorem pl_111 : placesOf Tryz.prog 111 = some [(0, 1), (1, 1)] := by kernel_rfl
theorem off_111_0 : offOf Tryz.prog 111 0 = some 0 := by kernel_rfl
theorem off_111_1 : offOf Tryz.prog 111 1 = some 1 := by kernel_rfl
theorem el_118 : elOf Tryz.prog 118 = some 2 := by kernel_rfl
theorem el_123 : elOf Tryz.prog 123 = some 126 := by kernel_rfl
theorem sz_126 : szOf Tryz.prog 126 = some 2 := by kernel_rfl
theorem row_126 : rowOf Tryz.prog 126 = some true := by kernel_rfl
theorem zero_126 : zeroOf Tryz.prog 126 = some [.string ⟨#[]⟩, .int .i64 0] := by kernel_rfl
theorem pl_126 : placesOf Tryz.prog 126 = some [(0, 1), (1, 1)] := by kernel_rfl
theorem off_126_0 : offOf Tryz.prog 126 0 = some 0 := by kernel_rfl
theorem off_126_1 : offOf Tryz.prog 126 1 = some 1 := by kernel_rfl
theorem sz_128 : szOf Tryz.prog 128 = some 2 := by kernel_rfl
theorem row_128 : rowOf Tryz.prog 128 = some true := by kernel_rfl
theorem zero_128 : zeroOf Tryz.prog 128 = some [.int .i64 0, .int .i64 0] := by kernel_rfl
theorem asz_128 : arrSz Tryz.prog 128 = some 1 := by kernel_rfl
theorem pl_128 : placesOf Tryz.prog 128 = none := by kernel_rfl
theorem arr_128 : arrOf Tryz.prog 128 = some (2, 1) := by kernel_rfl
theorem zero_129 : zeroOf Tryz.prog 129 = some [.int .i64 0, .int .i64 0, .int .i64 0, .int .i64 0, .int .i64 0, .int .i64 0, .int .i64 0, .int .i64 0] := by kernel_rfl
theorem und_129 : Tryz.prog.underlying 129 = some (.array 4 128) := by kernel_rfl
theorem asz_129 : arrSz Tryz.prog 129 = some 2 := by kernel_rfl
theorem pl_129 : placesOf Tryz.prog 129 = none := by kernel_rfl
theorem el_131 : elOf Tryz.prog 131 = some 3 := by kernel_rfl
end Go.Proofs.YtpjlafmhoifkmaaGreat
