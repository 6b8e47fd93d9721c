import Derived.Test.YtnhbidpdadkcjaaGreatDoorChecked
import Derived.Test.YtnhbidpdadkcjaaGreatDoorJ03
set_option linter.unusedVariables false
set_option linter.unusedSimpArgs false
set_option maxRecDepth 100000
set_option maxHeartbeats 8000000
namespace Go.Proofs.YtnhbidpdadkcjaaGreatDoor
theorem sz_2:eF Tryz.prog 2=some 1:=by kernel_rfl
theorem TR:cZ Tryz.prog 2=some false:=by kernel_rfl
theorem SZ:dl Tryz.prog 2=some [.int .i64 0]:=by kernel_rfl
theorem Rl:mo Tryz.prog 2=some .i64:=by kernel_rfl
theorem sz_3:eF Tryz.prog 3=some 1:=by kernel_rfl
theorem TS:cZ Tryz.prog 3=some false:=by kernel_rfl
theorem S0:dl Tryz.prog 3=some [.int .i64 0]:=by kernel_rfl
theorem Rm:mo Tryz.prog 3=some .i64:=by kernel_rfl
theorem sz_4:eF Tryz.prog 4=some 1:=by kernel_rfl
theorem TT:cZ Tryz.prog 4=some false:=by kernel_rfl
theorem sz_5:eF Tryz.prog 5=some 1:=by kernel_rfl
theorem TU:cZ Tryz.prog 5=some false:=by kernel_rfl
theorem S1:dl Tryz.prog 5=some [.int .u8 0]:=by kernel_rfl
theorem by_5:ju Tryz.prog 5=some 1:=by kernel_rfl
theorem Rn:mo Tryz.prog 5=some .u8:=by kernel_rfl
theorem sz_9:eF Tryz.prog 9=some 1:=by kernel_rfl
theorem TV:cZ Tryz.prog 9=some false:=by kernel_rfl
theorem S2:dl Tryz.prog 9=some [.string ⟨#[]⟩]:=by kernel_rfl
theorem by_9:ju Tryz.prog 9=some 16:=by kernel_rfl
theorem T5:lB Tryz.prog 9=true:=by kernel_rfl
theorem xw:kT Tryz.prog 20=4:=by kernel_rfl
theorem T7:eF Tryz.prog 27=some 1:=by kernel_rfl
theorem R7:cZ Tryz.prog 27=some false:=by kernel_rfl
theorem Qk:dl Tryz.prog 27=some [.int .i64 0]:=by kernel_rfl
theorem T8:eF Tryz.prog 34=some 1:=by kernel_rfl
theorem R8:cZ Tryz.prog 34=some false:=by kernel_rfl
theorem Tp:jp Tryz.prog 34=some 9:=by kernel_rfl
theorem T9:eF Tryz.prog 35=some 1:=by kernel_rfl
theorem R9:cZ Tryz.prog 35=some false:=by kernel_rfl
theorem Ql:dl Tryz.prog 35=some [.slice none 0 0]:=by kernel_rfl
theorem Tq:jp Tryz.prog 35=some 79:=by kernel_rfl
theorem Ua:eF Tryz.prog 37=some 2:=by kernel_rfl
theorem Qm:dl Tryz.prog 37=some [.string ⟨#[]⟩,.slice none 0 0]:=by kernel_rfl
theorem TE:dq Tryz.prog 37=some [(0,1),(1,1)]:=by kernel_rfl
theorem LF:dg Tryz.prog 37 0=some 0:=by kernel_rfl
theorem LG:dg Tryz.prog 37 1=some 1:=by kernel_rfl
theorem Ub:eF Tryz.prog 38=some 1:=by kernel_rfl
theorem Sa:cZ Tryz.prog 38=some false:=by kernel_rfl
theorem Tr:jp Tryz.prog 38=some 75:=by kernel_rfl
theorem Uc:eF Tryz.prog 39=some 1:=by kernel_rfl
theorem Sb:cZ Tryz.prog 39=some false:=by kernel_rfl
theorem Ts:jp Tryz.prog 39=some 5:=by kernel_rfl
theorem So:lB Tryz.prog 39=false:=by kernel_rfl
theorem Tj:pu Tryz.prog 39=true:=by kernel_rfl
theorem Ud:eF Tryz.prog 41=some 8:=by kernel_rfl
theorem Sc:cZ Tryz.prog 41=some true:=by kernel_rfl
theorem Qn:dl Tryz.prog 41=some [.slice none 0 0,.int .i64 0,.string ⟨#[]⟩,.slice none 0 0,.slice none 0 0,.int .i64 0,.slice none 0 0,.slice none 0 0]:=by kernel_rfl
theorem TF:dq Tryz.prog 41=some [(0,1),(1,1),(2,2),(4,1),(5,1),(6,1),(7,1)]:=by kernel_rfl
theorem LH:dg Tryz.prog 41 0=some 0:=by kernel_rfl
theorem LI:dg Tryz.prog 41 1=some 1:=by kernel_rfl
theorem LJ:dg Tryz.prog 41 2=some 2:=by kernel_rfl
theorem LK:dg Tryz.prog 41 3=some 4:=by kernel_rfl
theorem LL:dg Tryz.prog 41 4=some 5:=by kernel_rfl
theorem LM:dg Tryz.prog 41 5=some 6:=by kernel_rfl
theorem LN:dg Tryz.prog 41 6=some 7:=by kernel_rfl
theorem Ue:eF Tryz.prog 75=some 3:=by kernel_rfl
theorem Sd:cZ Tryz.prog 75=some true:=by kernel_rfl
theorem Qo:dl Tryz.prog 75=some [.int .i64 0,.string ⟨#[]⟩,.string ⟨#[]⟩]:=by kernel_rfl
theorem Tk:ju Tryz.prog 75=some 40:=by kernel_rfl
theorem TG:dq Tryz.prog 75=some [(0,1),(1,1),(2,1)]:=by kernel_rfl
theorem LO:dg Tryz.prog 75 0=some 0:=by kernel_rfl
theorem LP:dg Tryz.prog 75 1=some 1:=by kernel_rfl
theorem LQ:dg Tryz.prog 75 2=some 2:=by kernel_rfl
theorem Uf:eF Tryz.prog 77=some 3:=by kernel_rfl
theorem Se:cZ Tryz.prog 77=some true:=by kernel_rfl
theorem Qp:dl Tryz.prog 77=some [.int .i64 0,.bool false,.bool false]:=by kernel_rfl
theorem TH:dq Tryz.prog 77=some [(0,1),(1,1),(2,1)]:=by kernel_rfl
theorem LR:dg Tryz.prog 77 0=some 0:=by kernel_rfl
theorem LS:dg Tryz.prog 77 1=some 1:=by kernel_rfl
theorem LT:dg Tryz.prog 77 2=some 2:=by kernel_rfl
theorem Ug:eF Tryz.prog 79=some 15:=by kernel_rfl
theorem Sf:cZ Tryz.prog 79=some true:=by kernel_rfl
theorem Qq:dl Tryz.prog 79=some [.int .i64 0,.int .i64 0,.bool false,.bool false,.int .i64 0,.bool false,.bool false,.int .i64 0,.int .i64 0,.int .i64 0,.int .i64 0,.string ⟨#[]⟩,.string ⟨#[]⟩,.bool false,.int .i64 0]:=by kernel_rfl
theorem Tl:ju Tryz.prog 79=some 120:=by kernel_rfl
theorem TI:dq Tryz.prog 79=some [(0,1),(1,3),(4,3),(7,1),(8,1),(9,1),(10,3),(13,1),(14,1)]:=by kernel_rfl
theorem LU:dg Tryz.prog 79 0=some 0:=by kernel_rfl
theorem LW:dg Tryz.prog 79 1=some 1:=by kernel_rfl
theorem LX:dg Tryz.prog 79 2=some 4:=by kernel_rfl
theorem LY:dg Tryz.prog 79 3=some 7:=by kernel_rfl
theorem LZ:dg Tryz.prog 79 4=some 8:=by kernel_rfl
theorem L0:dg Tryz.prog 79 5=some 9:=by kernel_rfl
theorem Ma:dg Tryz.prog 79 6=some 10:=by kernel_rfl
theorem Mb:dg Tryz.prog 79 7=some 13:=by kernel_rfl
theorem Mc:dg Tryz.prog 79 8=some 14:=by kernel_rfl
theorem Qr:dl Tryz.prog 82=some [.string ⟨#[]⟩,.string ⟨#[]⟩]:=by kernel_rfl
theorem SQ:Tryz.prog.underlying 82=some (.array 2 9):=by kernel_rfl
theorem QX:wD Tryz.prog 82=some 1:=by kernel_rfl
theorem TJ:dq Tryz.prog 82=none:=by kernel_rfl
theorem Uh:eF Tryz.prog 85=some 1:=by kernel_rfl
theorem Qt:dl Tryz.prog 85=some [.int .i64 0]:=by kernel_rfl
theorem Tn:og Tryz.prog 85=true:=by kernel_rfl
theorem TK:dq Tryz.prog 85=some [(0,1)]:=by kernel_rfl
theorem Md:dg Tryz.prog 85 0=some 0:=by kernel_rfl
theorem Ui:eF Tryz.prog 86=some 1:=by kernel_rfl
theorem Sg:cZ Tryz.prog 86=some false:=by kernel_rfl
theorem Tt:jp Tryz.prog 86=some 137:=by kernel_rfl
theorem Uj:eF Tryz.prog 89=some 1:=by kernel_rfl
theorem Sh:cZ Tryz.prog 89=some false:=by kernel_rfl
theorem Qu:dl Tryz.prog 91=some [.slice none 0 0,.slice none 0 0,.int .i64 0,.string ⟨#[]⟩,.slice none 0 0,.slice none 0 0,.int .i64 0,.slice none 0 0,.slice none 0 0]:=by kernel_rfl
theorem TL:dq Tryz.prog 91=some [(0,1),(1,8)]:=by kernel_rfl
theorem Me:dg Tryz.prog 91 0=some 0:=by kernel_rfl
theorem Mf:dg Tryz.prog 91 1=some 1:=by kernel_rfl
theorem Rp:kT Tryz.prog 109=4:=by kernel_rfl
theorem Ss:eF Tryz.prog 130=some 9:=by kernel_rfl
theorem Nw:dl Tryz.prog 130=some [.string ⟨#[]⟩,.string ⟨#[]⟩,.string ⟨#[]⟩,.string ⟨#[]⟩,.string ⟨#[]⟩,.string ⟨#[]⟩,.string ⟨#[]⟩,.string ⟨#[]⟩,.string ⟨#[]⟩]:=by kernel_rfl
theorem Oi:wD Tryz.prog 130=some 1:=by kernel_rfl
theorem RJ:dq Tryz.prog 130=none:=by kernel_rfl
theorem Oe:vd Tryz.prog 130=some (9,1):=by kernel_rfl
theorem Su:eF Tryz.prog 135=some 1:=by kernel_rfl
theorem PA:cZ Tryz.prog 135=some false:=by kernel_rfl
theorem Lb:mo Tryz.prog 135=some .u64:=by kernel_rfl
theorem Sv:eF Tryz.prog 137=some 4:=by kernel_rfl
theorem PB:cZ Tryz.prog 137=some true:=by kernel_rfl
theorem Nx:dl Tryz.prog 137=some [.int .i64 0,.string ⟨#[]⟩,.int .u64 0,.int .i64 0]:=by kernel_rfl
theorem QZ:ju Tryz.prog 137=some 40:=by kernel_rfl
theorem RK:dq Tryz.prog 137=some [(0,1),(1,1),(2,1),(3,1)]:=by kernel_rfl
theorem IA:dg Tryz.prog 137 0=some 0:=by kernel_rfl
theorem IB:dg Tryz.prog 137 1=some 1:=by kernel_rfl
theorem IC:dg Tryz.prog 137 2=some 2:=by kernel_rfl
theorem ID:dg Tryz.prog 137 3=some 3:=by kernel_rfl
theorem Ny:dl Tryz.prog 144=some [.slice none 0 0]:=by kernel_rfl
theorem RM:dq Tryz.prog 144=some [(0,1)]:=by kernel_rfl
theorem IE:dg Tryz.prog 144 0=some 0:=by kernel_rfl
theorem PC:cZ Tryz.prog 150=some false:=by kernel_rfl
theorem Q7:jp Tryz.prog 154=some 3:=by kernel_rfl
theorem Lc:mo Tryz.prog 165=some .u64:=by kernel_rfl
theorem PV:lB Tryz.prog 167=true:=by kernel_rfl
theorem Sw:eF Tryz.prog 170=some 1:=by kernel_rfl
theorem Nz:dl Tryz.prog 170=some [.int .i64 0]:=by kernel_rfl
theorem Q2:og Tryz.prog 170=true:=by kernel_rfl
theorem RN:dq Tryz.prog 170=some [(0,1)]:=by kernel_rfl
theorem IF:dg Tryz.prog 170 0=some 0:=by kernel_rfl
theorem Q8:jp Tryz.prog 196=some 199:=by kernel_rfl
theorem PW:lB Tryz.prog 196=false:=by kernel_rfl
theorem Sx:eF Tryz.prog 199=some 2:=by kernel_rfl
theorem PD:cZ Tryz.prog 199=some true:=by kernel_rfl
theorem NA:dl Tryz.prog 199=some [.string ⟨#[]⟩,.int .i64 0]:=by kernel_rfl
theorem RP:dq Tryz.prog 199=some [(0,1),(1,1)]:=by kernel_rfl
theorem IG:dg Tryz.prog 199 0=some 0:=by kernel_rfl
theorem IH:dg Tryz.prog 199 1=some 1:=by kernel_rfl
theorem Sy:eF Tryz.prog 204=some 1:=by kernel_rfl
theorem PE:cZ Tryz.prog 204=some false:=by kernel_rfl
theorem Sz:eF Tryz.prog 206=some 2:=by kernel_rfl
theorem NB:dl Tryz.prog 206=some [.nilFunc,.int .i64 0]:=by kernel_rfl
theorem RQ:dq Tryz.prog 206=some [(0,1),(1,1)]:=by kernel_rfl
theorem II:dg Tryz.prog 206 0=some 0:=by kernel_rfl
theorem IJ:dg Tryz.prog 206 1=some 1:=by kernel_rfl
theorem SA:eF Tryz.prog 208=some 1:=by kernel_rfl
theorem PF:cZ Tryz.prog 208=some false:=by kernel_rfl
theorem NC:dl Tryz.prog 208=some [.slice none 0 0]:=by kernel_rfl
theorem Q9:jp Tryz.prog 208=some 242:=by kernel_rfl
theorem SB:eF Tryz.prog 227=some 5:=by kernel_rfl
theorem ND:dl Tryz.prog 227=some [.string ⟨#[]⟩,.string ⟨#[]⟩,.string ⟨#[]⟩,.string ⟨#[]⟩,.string ⟨#[]⟩]:=by kernel_rfl
theorem Oj:wD Tryz.prog 227=some 1:=by kernel_rfl
theorem RR:dq Tryz.prog 227=none:=by kernel_rfl
theorem Of:vd Tryz.prog 227=some (5,1):=by kernel_rfl
theorem SC:eF Tryz.prog 228=some 5:=by kernel_rfl
theorem NE:dl Tryz.prog 228=some [.int .i64 0,.int .i64 0,.int .i64 0,.int .i64 0,.int .i64 0]:=by kernel_rfl
theorem P4:Tryz.prog.underlying 228=some (.array 5 3):=by kernel_rfl
theorem Ok:wD Tryz.prog 228=some 1:=by kernel_rfl
theorem RS:dq Tryz.prog 228=none:=by kernel_rfl
theorem Og:vd Tryz.prog 228=some (5,1):=by kernel_rfl
theorem SD:eF Tryz.prog 236=some 1:=by kernel_rfl
theorem NF:dl Tryz.prog 236=some [.int .i64 0]:=by kernel_rfl
theorem Q3:og Tryz.prog 236=true:=by kernel_rfl
theorem RT:dq Tryz.prog 236=some [(0,1)]:=by kernel_rfl
theorem IK:dg Tryz.prog 236 0=some 0:=by kernel_rfl
theorem NG:dl Tryz.prog 239=some [.slice none 0 0,.int .i64 0,.int .i64 0,.slice none 0 0]:=by kernel_rfl
theorem RU:dq Tryz.prog 239=some [(0,1),(1,1),(2,1),(3,1)]:=by kernel_rfl
theorem IL:dg Tryz.prog 239 0=some 0:=by kernel_rfl
theorem IM:dg Tryz.prog 239 1=some 1:=by kernel_rfl
theorem IN:dg Tryz.prog 239 2=some 2:=by kernel_rfl
theorem zQ0:dg Tryz.prog 239 3=some 3:=by kernel_rfl
theorem SE:eF Tryz.prog 242=some 3:=by kernel_rfl
theorem PG:cZ Tryz.prog 242=some true:=by kernel_rfl
theorem NH:dl Tryz.prog 242=some [.int .i64 0,.int .i64 0,.string ⟨#[]⟩]:=by kernel_rfl
theorem Q0:ju Tryz.prog 242=some 32:=by kernel_rfl
theorem RV:dq Tryz.prog 242=some [(0,1),(1,1),(2,1)]:=by kernel_rfl
theorem SF:eF Tryz.prog 281=some 15:=by kernel_rfl
theorem NI:dl Tryz.prog 281=some [.string ⟨#[]⟩,.string ⟨#[]⟩,.string ⟨#[]⟩,.string ⟨#[]⟩,.string ⟨#[]⟩,.string ⟨#[]⟩,.string ⟨#[]⟩,.string ⟨#[]⟩,.string ⟨#[]⟩,.string ⟨#[]⟩,.string ⟨#[]⟩,.string ⟨#[]⟩,.string ⟨#[]⟩,.string ⟨#[]⟩,.string ⟨#[]⟩]:=by kernel_rfl
theorem Ol:wD Tryz.prog 281=some 1:=by kernel_rfl
theorem RW:dq Tryz.prog 281=none:=by kernel_rfl
theorem Oh:vd Tryz.prog 281=some (15,1):=by kernel_rfl
end Go.Proofs.YtnhbidpdadkcjaaGreatDoor
