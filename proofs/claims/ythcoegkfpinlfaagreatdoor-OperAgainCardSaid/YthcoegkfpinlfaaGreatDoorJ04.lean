import Derived.Test.YthcoegkfpinlfaaGreatDoorChecked
import Derived.Test.YthcoegkfpinlfaaGreatDoorJ03
set_option linter.unusedVariables false
set_option linter.unusedSimpArgs false
set_option maxRecDepth 100000
set_option maxHeartbeats 8000000
namespace Go.Proofs.YthcoegkfpinlfaaGreatDoor
theorem QZ:fo Tryz.prog 2=some 1:=by kernel_rfl
theorem O5:du Tryz.prog 2=some false:=by kernel_rfl
theorem Mz:dS Tryz.prog 2=some [.int .i64 0]:=by kernel_rfl
theorem Ky:mA Tryz.prog 2=some .i64:=by kernel_rfl
theorem Q0:fo Tryz.prog 3=some 1:=by kernel_rfl
theorem O6:du Tryz.prog 3=some false:=by kernel_rfl
theorem MA:dS Tryz.prog 3=some [.int .i64 0]:=by kernel_rfl
theorem Kz:mA Tryz.prog 3=some .i64:=by kernel_rfl
theorem Q1:fo Tryz.prog 4=some 1:=by kernel_rfl
theorem O7:du Tryz.prog 4=some false:=by kernel_rfl
theorem Q2:fo Tryz.prog 5=some 1:=by kernel_rfl
theorem O8:du Tryz.prog 5=some false:=by kernel_rfl
theorem MB:dS Tryz.prog 5=some [.int .u8 0]:=by kernel_rfl
theorem QF:jF Tryz.prog 5=some 1:=by kernel_rfl
theorem KA:mA Tryz.prog 5=some .u8:=by kernel_rfl
theorem Q3:fo Tryz.prog 9=some 1:=by kernel_rfl
theorem O9:du Tryz.prog 9=some false:=by kernel_rfl
theorem MC:dS Tryz.prog 9=some [.string ⟨#[]⟩]:=by kernel_rfl
theorem QG:jF Tryz.prog 9=some 16:=by kernel_rfl
theorem Pa:lQ Tryz.prog 9=true:=by kernel_rfl
theorem ya:kT Tryz.prog 20=4:=by kernel_rfl
theorem Pb:fo Tryz.prog 22=some 1:=by kernel_rfl
theorem LB:du Tryz.prog 22=some false:=by kernel_rfl
theorem Gn:dS Tryz.prog 22=some [.slice none 0 0]:=by kernel_rfl
theorem OQ:iQ Tryz.prog 22=some 38:=by kernel_rfl
theorem Pd:fo Tryz.prog 25=some 1:=by kernel_rfl
theorem LC:du Tryz.prog 25=some false:=by kernel_rfl
theorem Gp:dS Tryz.prog 25=some [.int .i64 0]:=by kernel_rfl
theorem Pe:fo Tryz.prog 28=some 1:=by kernel_rfl
theorem LD:du Tryz.prog 28=some false:=by kernel_rfl
theorem OR:iQ Tryz.prog 28=some 93:=by kernel_rfl
theorem Pf:fo Tryz.prog 34=some 3:=by kernel_rfl
theorem LI:du Tryz.prog 34=some true:=by kernel_rfl
theorem Gq:dS Tryz.prog 34=some [.int .i64 0,.bool false,.bool false]:=by kernel_rfl
theorem OW:fa Tryz.prog 34=some [(0,1),(1,1),(2,1)]:=by kernel_rfl
theorem BM:e9 Tryz.prog 34 0=some 0:=by kernel_rfl
theorem BN:e9 Tryz.prog 34 1=some 1:=by kernel_rfl
theorem BO:e9 Tryz.prog 34 2=some 2:=by kernel_rfl
theorem Pg:fo Tryz.prog 36=some 3:=by kernel_rfl
theorem LJ:du Tryz.prog 36=some true:=by kernel_rfl
theorem Gr:dS Tryz.prog 36=some [.int .i64 0,.string ⟨#[]⟩,.string ⟨#[]⟩]:=by kernel_rfl
theorem OX:fa Tryz.prog 36=some [(0,1),(1,1),(2,1)]:=by kernel_rfl
theorem BP:e9 Tryz.prog 36 0=some 0:=by kernel_rfl
theorem BQ:e9 Tryz.prog 36 1=some 1:=by kernel_rfl
theorem BR:e9 Tryz.prog 36 2=some 2:=by kernel_rfl
theorem Ph:fo Tryz.prog 38=some 15:=by kernel_rfl
theorem LK:du Tryz.prog 38=some true:=by kernel_rfl
theorem Gt:dS Tryz.prog 38=some [.int .i64 0,.int .i64 0,.bool false,.bool false,.int .i64 0,.bool false,.bool false,.int .i64 0,.int .i64 0,.int .i64 0,.int .i64 0,.string ⟨#[]⟩,.string ⟨#[]⟩,.bool false,.int .i64 0]:=by kernel_rfl
theorem ON:jF Tryz.prog 38=some 120:=by kernel_rfl
theorem OY:fa Tryz.prog 38=some [(0,1),(1,3),(4,3),(7,1),(8,1),(9,1),(10,3),(13,1),(14,1)]:=by kernel_rfl
theorem BS:e9 Tryz.prog 38 0=some 0:=by kernel_rfl
theorem BT:e9 Tryz.prog 38 1=some 1:=by kernel_rfl
theorem BU:e9 Tryz.prog 38 2=some 4:=by kernel_rfl
theorem BV:e9 Tryz.prog 38 3=some 7:=by kernel_rfl
theorem BW:e9 Tryz.prog 38 4=some 8:=by kernel_rfl
theorem BX:e9 Tryz.prog 38 5=some 9:=by kernel_rfl
theorem BY:e9 Tryz.prog 38 6=some 10:=by kernel_rfl
theorem BZ:e9 Tryz.prog 38 7=some 13:=by kernel_rfl
theorem B0:e9 Tryz.prog 38 8=some 14:=by kernel_rfl
theorem OS:iQ Tryz.prog 44=some 9:=by kernel_rfl
theorem Gu:dS Tryz.prog 61=some [.slice none 0 0]:=by kernel_rfl
theorem OZ:fa Tryz.prog 61=some [(0,1)]:=by kernel_rfl
theorem B2:e9 Tryz.prog 61 0=some 0:=by kernel_rfl
theorem OT:iQ Tryz.prog 82=some 5:=by kernel_rfl
theorem OM:oe Tryz.prog 82=true:=by kernel_rfl
theorem Pi:fo Tryz.prog 91=some 1:=by kernel_rfl
theorem LL:du Tryz.prog 91=some false:=by kernel_rfl
theorem FS:mA Tryz.prog 91=some .u64:=by kernel_rfl
theorem Pj:fo Tryz.prog 93=some 4:=by kernel_rfl
theorem LM:du Tryz.prog 93=some true:=by kernel_rfl
theorem Gv:dS Tryz.prog 93=some [.int .i64 0,.string ⟨#[]⟩,.int .u64 0,.int .i64 0]:=by kernel_rfl
theorem OO:jF Tryz.prog 93=some 40:=by kernel_rfl
theorem O0:fa Tryz.prog 93=some [(0,1),(1,1),(2,1),(3,1)]:=by kernel_rfl
theorem B3:e9 Tryz.prog 93 0=some 0:=by kernel_rfl
theorem B4:e9 Tryz.prog 93 1=some 1:=by kernel_rfl
theorem B5:e9 Tryz.prog 93 2=some 2:=by kernel_rfl
theorem B6:e9 Tryz.prog 93 3=some 3:=by kernel_rfl
theorem Pk:fo Tryz.prog 97=some 1:=by kernel_rfl
theorem Gw:dS Tryz.prog 97=some [.int .i64 0]:=by kernel_rfl
theorem OP:pz Tryz.prog 97=true:=by kernel_rfl
theorem O1:fa Tryz.prog 97=some [(0,1)]:=by kernel_rfl
theorem B7:e9 Tryz.prog 97 0=some 0:=by kernel_rfl
theorem J4:iQ Tryz.prog 103=some 106:=by kernel_rfl
theorem Ge:lQ Tryz.prog 103=false:=by kernel_rfl
theorem L5:fo Tryz.prog 106=some 2:=by kernel_rfl
theorem F7:du Tryz.prog 106=some true:=by kernel_rfl
theorem CS:dS Tryz.prog 106=some [.string ⟨#[]⟩,.int .i64 0]:=by kernel_rfl
theorem K7:fa Tryz.prog 106=some [(0,1),(1,1)]:=by kernel_rfl
theorem yl:e9 Tryz.prog 106 0=some 0:=by kernel_rfl
theorem ym:e9 Tryz.prog 106 1=some 1:=by kernel_rfl
theorem L6:fo Tryz.prog 145=some 5:=by kernel_rfl
theorem CT:dS Tryz.prog 145=some [.string ⟨#[]⟩,.string ⟨#[]⟩,.string ⟨#[]⟩,.string ⟨#[]⟩,.string ⟨#[]⟩]:=by kernel_rfl
theorem Fx:AG Tryz.prog 145=some 1:=by kernel_rfl
theorem K8:fa Tryz.prog 145=none:=by kernel_rfl
theorem Ft:zzu3 Tryz.prog 145=some (5,1):=by kernel_rfl
theorem L7:fo Tryz.prog 146=some 5:=by kernel_rfl
theorem CU:dS Tryz.prog 146=some [.int .i64 0,.int .i64 0,.int .i64 0,.int .i64 0,.int .i64 0]:=by kernel_rfl
theorem Gm:Tryz.prog.underlying 146=some (.array 5 3):=by kernel_rfl
theorem Fy:AG Tryz.prog 146=some 1:=by kernel_rfl
theorem K9:fa Tryz.prog 146=none:=by kernel_rfl
theorem Fu:zzu3 Tryz.prog 146=some (5,1):=by kernel_rfl
theorem L8:fo Tryz.prog 156=some 1:=by kernel_rfl
theorem F8:du Tryz.prog 156=some false:=by kernel_rfl
theorem CV:dS Tryz.prog 156=some [.slice none 0 0]:=by kernel_rfl
theorem J5:iQ Tryz.prog 156=some 183:=by kernel_rfl
theorem J6:iQ Tryz.prog 161=some 3:=by kernel_rfl
theorem L9:fo Tryz.prog 176=some 1:=by kernel_rfl
theorem CW:dS Tryz.prog 176=some [.int .i64 0]:=by kernel_rfl
theorem JD:pz Tryz.prog 176=true:=by kernel_rfl
theorem La:fa Tryz.prog 176=some [(0,1)]:=by kernel_rfl
theorem yn:e9 Tryz.prog 176 0=some 0:=by kernel_rfl
theorem CX:dS Tryz.prog 179=some [.slice none 0 0,.int .i64 0,.int .i64 0,.slice none 0 0]:=by kernel_rfl
theorem Lb:fa Tryz.prog 179=some [(0,1),(1,1),(2,1),(3,1)]:=by kernel_rfl
theorem yp:e9 Tryz.prog 179 0=some 0:=by kernel_rfl
theorem yq:e9 Tryz.prog 179 1=some 1:=by kernel_rfl
theorem yu:e9 Tryz.prog 179 2=some 2:=by kernel_rfl
theorem yv:e9 Tryz.prog 179 3=some 3:=by kernel_rfl
theorem Ma:fo Tryz.prog 183=some 3:=by kernel_rfl
theorem F9:du Tryz.prog 183=some true:=by kernel_rfl
theorem CY:dS Tryz.prog 183=some [.int .i64 0,.int .i64 0,.string ⟨#[]⟩]:=by kernel_rfl
theorem JC:jF Tryz.prog 183=some 32:=by kernel_rfl
theorem Lc:fa Tryz.prog 183=some [(0,1),(1,1),(2,1)]:=by kernel_rfl
theorem Mb:fo Tryz.prog 206=some 15:=by kernel_rfl
theorem CZ:dS Tryz.prog 206=some [.string ⟨#[]⟩,.string ⟨#[]⟩,.string ⟨#[]⟩,.string ⟨#[]⟩,.string ⟨#[]⟩,.string ⟨#[]⟩,.string ⟨#[]⟩,.string ⟨#[]⟩,.string ⟨#[]⟩,.string ⟨#[]⟩,.string ⟨#[]⟩,.string ⟨#[]⟩,.string ⟨#[]⟩,.string ⟨#[]⟩,.string ⟨#[]⟩]:=by kernel_rfl
theorem Fz:AG Tryz.prog 206=some 1:=by kernel_rfl
theorem Ld:fa Tryz.prog 206=none:=by kernel_rfl
theorem Fv:zzu3 Tryz.prog 206=some (15,1):=by kernel_rfl
end Go.Proofs.YthcoegkfpinlfaaGreatDoor
