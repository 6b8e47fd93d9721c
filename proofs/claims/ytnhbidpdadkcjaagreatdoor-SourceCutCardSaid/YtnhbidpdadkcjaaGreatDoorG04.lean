import Derived.Test.YtnhbidpdadkcjaaGreatDoorChecked
import Derived.Test.YtnhbidpdadkcjaaGreatDoorG03
set_option linter.unusedVariables false
set_option linter.unusedSimpArgs false
set_option maxRecDepth 100000
set_option maxHeartbeats 8000000
namespace Go.Proofs.YtnhbidpdadkcjaaGreatDoor
open Tryz
theorem UT:cD prog 2=some 1:=by kernel_rfl
theorem TD:bA prog 2=some false:=by kernel_rfl
theorem Sq:bJ prog 2=some [.int .i64 0]:=by kernel_rfl
theorem Qr:km prog 2=some .i64:=by kernel_rfl
theorem UU:cD prog 3=some 1:=by kernel_rfl
theorem TE:bA prog 3=some false:=by kernel_rfl
theorem Sr:bJ prog 3=some [.int .i64 0]:=by kernel_rfl
theorem Qt:km prog 3=some .i64:=by kernel_rfl
theorem UV:cD prog 4=some 1:=by kernel_rfl
theorem TF:bA prog 4=some false:=by kernel_rfl
theorem UW:cD prog 5=some 1:=by kernel_rfl
theorem TG:bA prog 5=some false:=by kernel_rfl
theorem Ss:bJ prog 5=some [.int .u8 0]:=by kernel_rfl
theorem Uu:fc prog 5=some 1:=by kernel_rfl
theorem Qu:km prog 5=some .u8:=by kernel_rfl
theorem UX:cD prog 9=some 1:=by kernel_rfl
theorem TI:bA prog 9=some false:=by kernel_rfl
theorem Su:bJ prog 9=some [.string ⟨#[]⟩]:=by kernel_rfl
theorem Uv:fc prog 9=some 16:=by kernel_rfl
theorem TT:jL prog 9=true:=by kernel_rfl
theorem vH:kT prog 20=4:=by kernel_rfl
theorem TU:cD prog 25=some 1:=by kernel_rfl
theorem Rf:bA prog 25=some false:=by kernel_rfl
theorem Pk:bJ prog 25=some [.slice none 0 0]:=by kernel_rfl
theorem SX:fM prog 25=some 43:=by kernel_rfl
theorem Tc:kT prog 25=1:=by kernel_rfl
theorem TV:cD prog 26=some 1:=by kernel_rfl
theorem Rg:bA prog 26=some false:=by kernel_rfl
theorem Pm:bJ prog 26=some [.slice none 0 0]:=by kernel_rfl
theorem SY:fM prog 26=some 31:=by kernel_rfl
theorem TW:cD prog 27=some 1:=by kernel_rfl
theorem Rh:bA prog 27=some false:=by kernel_rfl
theorem Pn:bJ prog 27=some [.int .i64 0]:=by kernel_rfl
theorem TX:cD prog 31=some 3:=by kernel_rfl
theorem Ri:bA prog 31=some true:=by kernel_rfl
theorem Po:bJ prog 31=some [.int .i64 0,.int .i64 0,.int .i64 0]:=by kernel_rfl
theorem SN:fc prog 31=some 24:=by kernel_rfl
theorem Tp:bU prog 31=some [(0,1),(1,1),(2,1)]:=by kernel_rfl
theorem KN:bE prog 31 1=some 1:=by kernel_rfl
theorem TY:cD prog 34=some 1:=by kernel_rfl
theorem Rj:bA prog 34=some false:=by kernel_rfl
theorem SZ:fM prog 34=some 9:=by kernel_rfl
theorem TZ:cD prog 35=some 1:=by kernel_rfl
theorem Rk:bA prog 35=some false:=by kernel_rfl
theorem Pp:bJ prog 35=some [.slice none 0 0]:=by kernel_rfl
theorem S0:fM prog 35=some 79:=by kernel_rfl
theorem T0:cD prog 37=some 2:=by kernel_rfl
theorem Pq:bJ prog 37=some [.string ⟨#[]⟩,.slice none 0 0]:=by kernel_rfl
theorem Tq:bU prog 37=some [(0,1),(1,1)]:=by kernel_rfl
theorem KO:bE prog 37 0=some 0:=by kernel_rfl
theorem KP:bE prog 37 1=some 1:=by kernel_rfl
theorem T4:cD prog 38=some 1:=by kernel_rfl
theorem Rl:bA prog 38=some false:=by kernel_rfl
theorem S1:fM prog 38=some 75:=by kernel_rfl
theorem T5:cD prog 39=some 1:=by kernel_rfl
theorem Rm:bA prog 39=some false:=by kernel_rfl
theorem S3:fM prog 39=some 5:=by kernel_rfl
theorem RM:jL prog 39=false:=by kernel_rfl
theorem SM:ng prog 39=true:=by kernel_rfl
theorem T6:cD prog 41=some 8:=by kernel_rfl
theorem Rn:bA prog 41=some true:=by kernel_rfl
theorem Pr:bJ prog 41=some [.slice none 0 0,.int .i64 0,.string ⟨#[]⟩,.slice none 0 0,.slice none 0 0,.int .i64 0,.slice none 0 0,.slice none 0 0]:=by kernel_rfl
theorem Tr:bU prog 41=some [(0,1),(1,1),(2,2),(4,1),(5,1),(6,1),(7,1)]:=by kernel_rfl
theorem KQ:bE prog 41 0=some 0:=by kernel_rfl
theorem KR:bE prog 41 1=some 1:=by kernel_rfl
theorem KS:bE prog 41 2=some 2:=by kernel_rfl
theorem KT:bE prog 41 3=some 4:=by kernel_rfl
theorem KU:bE prog 41 4=some 5:=by kernel_rfl
theorem KV:bE prog 41 5=some 6:=by kernel_rfl
theorem KW:bE prog 41 6=some 7:=by kernel_rfl
theorem T7:cD prog 43=some 9:=by kernel_rfl
theorem Ps:bJ prog 43=some [.int .i64 0,.slice none 0 0,.int .i64 0,.string ⟨#[]⟩,.slice none 0 0,.slice none 0 0,.int .i64 0,.slice none 0 0,.slice none 0 0]:=by kernel_rfl
theorem SO:fc prog 43=some 160:=by kernel_rfl
theorem Ts:bU prog 43=some [(0,1),(1,8)]:=by kernel_rfl
theorem KX:bE prog 43 0=some 0:=by kernel_rfl
theorem KY:bE prog 43 1=some 1:=by kernel_rfl
theorem T8:cD prog 75=some 3:=by kernel_rfl
theorem Rp:bA prog 75=some true:=by kernel_rfl
theorem Pt:bJ prog 75=some [.int .i64 0,.string ⟨#[]⟩,.string ⟨#[]⟩]:=by kernel_rfl
theorem SP:fc prog 75=some 40:=by kernel_rfl
theorem Tt:bU prog 75=some [(0,1),(1,1),(2,1)]:=by kernel_rfl
theorem KZ:bE prog 75 0=some 0:=by kernel_rfl
theorem K0:bE prog 75 1=some 1:=by kernel_rfl
theorem K1:bE prog 75 2=some 2:=by kernel_rfl
theorem T9:cD prog 77=some 3:=by kernel_rfl
theorem Rq:bA prog 77=some true:=by kernel_rfl
theorem Pv:bJ prog 77=some [.int .i64 0,.bool false,.bool false]:=by kernel_rfl
theorem Tu:bU prog 77=some [(0,1),(1,1),(2,1)]:=by kernel_rfl
theorem K2:bE prog 77 0=some 0:=by kernel_rfl
theorem K3:bE prog 77 1=some 1:=by kernel_rfl
theorem K4:bE prog 77 2=some 2:=by kernel_rfl
theorem Ua:cD prog 79=some 15:=by kernel_rfl
theorem Rr:bA prog 79=some true:=by kernel_rfl
theorem Pw:bJ prog 79=some [.int .i64 0,.int .i64 0,.bool false,.bool false,.int .i64 0,.bool false,.bool false,.int .i64 0,.int .i64 0,.int .i64 0,.int .i64 0,.string ⟨#[]⟩,.string ⟨#[]⟩,.bool false,.int .i64 0]:=by kernel_rfl
theorem SQ:fc prog 79=some 120:=by kernel_rfl
theorem Tv:bU prog 79=some [(0,1),(1,3),(4,3),(7,1),(8,1),(9,1),(10,3),(13,1),(14,1)]:=by kernel_rfl
theorem K5:bE prog 79 0=some 0:=by kernel_rfl
theorem K6:bE prog 79 1=some 1:=by kernel_rfl
theorem K7:bE prog 79 2=some 4:=by kernel_rfl
theorem K8:bE prog 79 3=some 7:=by kernel_rfl
theorem K9:bE prog 79 4=some 8:=by kernel_rfl
theorem La:bE prog 79 5=some 9:=by kernel_rfl
theorem Lb:bE prog 79 6=some 10:=by kernel_rfl
theorem Lc:bE prog 79 7=some 13:=by kernel_rfl
theorem Ld:bE prog 79 8=some 14:=by kernel_rfl
theorem Ub:cD prog 85=some 1:=by kernel_rfl
theorem Px:bJ prog 85=some [.int .i64 0]:=by kernel_rfl
theorem SR:lU prog 85=true:=by kernel_rfl
theorem Tw:bU prog 85=some [(0,1)]:=by kernel_rfl
theorem Le:bE prog 85 0=some 0:=by kernel_rfl
theorem Uc:cD prog 86=some 1:=by kernel_rfl
theorem Rt:bA prog 86=some false:=by kernel_rfl
theorem S4:fM prog 86=some 137:=by kernel_rfl
theorem Ud:cD prog 89=some 1:=by kernel_rfl
theorem Ru:bA prog 89=some false:=by kernel_rfl
theorem Py:bJ prog 91=some [.slice none 0 0,.slice none 0 0,.int .i64 0,.string ⟨#[]⟩,.slice none 0 0,.slice none 0 0,.int .i64 0,.slice none 0 0,.slice none 0 0]:=by kernel_rfl
theorem Tx:bU prog 91=some [(0,1),(1,8)]:=by kernel_rfl
theorem Lf:bE prog 91 0=some 0:=by kernel_rfl
theorem Lg:bE prog 91 1=some 1:=by kernel_rfl
theorem Qv:kT prog 109=4:=by kernel_rfl
theorem RP:cD prog 135=some 1:=by kernel_rfl
theorem Ox:bA prog 135=some false:=by kernel_rfl
theorem Kq:km prog 135=some .u64:=by kernel_rfl
theorem RQ:cD prog 137=some 4:=by kernel_rfl
theorem Oy:bA prog 137=some true:=by kernel_rfl
theorem MH:bJ prog 137=some [.int .i64 0,.string ⟨#[]⟩,.int .u64 0,.int .i64 0]:=by kernel_rfl
theorem P6:fc prog 137=some 40:=by kernel_rfl
theorem QY:bU prog 137=some [(0,1),(1,1),(2,1),(3,1)]:=by kernel_rfl
theorem HH:bE prog 137 0=some 0:=by kernel_rfl
theorem HI:bE prog 137 1=some 1:=by kernel_rfl
theorem HJ:bE prog 137 2=some 2:=by kernel_rfl
theorem HM:bE prog 137 3=some 3:=by kernel_rfl
theorem MI:bJ prog 144=some [.slice none 0 0]:=by kernel_rfl
theorem QZ:bU prog 144=some [(0,1)]:=by kernel_rfl
theorem HN:bE prog 144 0=some 0:=by kernel_rfl
theorem Oz:bA prog 150=some false:=by kernel_rfl
theorem Qj:fM prog 154=some 3:=by kernel_rfl
theorem Kr:km prog 165=some .u64:=by kernel_rfl
theorem OS:jL prog 167=true:=by kernel_rfl
theorem RR:cD prog 170=some 1:=by kernel_rfl
theorem MJ:bJ prog 170=some [.int .i64 0]:=by kernel_rfl
theorem P9:lU prog 170=true:=by kernel_rfl
theorem Q0:bU prog 170=some [(0,1)]:=by kernel_rfl
theorem HO:bE prog 170 0=some 0:=by kernel_rfl
theorem Qk:fM prog 196=some 199:=by kernel_rfl
theorem OT:jL prog 196=false:=by kernel_rfl
theorem RS:cD prog 199=some 2:=by kernel_rfl
theorem OA:bA prog 199=some true:=by kernel_rfl
theorem MK:bJ prog 199=some [.string ⟨#[]⟩,.int .i64 0]:=by kernel_rfl
theorem Q1:bU prog 199=some [(0,1),(1,1)]:=by kernel_rfl
theorem HP:bE prog 199 0=some 0:=by kernel_rfl
theorem HR:bE prog 199 1=some 1:=by kernel_rfl
theorem RU:cD prog 204=some 1:=by kernel_rfl
theorem OB:bA prog 204=some false:=by kernel_rfl
theorem RV:cD prog 206=some 2:=by kernel_rfl
theorem ML:bJ prog 206=some [.nilFunc,.int .i64 0]:=by kernel_rfl
theorem Q2:bU prog 206=some [(0,1),(1,1)]:=by kernel_rfl
theorem HV:bE prog 206 0=some 0:=by kernel_rfl
theorem HY:bE prog 206 1=some 1:=by kernel_rfl
theorem RW:cD prog 208=some 1:=by kernel_rfl
theorem OC:bA prog 208=some false:=by kernel_rfl
theorem MM:bJ prog 208=some [.slice none 0 0]:=by kernel_rfl
theorem Ql:fM prog 208=some 242:=by kernel_rfl
theorem RX:cD prog 227=some 5:=by kernel_rfl
theorem MN:bJ prog 227=some [.string ⟨#[]⟩,.string ⟨#[]⟩,.string ⟨#[]⟩,.string ⟨#[]⟩,.string ⟨#[]⟩]:=by kernel_rfl
theorem Nn:At prog 227=some 1:=by kernel_rfl
theorem Q3:bU prog 227=none:=by kernel_rfl
theorem Nk:uN prog 227=some (5,1):=by kernel_rfl
theorem RY:cD prog 228=some 5:=by kernel_rfl
theorem MO:bJ prog 228=some [.int .i64 0,.int .i64 0,.int .i64 0,.int .i64 0,.int .i64 0]:=by kernel_rfl
theorem O3:Tryz.prog.underlying 228=some (.array 5 3):=by kernel_rfl
theorem Np:At prog 228=some 1:=by kernel_rfl
theorem Q4:bU prog 228=none:=by kernel_rfl
theorem Nl:uN prog 228=some (5,1):=by kernel_rfl
theorem RZ:cD prog 236=some 1:=by kernel_rfl
theorem MP:bJ prog 236=some [.int .i64 0]:=by kernel_rfl
theorem Qa:lU prog 236=true:=by kernel_rfl
theorem Q5:bU prog 236=some [(0,1)]:=by kernel_rfl
theorem H6:bE prog 236 0=some 0:=by kernel_rfl
theorem MQ:bJ prog 239=some [.slice none 0 0,.int .i64 0,.int .i64 0,.slice none 0 0]:=by kernel_rfl
theorem Q6:bU prog 239=some [(0,1),(1,1),(2,1),(3,1)]:=by kernel_rfl
theorem H7:bE prog 239 0=some 0:=by kernel_rfl
theorem H8:bE prog 239 1=some 1:=by kernel_rfl
theorem H9:bE prog 239 2=some 2:=by kernel_rfl
theorem Ia:bE prog 239 3=some 3:=by kernel_rfl
theorem R6:cD prog 242=some 3:=by kernel_rfl
theorem OD:bA prog 242=some true:=by kernel_rfl
theorem MR:bJ prog 242=some [.int .i64 0,.int .i64 0,.string ⟨#[]⟩]:=by kernel_rfl
theorem P7:fc prog 242=some 32:=by kernel_rfl
theorem Q7:bU prog 242=some [(0,1),(1,1),(2,1)]:=by kernel_rfl
theorem R7:cD prog 281=some 15:=by kernel_rfl
theorem MS:bJ prog 281=some [.string ⟨#[]⟩,.string ⟨#[]⟩,.string ⟨#[]⟩,.string ⟨#[]⟩,.string ⟨#[]⟩,.string ⟨#[]⟩,.string ⟨#[]⟩,.string ⟨#[]⟩,.string ⟨#[]⟩,.string ⟨#[]⟩,.string ⟨#[]⟩,.string ⟨#[]⟩,.string ⟨#[]⟩,.string ⟨#[]⟩,.string ⟨#[]⟩]:=by kernel_rfl
theorem Nq:At prog 281=some 1:=by kernel_rfl
theorem Q8:bU prog 281=none:=by kernel_rfl
theorem Nm:uN prog 281=some (15,1):=by kernel_rfl
end Go.Proofs.YtnhbidpdadkcjaaGreatDoor
