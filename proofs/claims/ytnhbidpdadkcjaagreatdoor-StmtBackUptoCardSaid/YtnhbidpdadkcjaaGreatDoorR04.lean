import Derived.Test.YtnhbidpdadkcjaaGreatDoorChecked
import Derived.Test.YtnhbidpdadkcjaaGreatDoorR03
set_option linter.unusedVariables false
set_option linter.unusedSimpArgs false
set_option maxRecDepth 100000
set_option maxHeartbeats 8000000
namespace Go.Proofs.YtnhbidpdadkcjaaGreatDoor
open Tryz
theorem ZC:dK prog 2=some 1:=by kernel_rfl
theorem Yu:co prog 2=some false:=by kernel_rfl
theorem Xq:ci prog 2=some [.int .i64 0]:=by kernel_rfl
theorem VA:lO prog 2=some .i64:=by kernel_rfl
theorem ZD:dK prog 3=some 1:=by kernel_rfl
theorem Yv:co prog 3=some false:=by kernel_rfl
theorem Xr:ci prog 3=some [.int .i64 0]:=by kernel_rfl
theorem VB:lO prog 3=some .i64:=by kernel_rfl
theorem ZE:dK prog 4=some 1:=by kernel_rfl
theorem Yw:co prog 4=some false:=by kernel_rfl
theorem ZF:dK prog 5=some 1:=by kernel_rfl
theorem Yx:co prog 5=some false:=by kernel_rfl
theorem Xt:ci prog 5=some [.int .u8 0]:=by kernel_rfl
theorem Zf:iX prog 5=some 1:=by kernel_rfl
theorem VC:lO prog 5=some .u8:=by kernel_rfl
theorem ZG:dK prog 9=some 1:=by kernel_rfl
theorem Yy:co prog 9=some false:=by kernel_rfl
theorem Xu:ci prog 9=some [.string ⟨#[]⟩]:=by kernel_rfl
theorem Zg:iX prog 9=some 16:=by kernel_rfl
theorem YJ:lf prog 9=true:=by kernel_rfl
theorem yR:kT prog 20=4:=by kernel_rfl
theorem YL:dK prog 27=some 1:=by kernel_rfl
theorem Wr:co prog 27=some false:=by kernel_rfl
theorem Uy:ci prog 27=some [.int .i64 0]:=by kernel_rfl
theorem YM:dK prog 34=some 1:=by kernel_rfl
theorem Ws:co prog 34=some false:=by kernel_rfl
theorem Uz:ci prog 34=some [.slice none 0 0]:=by kernel_rfl
theorem XR:io prog 34=some 9:=by kernel_rfl
theorem YN:dK prog 35=some 1:=by kernel_rfl
theorem Wt:co prog 35=some false:=by kernel_rfl
theorem UA:ci prog 35=some [.slice none 0 0]:=by kernel_rfl
theorem XS:io prog 35=some 79:=by kernel_rfl
theorem YO:dK prog 37=some 2:=by kernel_rfl
theorem UB:ci prog 37=some [.string ⟨#[]⟩,.slice none 0 0]:=by kernel_rfl
theorem Ye:cy prog 37=some [(0,1),(1,1)]:=by kernel_rfl
theorem O6:cj prog 37 0=some 0:=by kernel_rfl
theorem O7:cj prog 37 1=some 1:=by kernel_rfl
theorem YP:dK prog 38=some 1:=by kernel_rfl
theorem Wu:co prog 38=some false:=by kernel_rfl
theorem XT:io prog 38=some 75:=by kernel_rfl
theorem YQ:dK prog 39=some 1:=by kernel_rfl
theorem Wv:co prog 39=some false:=by kernel_rfl
theorem XU:io prog 39=some 5:=by kernel_rfl
theorem WM:lf prog 39=false:=by kernel_rfl
theorem XG:po prog 39=true:=by kernel_rfl
theorem YR:dK prog 41=some 8:=by kernel_rfl
theorem Ww:co prog 41=some true:=by kernel_rfl
theorem UC:ci prog 41=some [.slice none 0 0,.int .i64 0,.string ⟨#[]⟩,.slice none 0 0,.slice none 0 0,.int .i64 0,.slice none 0 0,.slice none 0 0]:=by kernel_rfl
theorem Yf:cy prog 41=some [(0,1),(1,1),(2,2),(4,1),(5,1),(6,1),(7,1)]:=by kernel_rfl
theorem O8:cj prog 41 0=some 0:=by kernel_rfl
theorem O9:cj prog 41 1=some 1:=by kernel_rfl
theorem Pa:cj prog 41 2=some 2:=by kernel_rfl
theorem Pb:cj prog 41 3=some 4:=by kernel_rfl
theorem Pd:cj prog 41 4=some 5:=by kernel_rfl
theorem Pe:cj prog 41 5=some 6:=by kernel_rfl
theorem Pf:cj prog 41 6=some 7:=by kernel_rfl
theorem XV:io prog 73=some 34:=by kernel_rfl
theorem YS:dK prog 75=some 3:=by kernel_rfl
theorem Wx:co prog 75=some true:=by kernel_rfl
theorem UD:ci prog 75=some [.int .i64 0,.string ⟨#[]⟩,.string ⟨#[]⟩]:=by kernel_rfl
theorem XH:iX prog 75=some 40:=by kernel_rfl
theorem Yg:cy prog 75=some [(0,1),(1,1),(2,1)]:=by kernel_rfl
theorem Pg:cj prog 75 0=some 0:=by kernel_rfl
theorem Ph:cj prog 75 1=some 1:=by kernel_rfl
theorem Pi:cj prog 75 2=some 2:=by kernel_rfl
theorem YT:dK prog 77=some 3:=by kernel_rfl
theorem Wy:co prog 77=some true:=by kernel_rfl
theorem UE:ci prog 77=some [.int .i64 0,.bool false,.bool false]:=by kernel_rfl
theorem Yh:cy prog 77=some [(0,1),(1,1),(2,1)]:=by kernel_rfl
theorem Pj:cj prog 77 0=some 0:=by kernel_rfl
theorem Pk:cj prog 77 1=some 1:=by kernel_rfl
theorem Pm:cj prog 77 2=some 2:=by kernel_rfl
theorem YU:dK prog 79=some 15:=by kernel_rfl
theorem Wz:co prog 79=some true:=by kernel_rfl
theorem UF:ci prog 79=some [.int .i64 0,.int .i64 0,.bool false,.bool false,.int .i64 0,.bool false,.bool false,.int .i64 0,.int .i64 0,.int .i64 0,.int .i64 0,.string ⟨#[]⟩,.string ⟨#[]⟩,.bool false,.int .i64 0]:=by kernel_rfl
theorem XI:iX prog 79=some 120:=by kernel_rfl
theorem Yi:cy prog 79=some [(0,1),(1,3),(4,3),(7,1),(8,1),(9,1),(10,3),(13,1),(14,1)]:=by kernel_rfl
theorem Pn:cj prog 79 0=some 0:=by kernel_rfl
theorem Po:cj prog 79 1=some 1:=by kernel_rfl
theorem Pp:cj prog 79 2=some 4:=by kernel_rfl
theorem Pq:cj prog 79 3=some 7:=by kernel_rfl
theorem Pr:cj prog 79 4=some 8:=by kernel_rfl
theorem Ps:cj prog 79 5=some 9:=by kernel_rfl
theorem Pt:cj prog 79 6=some 10:=by kernel_rfl
theorem Pv:cj prog 79 7=some 13:=by kernel_rfl
theorem Pw:cj prog 79 8=some 14:=by kernel_rfl
theorem UG:ci prog 82=some [.string ⟨#[]⟩,.string ⟨#[]⟩]:=by kernel_rfl
theorem Xj:Tryz.prog.underlying 82=some (.array 2 9):=by kernel_rfl
theorem U7:xP prog 82=some 1:=by kernel_rfl
theorem Yj:cy prog 82=none:=by kernel_rfl
theorem YV:dK prog 85=some 1:=by kernel_rfl
theorem UH:ci prog 85=some [.int .i64 0]:=by kernel_rfl
theorem XJ:nE prog 85=true:=by kernel_rfl
theorem Yk:cy prog 85=some [(0,1)]:=by kernel_rfl
theorem Px:cj prog 85 0=some 0:=by kernel_rfl
theorem YW:dK prog 86=some 1:=by kernel_rfl
theorem WA:co prog 86=some false:=by kernel_rfl
theorem XW:io prog 86=some 137:=by kernel_rfl
theorem YX:dK prog 89=some 1:=by kernel_rfl
theorem WB:co prog 89=some false:=by kernel_rfl
theorem UI:ci prog 91=some [.slice none 0 0,.slice none 0 0,.int .i64 0,.string ⟨#[]⟩,.slice none 0 0,.slice none 0 0,.int .i64 0,.slice none 0 0,.slice none 0 0]:=by kernel_rfl
theorem Yl:cy prog 91=some [(0,1),(1,8)]:=by kernel_rfl
theorem Py:cj prog 91 0=some 0:=by kernel_rfl
theorem Pz:cj prog 91 1=some 1:=by kernel_rfl
theorem VD:kT prog 109=4:=by kernel_rfl
theorem WP:dK prog 130=some 9:=by kernel_rfl
theorem Rj:ci prog 130=some [.string ⟨#[]⟩,.string ⟨#[]⟩,.string ⟨#[]⟩,.string ⟨#[]⟩,.string ⟨#[]⟩,.string ⟨#[]⟩,.string ⟨#[]⟩,.string ⟨#[]⟩,.string ⟨#[]⟩]:=by kernel_rfl
theorem Sb:xP prog 130=some 1:=by kernel_rfl
theorem V8:cy prog 130=none:=by kernel_rfl
theorem R7:vY prog 130=some (9,1):=by kernel_rfl
theorem WQ:dK prog 135=some 1:=by kernel_rfl
theorem TF:co prog 135=some false:=by kernel_rfl
theorem OJ:lO prog 135=some .u64:=by kernel_rfl
theorem WS:dK prog 137=some 4:=by kernel_rfl
theorem TG:co prog 137=some true:=by kernel_rfl
theorem Rk:ci prog 137=some [.int .i64 0,.string ⟨#[]⟩,.int .u64 0,.int .i64 0]:=by kernel_rfl
theorem Vc:iX prog 137=some 40:=by kernel_rfl
theorem V9:cy prog 137=some [(0,1),(1,1),(2,1),(3,1)]:=by kernel_rfl
theorem LR:cj prog 137 0=some 0:=by kernel_rfl
theorem LS:cj prog 137 1=some 1:=by kernel_rfl
theorem LT:cj prog 137 2=some 2:=by kernel_rfl
theorem LU:cj prog 137 3=some 3:=by kernel_rfl
theorem Rl:ci prog 144=some [.slice none 0 0]:=by kernel_rfl
theorem Wa:cy prog 144=some [(0,1)]:=by kernel_rfl
theorem LW:cj prog 144 0=some 0:=by kernel_rfl
theorem TH:co prog 150=some false:=by kernel_rfl
theorem Vr:io prog 154=some 3:=by kernel_rfl
theorem OK:lO prog 165=some .u64:=by kernel_rfl
theorem TY:lf prog 167=true:=by kernel_rfl
theorem WT:dK prog 170=some 1:=by kernel_rfl
theorem Rm:ci prog 170=some [.int .i64 0]:=by kernel_rfl
theorem Vg:nE prog 170=true:=by kernel_rfl
theorem Wb:cy prog 170=some [(0,1)]:=by kernel_rfl
theorem LX:cj prog 170 0=some 0:=by kernel_rfl
theorem Vs:io prog 176=some 179:=by kernel_rfl
theorem WU:dK prog 179=some 2:=by kernel_rfl
theorem Rn:ci prog 179=some [.string ⟨#[]⟩,.int .i64 0]:=by kernel_rfl
theorem Wc:cy prog 179=some [(0,1),(1,1)]:=by kernel_rfl
theorem LY:cj prog 179 0=some 0:=by kernel_rfl
theorem LZ:cj prog 179 1=some 1:=by kernel_rfl
theorem Vt:io prog 196=some 199:=by kernel_rfl
theorem TZ:lf prog 196=false:=by kernel_rfl
theorem WV:dK prog 199=some 2:=by kernel_rfl
theorem TI:co prog 199=some true:=by kernel_rfl
theorem Rp:ci prog 199=some [.string ⟨#[]⟩,.int .i64 0]:=by kernel_rfl
theorem Wd:cy prog 199=some [(0,1),(1,1)]:=by kernel_rfl
theorem L0:cj prog 199 0=some 0:=by kernel_rfl
theorem L1:cj prog 199 1=some 1:=by kernel_rfl
theorem WW:dK prog 204=some 1:=by kernel_rfl
theorem TJ:co prog 204=some false:=by kernel_rfl
theorem WX:dK prog 206=some 2:=by kernel_rfl
theorem Rq:ci prog 206=some [.nilFunc,.int .i64 0]:=by kernel_rfl
theorem We:cy prog 206=some [(0,1),(1,1)]:=by kernel_rfl
theorem L2:cj prog 206 0=some 0:=by kernel_rfl
theorem L3:cj prog 206 1=some 1:=by kernel_rfl
theorem WY:dK prog 208=some 1:=by kernel_rfl
theorem TK:co prog 208=some false:=by kernel_rfl
theorem Rr:ci prog 208=some [.slice none 0 0]:=by kernel_rfl
theorem Vu:io prog 208=some 242:=by kernel_rfl
theorem WZ:dK prog 227=some 5:=by kernel_rfl
theorem Rt:ci prog 227=some [.string ⟨#[]⟩,.string ⟨#[]⟩,.string ⟨#[]⟩,.string ⟨#[]⟩,.string ⟨#[]⟩]:=by kernel_rfl
theorem Sc:xP prog 227=some 1:=by kernel_rfl
theorem Wf:cy prog 227=none:=by kernel_rfl
theorem R8:vY prog 227=some (5,1):=by kernel_rfl
theorem W2:dK prog 228=some 5:=by kernel_rfl
theorem Ru:ci prog 228=some [.int .i64 0,.int .i64 0,.int .i64 0,.int .i64 0,.int .i64 0]:=by kernel_rfl
theorem Ue:Tryz.prog.underlying 228=some (.array 5 3):=by kernel_rfl
theorem Sd:xP prog 228=some 1:=by kernel_rfl
theorem Wg:cy prog 228=none:=by kernel_rfl
theorem R9:vY prog 228=some (5,1):=by kernel_rfl
theorem W4:dK prog 236=some 1:=by kernel_rfl
theorem Rv:ci prog 236=some [.int .i64 0]:=by kernel_rfl
theorem Vh:nE prog 236=true:=by kernel_rfl
theorem Wh:cy prog 236=some [(0,1)]:=by kernel_rfl
theorem L4:cj prog 236 0=some 0:=by kernel_rfl
theorem Rw:ci prog 239=some [.slice none 0 0,.int .i64 0,.int .i64 0,.slice none 0 0]:=by kernel_rfl
theorem Wi:cy prog 239=some [(0,1),(1,1),(2,1),(3,1)]:=by kernel_rfl
theorem L5:cj prog 239 0=some 0:=by kernel_rfl
theorem L6:cj prog 239 1=some 1:=by kernel_rfl
theorem L7:cj prog 239 2=some 2:=by kernel_rfl
theorem L8:cj prog 239 3=some 3:=by kernel_rfl
theorem W6:dK prog 242=some 3:=by kernel_rfl
theorem TL:co prog 242=some true:=by kernel_rfl
theorem Rx:ci prog 242=some [.int .i64 0,.int .i64 0,.string ⟨#[]⟩]:=by kernel_rfl
theorem Vd:iX prog 242=some 32:=by kernel_rfl
theorem Wj:cy prog 242=some [(0,1),(1,1),(2,1)]:=by kernel_rfl
theorem W7:dK prog 281=some 15:=by kernel_rfl
theorem Ry:ci prog 281=some [.string ⟨#[]⟩,.string ⟨#[]⟩,.string ⟨#[]⟩,.string ⟨#[]⟩,.string ⟨#[]⟩,.string ⟨#[]⟩,.string ⟨#[]⟩,.string ⟨#[]⟩,.string ⟨#[]⟩,.string ⟨#[]⟩,.string ⟨#[]⟩,.string ⟨#[]⟩,.string ⟨#[]⟩,.string ⟨#[]⟩,.string ⟨#[]⟩]:=by kernel_rfl
theorem Se:xP prog 281=some 1:=by kernel_rfl
theorem Wl:cy prog 281=none:=by kernel_rfl
theorem Sa:vY prog 281=some (15,1):=by kernel_rfl
end Go.Proofs.YtnhbidpdadkcjaaGreatDoor
