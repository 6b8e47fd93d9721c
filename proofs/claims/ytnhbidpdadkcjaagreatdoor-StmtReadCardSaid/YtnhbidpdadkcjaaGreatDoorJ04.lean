import Derived.Test.YtnhbidpdadkcjaaGreatDoorChecked
import Derived.Test.YtnhbidpdadkcjaaGreatDoorJ03
set_option linter.unusedVariables false
set_option linter.unusedSimpArgs false
set_option maxRecDepth 100000
set_option maxHeartbeats 8000000
namespace Go.Proofs.YtnhbidpdadkcjaaGreatDoor
open Tryz
theorem Zo:dO prog 2=some 1:=by kernel_rfl
theorem Yl:cg prog 2=some false:=by kernel_rfl
theorem Xi:cz prog 2=some [.int .i64 0]:=by kernel_rfl
theorem Vw:lR prog 2=some .i64:=by kernel_rfl
theorem Zp:dO prog 3=some 1:=by kernel_rfl
theorem Ym:cg prog 3=some false:=by kernel_rfl
theorem Xj:cz prog 3=some [.int .i64 0]:=by kernel_rfl
theorem Vx:lR prog 3=some .i64:=by kernel_rfl
theorem Zq:dO prog 4=some 1:=by kernel_rfl
theorem Yn:cg prog 4=some false:=by kernel_rfl
theorem Zr:dO prog 5=some 1:=by kernel_rfl
theorem Yo:cg prog 5=some false:=by kernel_rfl
theorem Xk:cz prog 5=some [.int .u8 0]:=by kernel_rfl
theorem Y3:i8 prog 5=some 1:=by kernel_rfl
theorem Vy:lR prog 5=some .u8:=by kernel_rfl
theorem Zs:dO prog 9=some 1:=by kernel_rfl
theorem Yp:cg prog 9=some false:=by kernel_rfl
theorem Xl:cz prog 9=some [.string ⟨#[]⟩]:=by kernel_rfl
theorem Y4:i8 prog 9=some 16:=by kernel_rfl
theorem Yy:lh prog 9=true:=by kernel_rfl
theorem y3:kT prog 20=4:=by kernel_rfl
theorem YA:dO prog 27=some 1:=by kernel_rfl
theorem Wi:cg prog 27=some false:=by kernel_rfl
theorem Uv:cz prog 27=some [.int .i64 0]:=by kernel_rfl
theorem YB:dO prog 34=some 1:=by kernel_rfl
theorem Wj:cg prog 34=some false:=by kernel_rfl
theorem XJ:iL prog 34=some 9:=by kernel_rfl
theorem YC:dO prog 35=some 1:=by kernel_rfl
theorem Wl:cg prog 35=some false:=by kernel_rfl
theorem Uw:cz prog 35=some [.slice none 0 0]:=by kernel_rfl
theorem XK:iL prog 35=some 79:=by kernel_rfl
theorem YD:dO prog 37=some 2:=by kernel_rfl
theorem Ux:cz prog 37=some [.string ⟨#[]⟩,.slice none 0 0]:=by kernel_rfl
theorem X5:cv prog 37=some [(0,1),(1,1)]:=by kernel_rfl
theorem O5:cf prog 37 0=some 0:=by kernel_rfl
theorem O6:cf prog 37 1=some 1:=by kernel_rfl
theorem YE:dO prog 38=some 1:=by kernel_rfl
theorem Wm:cg prog 38=some false:=by kernel_rfl
theorem XL:iL prog 38=some 75:=by kernel_rfl
theorem YF:dO prog 39=some 1:=by kernel_rfl
theorem Wn:cg prog 39=some false:=by kernel_rfl
theorem XM:iL prog 39=some 5:=by kernel_rfl
theorem WE:lh prog 39=false:=by kernel_rfl
theorem Xy:py prog 39=true:=by kernel_rfl
theorem YG:dO prog 41=some 8:=by kernel_rfl
theorem Wo:cg prog 41=some true:=by kernel_rfl
theorem Uy:cz prog 41=some [.slice none 0 0,.int .i64 0,.string ⟨#[]⟩,.slice none 0 0,.slice none 0 0,.int .i64 0,.slice none 0 0,.slice none 0 0]:=by kernel_rfl
theorem X6:cv prog 41=some [(0,1),(1,1),(2,2),(4,1),(5,1),(6,1),(7,1)]:=by kernel_rfl
theorem O7:cf prog 41 0=some 0:=by kernel_rfl
theorem O8:cf prog 41 1=some 1:=by kernel_rfl
theorem O9:cf prog 41 2=some 2:=by kernel_rfl
theorem Pa:cf prog 41 3=some 4:=by kernel_rfl
theorem Pb:cf prog 41 4=some 5:=by kernel_rfl
theorem Pd:cf prog 41 5=some 6:=by kernel_rfl
theorem Pe:cf prog 41 6=some 7:=by kernel_rfl
theorem YH:dO prog 75=some 3:=by kernel_rfl
theorem Wp:cg prog 75=some true:=by kernel_rfl
theorem Uz:cz prog 75=some [.int .i64 0,.string ⟨#[]⟩,.string ⟨#[]⟩]:=by kernel_rfl
theorem Xz:i8 prog 75=some 40:=by kernel_rfl
theorem X7:cv prog 75=some [(0,1),(1,1),(2,1)]:=by kernel_rfl
theorem Pf:cf prog 75 0=some 0:=by kernel_rfl
theorem Pg:cf prog 75 1=some 1:=by kernel_rfl
theorem Ph:cf prog 75 2=some 2:=by kernel_rfl
theorem YI:dO prog 77=some 3:=by kernel_rfl
theorem Wq:cg prog 77=some true:=by kernel_rfl
theorem UA:cz prog 77=some [.int .i64 0,.bool false,.bool false]:=by kernel_rfl
theorem X8:cv prog 77=some [(0,1),(1,1),(2,1)]:=by kernel_rfl
theorem Pi:cf prog 77 0=some 0:=by kernel_rfl
theorem Pj:cf prog 77 1=some 1:=by kernel_rfl
theorem Pk:cf prog 77 2=some 2:=by kernel_rfl
theorem YJ:dO prog 79=some 15:=by kernel_rfl
theorem Wr:cg prog 79=some true:=by kernel_rfl
theorem UB:cz prog 79=some [.int .i64 0,.int .i64 0,.bool false,.bool false,.int .i64 0,.bool false,.bool false,.int .i64 0,.int .i64 0,.int .i64 0,.int .i64 0,.string ⟨#[]⟩,.string ⟨#[]⟩,.bool false,.int .i64 0]:=by kernel_rfl
theorem XA:i8 prog 79=some 120:=by kernel_rfl
theorem X9:cv prog 79=some [(0,1),(1,3),(4,3),(7,1),(8,1),(9,1),(10,3),(13,1),(14,1)]:=by kernel_rfl
theorem Pm:cf prog 79 0=some 0:=by kernel_rfl
theorem Pn:cf prog 79 1=some 1:=by kernel_rfl
theorem Po:cf prog 79 2=some 4:=by kernel_rfl
theorem Pp:cf prog 79 3=some 7:=by kernel_rfl
theorem Pq:cf prog 79 4=some 8:=by kernel_rfl
theorem Pr:cf prog 79 5=some 9:=by kernel_rfl
theorem Ps:cf prog 79 6=some 10:=by kernel_rfl
theorem Pt:cf prog 79 7=some 13:=by kernel_rfl
theorem Pv:cf prog 79 8=some 14:=by kernel_rfl
theorem UC:cz prog 82=some [.string ⟨#[]⟩,.string ⟨#[]⟩]:=by kernel_rfl
theorem Xa:Tryz.prog.underlying 82=some (.array 2 9):=by kernel_rfl
theorem U5:x4 prog 82=some 1:=by kernel_rfl
theorem Ya:cv prog 82=none:=by kernel_rfl
theorem YK:dO prog 85=some 1:=by kernel_rfl
theorem UD:cz prog 85=some [.int .i64 0]:=by kernel_rfl
theorem XB:nN prog 85=true:=by kernel_rfl
theorem Yb:cv prog 85=some [(0,1)]:=by kernel_rfl
theorem Pw:cf prog 85 0=some 0:=by kernel_rfl
theorem YL:dO prog 86=some 1:=by kernel_rfl
theorem Ws:cg prog 86=some false:=by kernel_rfl
theorem XN:iL prog 86=some 137:=by kernel_rfl
theorem YM:dO prog 89=some 1:=by kernel_rfl
theorem Wt:cg prog 89=some false:=by kernel_rfl
theorem UE:cz prog 91=some [.slice none 0 0,.slice none 0 0,.int .i64 0,.string ⟨#[]⟩,.slice none 0 0,.slice none 0 0,.int .i64 0,.slice none 0 0,.slice none 0 0]:=by kernel_rfl
theorem Yc:cv prog 91=some [(0,1),(1,8)]:=by kernel_rfl
theorem Px:cf prog 91 0=some 0:=by kernel_rfl
theorem Py:cf prog 91 1=some 1:=by kernel_rfl
theorem Vz:kT prog 109=4:=by kernel_rfl
theorem WH:dO prog 130=some 9:=by kernel_rfl
theorem Rj:cz prog 130=some [.string ⟨#[]⟩,.string ⟨#[]⟩,.string ⟨#[]⟩,.string ⟨#[]⟩,.string ⟨#[]⟩,.string ⟨#[]⟩,.string ⟨#[]⟩,.string ⟨#[]⟩,.string ⟨#[]⟩]:=by kernel_rfl
theorem Sb:x4 prog 130=some 1:=by kernel_rfl
theorem V0:cv prog 130=none:=by kernel_rfl
theorem R7:wn prog 130=some (9,1):=by kernel_rfl
theorem WI:dO prog 135=some 1:=by kernel_rfl
theorem TD:cg prog 135=some false:=by kernel_rfl
theorem OH:lR prog 135=some .u64:=by kernel_rfl
theorem WJ:dO prog 137=some 4:=by kernel_rfl
theorem TE:cg prog 137=some true:=by kernel_rfl
theorem Rk:cz prog 137=some [.int .i64 0,.string ⟨#[]⟩,.int .u64 0,.int .i64 0]:=by kernel_rfl
theorem Va:i8 prog 137=some 40:=by kernel_rfl
theorem V1:cv prog 137=some [(0,1),(1,1),(2,1),(3,1)]:=by kernel_rfl
theorem LJ:cf prog 137 0=some 0:=by kernel_rfl
theorem LK:cf prog 137 1=some 1:=by kernel_rfl
theorem LL:cf prog 137 2=some 2:=by kernel_rfl
theorem LM:cf prog 137 3=some 3:=by kernel_rfl
theorem Rl:cz prog 144=some [.slice none 0 0]:=by kernel_rfl
theorem V2:cv prog 144=some [(0,1)]:=by kernel_rfl
theorem LN:cf prog 144 0=some 0:=by kernel_rfl
theorem TF:cg prog 150=some false:=by kernel_rfl
theorem Vo:iL prog 154=some 3:=by kernel_rfl
theorem OI:lR prog 165=some .u64:=by kernel_rfl
theorem TW:lh prog 167=true:=by kernel_rfl
theorem WK:dO prog 170=some 1:=by kernel_rfl
theorem Rm:cz prog 170=some [.int .i64 0]:=by kernel_rfl
theorem Vd:nN prog 170=true:=by kernel_rfl
theorem V3:cv prog 170=some [(0,1)]:=by kernel_rfl
theorem LO:cf prog 170 0=some 0:=by kernel_rfl
theorem Vp:iL prog 176=some 179:=by kernel_rfl
theorem WL:dO prog 179=some 2:=by kernel_rfl
theorem Rn:cz prog 179=some [.string ⟨#[]⟩,.int .i64 0]:=by kernel_rfl
theorem V4:cv prog 179=some [(0,1),(1,1)]:=by kernel_rfl
theorem LP:cf prog 179 0=some 0:=by kernel_rfl
theorem LQ:cf prog 179 1=some 1:=by kernel_rfl
theorem Vq:iL prog 196=some 199:=by kernel_rfl
theorem TX:lh prog 196=false:=by kernel_rfl
theorem WM:dO prog 199=some 2:=by kernel_rfl
theorem TG:cg prog 199=some true:=by kernel_rfl
theorem Rp:cz prog 199=some [.string ⟨#[]⟩,.int .i64 0]:=by kernel_rfl
theorem V5:cv prog 199=some [(0,1),(1,1)]:=by kernel_rfl
theorem LR:cf prog 199 0=some 0:=by kernel_rfl
theorem LS:cf prog 199 1=some 1:=by kernel_rfl
theorem WN:dO prog 204=some 1:=by kernel_rfl
theorem TH:cg prog 204=some false:=by kernel_rfl
theorem WO:dO prog 206=some 2:=by kernel_rfl
theorem Rq:cz prog 206=some [.nilFunc,.int .i64 0]:=by kernel_rfl
theorem V6:cv prog 206=some [(0,1),(1,1)]:=by kernel_rfl
theorem LT:cf prog 206 0=some 0:=by kernel_rfl
theorem LU:cf prog 206 1=some 1:=by kernel_rfl
theorem WP:dO prog 208=some 1:=by kernel_rfl
theorem TI:cg prog 208=some false:=by kernel_rfl
theorem Rr:cz prog 208=some [.slice none 0 0]:=by kernel_rfl
theorem Vr:iL prog 208=some 242:=by kernel_rfl
theorem WQ:dO prog 227=some 5:=by kernel_rfl
theorem Rt:cz prog 227=some [.string ⟨#[]⟩,.string ⟨#[]⟩,.string ⟨#[]⟩,.string ⟨#[]⟩,.string ⟨#[]⟩]:=by kernel_rfl
theorem Sc:x4 prog 227=some 1:=by kernel_rfl
theorem V7:cv prog 227=none:=by kernel_rfl
theorem R8:wn prog 227=some (5,1):=by kernel_rfl
theorem WS:dO prog 228=some 5:=by kernel_rfl
theorem Ru:cz prog 228=some [.int .i64 0,.int .i64 0,.int .i64 0,.int .i64 0,.int .i64 0]:=by kernel_rfl
theorem Ub:Tryz.prog.underlying 228=some (.array 5 3):=by kernel_rfl
theorem Sd:x4 prog 228=some 1:=by kernel_rfl
theorem V8:cv prog 228=none:=by kernel_rfl
theorem R9:wn prog 228=some (5,1):=by kernel_rfl
theorem WT:dO prog 236=some 1:=by kernel_rfl
theorem Rv:cz prog 236=some [.int .i64 0]:=by kernel_rfl
theorem Ve:nN prog 236=true:=by kernel_rfl
theorem V9:cv prog 236=some [(0,1)]:=by kernel_rfl
theorem LW:cf prog 236 0=some 0:=by kernel_rfl
theorem Rw:cz prog 239=some [.slice none 0 0,.int .i64 0,.int .i64 0,.slice none 0 0]:=by kernel_rfl
theorem Wa:cv prog 239=some [(0,1),(1,1),(2,1),(3,1)]:=by kernel_rfl
theorem LX:cf prog 239 0=some 0:=by kernel_rfl
theorem LY:cf prog 239 1=some 1:=by kernel_rfl
theorem LZ:cf prog 239 2=some 2:=by kernel_rfl
theorem L0:cf prog 239 3=some 3:=by kernel_rfl
theorem WU:dO prog 242=some 3:=by kernel_rfl
theorem TJ:cg prog 242=some true:=by kernel_rfl
theorem Rx:cz prog 242=some [.int .i64 0,.int .i64 0,.string ⟨#[]⟩]:=by kernel_rfl
theorem Vb:i8 prog 242=some 32:=by kernel_rfl
theorem Wb:cv prog 242=some [(0,1),(1,1),(2,1)]:=by kernel_rfl
theorem WV:dO prog 281=some 15:=by kernel_rfl
theorem Ry:cz prog 281=some [.string ⟨#[]⟩,.string ⟨#[]⟩,.string ⟨#[]⟩,.string ⟨#[]⟩,.string ⟨#[]⟩,.string ⟨#[]⟩,.string ⟨#[]⟩,.string ⟨#[]⟩,.string ⟨#[]⟩,.string ⟨#[]⟩,.string ⟨#[]⟩,.string ⟨#[]⟩,.string ⟨#[]⟩,.string ⟨#[]⟩,.string ⟨#[]⟩]:=by kernel_rfl
theorem Se:x4 prog 281=some 1:=by kernel_rfl
theorem Wc:cv prog 281=none:=by kernel_rfl
theorem Sa:wn prog 281=some (15,1):=by kernel_rfl
end Go.Proofs.YtnhbidpdadkcjaaGreatDoor
