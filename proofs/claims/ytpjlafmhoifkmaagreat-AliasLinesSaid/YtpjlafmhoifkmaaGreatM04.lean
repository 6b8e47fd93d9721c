import Derived.Test.YtpjlafmhoifkmaaGreatChecked
import Derived.Test.YtpjlafmhoifkmaaGreatM03
set_option linter.unusedVariables false
set_option linter.unusedSimpArgs false
set_option maxRecDepth 100000
set_option maxHeartbeats 8000000
namespace Go.Proofs.YtpjlafmhoifkmaaGreat
theorem sz_1:eR Tryz.prog 1=some 1:=by kernel_rfl
theorem Ow:dh Tryz.prog 1=some false:=by kernel_rfl
theorem sz_2:eR Tryz.prog 2=some 1:=by kernel_rfl
theorem OE:dh Tryz.prog 2=some false:=by kernel_rfl
theorem MU:dY Tryz.prog 2=some [.int .i64 0]:=by kernel_rfl
theorem L9:kf Tryz.prog 2=some .i64:=by kernel_rfl
theorem sz_3:eR Tryz.prog 3=some 1:=by kernel_rfl
theorem OB:dh Tryz.prog 3=some false:=by kernel_rfl
theorem NE:dY Tryz.prog 3=some [.int .i64 0]:=by kernel_rfl
theorem by_3:jR Tryz.prog 3=some 8:=by kernel_rfl
theorem Ny:kf Tryz.prog 3=some .i64:=by kernel_rfl
theorem kt_3:kT Tryz.prog 3=0:=by kernel_rfl
theorem sz_4:eR Tryz.prog 4=some 1:=by kernel_rfl
theorem N2:dh Tryz.prog 4=some false:=by kernel_rfl
theorem sz_9:eR Tryz.prog 9=some 1:=by kernel_rfl
theorem O0:dh Tryz.prog 9=some false:=by kernel_rfl
theorem MD:dY Tryz.prog 9=some [.string ⟨#[]⟩]:=by kernel_rfl
theorem Qi:jQ Tryz.prog 9=true:=by kernel_rfl
theorem OP:eR Tryz.prog 23=some 3:=by kernel_rfl
theorem MT:dh Tryz.prog 23=some true:=by kernel_rfl
theorem JY:dY Tryz.prog 23=some [.int .i64 0,.bool false,.bool false]:=by kernel_rfl
theorem Pn:fm Tryz.prog 23=some [(0,1),(1,1),(2,1)]:=by kernel_rfl
theorem Fs:dU Tryz.prog 23 0=some 0:=by kernel_rfl
theorem DU:dU Tryz.prog 23 1=some 1:=by kernel_rfl
theorem Eh:dU Tryz.prog 23 2=some 2:=by kernel_rfl
theorem P7:eR Tryz.prog 24=some 1:=by kernel_rfl
theorem M6:dh Tryz.prog 24=some false:=by kernel_rfl
theorem HK:kf Tryz.prog 24=some .u64:=by kernel_rfl
theorem OS:eR Tryz.prog 27=some 10:=by kernel_rfl
theorem LJ:dh Tryz.prog 27=some true:=by kernel_rfl
theorem HQ:dY Tryz.prog 27=some [.int .i64 0,.bool false,.bool false,.int .i64 0,.int .i64 0,.int .i64 0,.int .i64 0,.int .i64 0,.int .i64 0,.int .i64 0]:=by kernel_rfl
theorem Qu:fm Tryz.prog 27=some [(0,1),(1,1),(2,1),(3,1),(4,1),(5,1),(6,1),(7,1),(8,1),(9,1)]:=by kernel_rfl
theorem G2:dU Tryz.prog 27 0=some 0:=by kernel_rfl
theorem GS:dU Tryz.prog 27 1=some 1:=by kernel_rfl
theorem FJ:dU Tryz.prog 27 2=some 2:=by kernel_rfl
theorem Fm:dU Tryz.prog 27 3=some 3:=by kernel_rfl
theorem F7:dU Tryz.prog 27 4=some 4:=by kernel_rfl
theorem C7:dU Tryz.prog 27 5=some 5:=by kernel_rfl
theorem G6:dU Tryz.prog 27 6=some 6:=by kernel_rfl
theorem Gm:dU Tryz.prog 27 7=some 7:=by kernel_rfl
theorem Dp:dU Tryz.prog 27 8=some 8:=by kernel_rfl
theorem EG:dU Tryz.prog 27 9=some 9:=by kernel_rfl
theorem On:eR Tryz.prog 28=some 1:=by kernel_rfl
theorem MW:dh Tryz.prog 28=some false:=by kernel_rfl
theorem JL:dY Tryz.prog 28=some [.int .i64 0]:=by kernel_rfl
theorem QS:eR Tryz.prog 31=some 1:=by kernel_rfl
theorem Ln:dh Tryz.prog 31=some false:=by kernel_rfl
theorem Rk:gM Tryz.prog 31=some 40:=by kernel_rfl
theorem OV:eR Tryz.prog 33=some 2:=by kernel_rfl
theorem K9:dh Tryz.prog 33=some true:=by kernel_rfl
theorem H6:dY Tryz.prog 33=some [.string ⟨#[]⟩,.slice none 0 0]:=by kernel_rfl
theorem O6:fm Tryz.prog 33=some [(0,1),(1,1)]:=by kernel_rfl
theorem EF:dU Tryz.prog 33 0=some 0:=by kernel_rfl
theorem FT:Ao Tryz.prog 33 0=some (0,1,false):=by kernel_rfl
theorem Ec:dU Tryz.prog 33 1=some 1:=by kernel_rfl
theorem HY:dY Tryz.prog 38=some [.int .i64 0,.string ⟨#[]⟩,.string ⟨#[]⟩]:=by kernel_rfl
theorem NW:fm Tryz.prog 38=some [(0,1),(1,1),(2,1)]:=by kernel_rfl
theorem GA:dU Tryz.prog 38 0=some 0:=by kernel_rfl
theorem Qv:eR Tryz.prog 40=some 15:=by kernel_rfl
theorem My:dh Tryz.prog 40=some true:=by kernel_rfl
theorem Ja:dY Tryz.prog 40=some [.int .i64 0,.int .i64 0,.bool false,.bool false,.int .i64 0,.bool false,.bool false,.int .i64 0,.int .i64 0,.int .i64 0,.int .i64 0,.string ⟨#[]⟩,.string ⟨#[]⟩,.bool false,.int .i64 0]:=by kernel_rfl
theorem Qz:jR Tryz.prog 40=some 120:=by kernel_rfl
theorem Qq:fm Tryz.prog 40=some [(0,1),(1,3),(4,3),(7,1),(8,1),(9,1),(10,3),(13,1),(14,1)]:=by kernel_rfl
theorem Gt:dU Tryz.prog 40 2=some 4:=by kernel_rfl
theorem EX:dU Tryz.prog 40 3=some 7:=by kernel_rfl
theorem C6:dU Tryz.prog 40 4=some 8:=by kernel_rfl
theorem E9:dU Tryz.prog 40 6=some 10:=by kernel_rfl
theorem Fr:dU Tryz.prog 40 8=some 14:=by kernel_rfl
theorem J4:kf Tryz.prog 65=some .u64:=by kernel_rfl
theorem P4:eR Tryz.prog 66=some 1:=by kernel_rfl
theorem Mb:dh Tryz.prog 66=some false:=by kernel_rfl
theorem Jz:dY Tryz.prog 66=some [.pointer none]:=by kernel_rfl
theorem JQ:dY Tryz.prog 68=some [.int .i64 0,.bool false,.bool false,.int .i64 0,.int .i64 0,.int .i64 0,.int .i64 0,.int .i64 0,.int .i64 0,.int .i64 0,.string ⟨#[]⟩,.slice none 0 0]:=by kernel_rfl
theorem Qm:fm Tryz.prog 68=some [(0,10),(10,2)]:=by kernel_rfl
theorem FA:dU Tryz.prog 68 0=some 0:=by kernel_rfl
theorem ES:dU Tryz.prog 68 1=some 10:=by kernel_rfl
theorem PQ:eR Tryz.prog 70=some 1:=by kernel_rfl
theorem LW:dh Tryz.prog 70=some false:=by kernel_rfl
theorem P2:gM Tryz.prog 70=some 75:=by kernel_rfl
theorem NF:jQ Tryz.prog 70=false:=by kernel_rfl
theorem NV:kT Tryz.prog 70=1:=by kernel_rfl
theorem KD:eR Tryz.prog 75=some 3:=by kernel_rfl
theorem LI:dh Tryz.prog 75=some true:=by kernel_rfl
theorem zR:dY Tryz.prog 75=some [.int .i64 0,.int .i64 0,.int .i64 0]:=by kernel_rfl
theorem NX:jR Tryz.prog 75=some 24:=by kernel_rfl
theorem Ob:fm Tryz.prog 75=some [(0,1),(1,1),(2,1)]:=by kernel_rfl
theorem ER:dU Tryz.prog 75 0=some 0:=by kernel_rfl
theorem EY:dU Tryz.prog 75 1=some 1:=by kernel_rfl
theorem EB:dU Tryz.prog 75 2=some 2:=by kernel_rfl
theorem PZ:gM Tryz.prog 77=some 9:=by kernel_rfl
theorem O7:eR Tryz.prog 91=some 3:=by kernel_rfl
theorem Nf:dh Tryz.prog 91=some true:=by kernel_rfl
theorem J9:dY Tryz.prog 91=some [.int .i64 0,.int .i64 0,.int .i64 0]:=by kernel_rfl
theorem PH:fm Tryz.prog 91=some [(0,1),(1,1),(2,1)]:=by kernel_rfl
theorem DF:dU Tryz.prog 91 0=some 0:=by kernel_rfl
theorem DX:dU Tryz.prog 91 1=some 1:=by kernel_rfl
theorem Fy:dU Tryz.prog 91 2=some 2:=by kernel_rfl
theorem Oc:gM Tryz.prog 98=some 1:=by kernel_rfl
theorem LX:gM Tryz.prog 108=some 111:=by kernel_rfl
theorem Nb:eR Tryz.prog 111=some 2:=by kernel_rfl
theorem DI:dY Tryz.prog 111=some [.string ⟨#[]⟩,.int .i64 0]:=by kernel_rfl
theorem MP:fm Tryz.prog 111=some [(0,1),(1,1)]:=by kernel_rfl
theorem Cp:dU Tryz.prog 111 0=some 0:=by kernel_rfl
theorem B0:dU Tryz.prog 111 1=some 1:=by kernel_rfl
theorem Nt:gM Tryz.prog 118=some 2:=by kernel_rfl
theorem Lh:gM Tryz.prog 123=some 126:=by kernel_rfl
theorem MB:eR Tryz.prog 126=some 2:=by kernel_rfl
theorem HJ:dh Tryz.prog 126=some true:=by kernel_rfl
theorem G9:dY Tryz.prog 126=some [.string ⟨#[]⟩,.int .i64 0]:=by kernel_rfl
theorem K1:fm Tryz.prog 126=some [(0,1),(1,1)]:=by kernel_rfl
theorem CK:dU Tryz.prog 126 0=some 0:=by kernel_rfl
theorem B3:dU Tryz.prog 126 1=some 1:=by kernel_rfl
theorem L3:eR Tryz.prog 128=some 2:=by kernel_rfl
theorem HG:dh Tryz.prog 128=some true:=by kernel_rfl
theorem Db:dY Tryz.prog 128=some [.int .i64 0,.int .i64 0]:=by kernel_rfl
theorem Ig:Ac Tryz.prog 128=some 1:=by kernel_rfl
theorem Mn:fm Tryz.prog 128=none:=by kernel_rfl
theorem J5:vy Tryz.prog 128=some (2,1):=by kernel_rfl
theorem EN:dY Tryz.prog 129=some [.int .i64 0,.int .i64 0,.int .i64 0,.int .i64 0,.int .i64 0,.int .i64 0,.int .i64 0,.int .i64 0]:=by kernel_rfl
theorem IC:Tryz.prog.underlying 129=some (.array 4 128):=by kernel_rfl
theorem Is:Ac Tryz.prog 129=some 2:=by kernel_rfl
theorem MN:fm Tryz.prog 129=none:=by kernel_rfl
theorem ML:gM Tryz.prog 131=some 3:=by kernel_rfl
end Go.Proofs.YtpjlafmhoifkmaaGreat
