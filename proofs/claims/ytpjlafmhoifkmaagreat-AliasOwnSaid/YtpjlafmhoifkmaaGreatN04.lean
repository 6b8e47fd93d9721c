import Derived.Test.YtpjlafmhoifkmaaGreatChecked
import Derived.Test.YtpjlafmhoifkmaaGreatN03
set_option linter.unusedVariables false
set_option linter.unusedSimpArgs false
set_option maxRecDepth 100000
set_option maxHeartbeats 8000000
namespace Go.Proofs.YtpjlafmhoifkmaaGreat
theorem sz_1:dI Tryz.prog 1=some 1:=by kernel_rfl
theorem Mx:cv Tryz.prog 1=some false:=by kernel_rfl
theorem sz_2:dI Tryz.prog 2=some 1:=by kernel_rfl
theorem Oy:cv Tryz.prog 2=some false:=by kernel_rfl
theorem Ja:df Tryz.prog 2=some [.int .i64 0]:=by kernel_rfl
theorem Kz:ig Tryz.prog 2=some .i64:=by kernel_rfl
theorem sz_3:dI Tryz.prog 3=some 1:=by kernel_rfl
theorem L5:cv Tryz.prog 3=some false:=by kernel_rfl
theorem KZ:df Tryz.prog 3=some [.int .i64 0]:=by kernel_rfl
theorem by_3:gN Tryz.prog 3=some 8:=by kernel_rfl
theorem Ka:ig Tryz.prog 3=some .i64:=by kernel_rfl
theorem kt_3:kT Tryz.prog 3=0:=by kernel_rfl
theorem sz_4:dI Tryz.prog 4=some 1:=by kernel_rfl
theorem NY:cv Tryz.prog 4=some false:=by kernel_rfl
theorem sz_9:dI Tryz.prog 9=some 1:=by kernel_rfl
theorem NP:cv Tryz.prog 9=some false:=by kernel_rfl
theorem Ku:df Tryz.prog 9=some [.string ⟨#[]⟩]:=by kernel_rfl
theorem Lv:gR Tryz.prog 9=true:=by kernel_rfl
theorem Og:dI Tryz.prog 23=some 3:=by kernel_rfl
theorem KG:cv Tryz.prog 23=some true:=by kernel_rfl
theorem E4:df Tryz.prog 23=some [.int .i64 0,.bool false,.bool false]:=by kernel_rfl
theorem Oi:dS Tryz.prog 23=some [(0,1),(1,1),(2,1)]:=by kernel_rfl
theorem Dj:cZ Tryz.prog 23 0=some 0:=by kernel_rfl
theorem DV:cZ Tryz.prog 23 1=some 1:=by kernel_rfl
theorem Bz:cZ Tryz.prog 23 2=some 2:=by kernel_rfl
theorem MO:dI Tryz.prog 24=some 1:=by kernel_rfl
theorem Iz:cv Tryz.prog 24=some false:=by kernel_rfl
theorem EZ:ig Tryz.prog 24=some .u64:=by kernel_rfl
theorem Nc:dI Tryz.prog 27=some 10:=by kernel_rfl
theorem JE:cv Tryz.prog 27=some true:=by kernel_rfl
theorem En:df Tryz.prog 27=some [.int .i64 0,.bool false,.bool false,.int .i64 0,.int .i64 0,.int .i64 0,.int .i64 0,.int .i64 0,.int .i64 0,.int .i64 0]:=by kernel_rfl
theorem Oz:dS Tryz.prog 27=some [(0,1),(1,1),(2,1),(3,1),(4,1),(5,1),(6,1),(7,1),(8,1),(9,1)]:=by kernel_rfl
theorem Cm:cZ Tryz.prog 27 0=some 0:=by kernel_rfl
theorem Ar:cZ Tryz.prog 27 1=some 1:=by kernel_rfl
theorem BQ:cZ Tryz.prog 27 2=some 2:=by kernel_rfl
theorem Aq:cZ Tryz.prog 27 3=some 3:=by kernel_rfl
theorem B7:cZ Tryz.prog 27 4=some 4:=by kernel_rfl
theorem CA:cZ Tryz.prog 27 5=some 5:=by kernel_rfl
theorem AQ:cZ Tryz.prog 27 6=some 6:=by kernel_rfl
theorem Dd:cZ Tryz.prog 27 7=some 7:=by kernel_rfl
theorem BL:cZ Tryz.prog 27 8=some 8:=by kernel_rfl
theorem Ed:cZ Tryz.prog 27 9=some 9:=by kernel_rfl
theorem Mk:dI Tryz.prog 28=some 1:=by kernel_rfl
theorem KR:cv Tryz.prog 28=some false:=by kernel_rfl
theorem GO:df Tryz.prog 28=some [.int .i64 0]:=by kernel_rfl
theorem Nv:dI Tryz.prog 31=some 1:=by kernel_rfl
theorem KV:cv Tryz.prog 31=some false:=by kernel_rfl
theorem Le:eL Tryz.prog 31=some 40:=by kernel_rfl
theorem MM:dI Tryz.prog 33=some 2:=by kernel_rfl
theorem JB:cv Tryz.prog 33=some true:=by kernel_rfl
theorem EL:df Tryz.prog 33=some [.string ⟨#[]⟩,.slice none 0 0]:=by kernel_rfl
theorem N5:dS Tryz.prog 33=some [(0,1),(1,1)]:=by kernel_rfl
theorem CB:cZ Tryz.prog 33 0=some 0:=by kernel_rfl
theorem Bi:xC Tryz.prog 33 0=some (0,1,false):=by kernel_rfl
theorem CI:cZ Tryz.prog 33 1=some 1:=by kernel_rfl
theorem Gv:df Tryz.prog 38=some [.int .i64 0,.string ⟨#[]⟩,.string ⟨#[]⟩]:=by kernel_rfl
theorem Oh:dS Tryz.prog 38=some [(0,1),(1,1),(2,1)]:=by kernel_rfl
theorem D7:cZ Tryz.prog 38 0=some 0:=by kernel_rfl
theorem MH:dI Tryz.prog 40=some 15:=by kernel_rfl
theorem KN:cv Tryz.prog 40=some true:=by kernel_rfl
theorem Gd:df Tryz.prog 40=some [.int .i64 0,.int .i64 0,.bool false,.bool false,.int .i64 0,.bool false,.bool false,.int .i64 0,.int .i64 0,.int .i64 0,.int .i64 0,.string ⟨#[]⟩,.string ⟨#[]⟩,.bool false,.int .i64 0]:=by kernel_rfl
theorem MB:gN Tryz.prog 40=some 120:=by kernel_rfl
theorem MP:dS Tryz.prog 40=some [(0,1),(1,3),(4,3),(7,1),(8,1),(9,1),(10,3),(13,1),(14,1)]:=by kernel_rfl
theorem Dg:cZ Tryz.prog 40 2=some 4:=by kernel_rfl
theorem Do:cZ Tryz.prog 40 3=some 7:=by kernel_rfl
theorem AT:cZ Tryz.prog 40 4=some 8:=by kernel_rfl
theorem AZ:cZ Tryz.prog 40 6=some 10:=by kernel_rfl
theorem CH:cZ Tryz.prog 40 8=some 14:=by kernel_rfl
theorem Gq:ig Tryz.prog 65=some .u64:=by kernel_rfl
theorem Ol:dI Tryz.prog 66=some 1:=by kernel_rfl
theorem Jb:cv Tryz.prog 66=some false:=by kernel_rfl
theorem FT:df Tryz.prog 66=some [.pointer none]:=by kernel_rfl
theorem F0:df Tryz.prog 68=some [.int .i64 0,.bool false,.bool false,.int .i64 0,.int .i64 0,.int .i64 0,.int .i64 0,.int .i64 0,.int .i64 0,.int .i64 0,.string ⟨#[]⟩,.slice none 0 0]:=by kernel_rfl
theorem Lm:dS Tryz.prog 68=some [(0,10),(10,2)]:=by kernel_rfl
theorem DF:cZ Tryz.prog 68 0=some 0:=by kernel_rfl
theorem DW:cZ Tryz.prog 68 1=some 10:=by kernel_rfl
theorem Oo:dI Tryz.prog 70=some 1:=by kernel_rfl
theorem IX:cv Tryz.prog 70=some false:=by kernel_rfl
theorem M6:eL Tryz.prog 70=some 75:=by kernel_rfl
theorem J2:gR Tryz.prog 70=false:=by kernel_rfl
theorem Mz:kT Tryz.prog 70=1:=by kernel_rfl
theorem Il:dI Tryz.prog 75=some 3:=by kernel_rfl
theorem I1:cv Tryz.prog 75=some true:=by kernel_rfl
theorem wR:df Tryz.prog 75=some [.int .i64 0,.int .i64 0,.int .i64 0]:=by kernel_rfl
theorem Ls:gN Tryz.prog 75=some 24:=by kernel_rfl
theorem Mt:dS Tryz.prog 75=some [(0,1),(1,1),(2,1)]:=by kernel_rfl
theorem BA:cZ Tryz.prog 75 0=some 0:=by kernel_rfl
theorem Co:cZ Tryz.prog 75 1=some 1:=by kernel_rfl
theorem AL:cZ Tryz.prog 75 2=some 2:=by kernel_rfl
theorem Ok:eL Tryz.prog 77=some 9:=by kernel_rfl
theorem L7:dI Tryz.prog 91=some 3:=by kernel_rfl
theorem J0:cv Tryz.prog 91=some true:=by kernel_rfl
theorem GD:df Tryz.prog 91=some [.int .i64 0,.int .i64 0,.int .i64 0]:=by kernel_rfl
theorem Ly:dS Tryz.prog 91=some [(0,1),(1,1),(2,1)]:=by kernel_rfl
theorem CR:cZ Tryz.prog 91 0=some 0:=by kernel_rfl
theorem Az:cZ Tryz.prog 91 1=some 1:=by kernel_rfl
theorem A9:cZ Tryz.prog 91 2=some 2:=by kernel_rfl
theorem NG:eL Tryz.prog 98=some 1:=by kernel_rfl
theorem Km:eL Tryz.prog 118=some 2:=by kernel_rfl
theorem I0:eL Tryz.prog 123=some 126:=by kernel_rfl
theorem Jf:dI Tryz.prog 126=some 2:=by kernel_rfl
theorem EO:cv Tryz.prog 126=some true:=by kernel_rfl
theorem DC:df Tryz.prog 126=some [.string ⟨#[]⟩,.int .i64 0]:=by kernel_rfl
theorem JW:dS Tryz.prog 126=some [(0,1),(1,1)]:=by kernel_rfl
theorem x6:cZ Tryz.prog 126 0=some 0:=by kernel_rfl
theorem zE:cZ Tryz.prog 126 1=some 1:=by kernel_rfl
theorem KB:dI Tryz.prog 128=some 2:=by kernel_rfl
theorem Fh:cv Tryz.prog 128=some true:=by kernel_rfl
theorem AB:df Tryz.prog 128=some [.int .i64 0,.int .i64 0]:=by kernel_rfl
theorem Gp:xh Tryz.prog 128=some 1:=by kernel_rfl
theorem Io:dS Tryz.prog 128=none:=by kernel_rfl
theorem EB:tf Tryz.prog 128=some (2,1):=by kernel_rfl
theorem Be:df Tryz.prog 129=some [.int .i64 0,.int .i64 0,.int .i64 0,.int .i64 0,.int .i64 0,.int .i64 0,.int .i64 0,.int .i64 0]:=by kernel_rfl
theorem ED:Tryz.prog.underlying 129=some (.array 4 128):=by kernel_rfl
theorem Fg:xh Tryz.prog 129=some 2:=by kernel_rfl
theorem K2:dS Tryz.prog 129=none:=by kernel_rfl
theorem Je:eL Tryz.prog 131=some 3:=by kernel_rfl
end Go.Proofs.YtpjlafmhoifkmaaGreat
