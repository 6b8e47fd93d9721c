import Derived.Test.YthcoegkfpinlfaaGreatDoorChecked
import Derived.Test.YthcoegkfpinlfaaGreatDoorO03
set_option linter.unusedVariables false
set_option linter.unusedSimpArgs false
set_option maxRecDepth 100000
set_option maxHeartbeats 8000000
namespace Go.Proofs.YthcoegkfpinlfaaGreatDoor
theorem LK:kT Tryz.prog 1=3:=by kernel_rfl
theorem Mh:bF Tryz.prog 1=some 1:=by kernel_rfl
theorem Es:aT Tryz.prog 1=some false:=by kernel_rfl
theorem dE:bF Tryz.prog 2=some 1:=by kernel_rfl
theorem cE:aT Tryz.prog 2=some false:=by kernel_rfl
theorem eD:bP Tryz.prog 2=some [.int .i64 0]:=by kernel_rfl
theorem LR:bc Tryz.prog 2=some 8:=by kernel_rfl
theorem E9:cg Tryz.prog 2=false:=by kernel_rfl
theorem yb:qX Tryz.prog 2=some .i64:=by kernel_rfl
theorem Mt:bM Tryz.prog 2=true:=by kernel_rfl
theorem L6:kT Tryz.prog 2=0:=by kernel_rfl
theorem iW:bF Tryz.prog 3=some 1:=by kernel_rfl
theorem dX:aT Tryz.prog 3=some false:=by kernel_rfl
theorem zk:bP Tryz.prog 3=some [.int .i64 0]:=by kernel_rfl
theorem Mz:bc Tryz.prog 3=some 8:=by kernel_rfl
theorem FV:cg Tryz.prog 3=false:=by kernel_rfl
theorem dG:qX Tryz.prog 3=some .i64:=by kernel_rfl
theorem MS:bM Tryz.prog 3=true:=by kernel_rfl
theorem MF:kT Tryz.prog 3=0:=by kernel_rfl
theorem Dv:bF Tryz.prog 4=some 1:=by kernel_rfl
theorem qt:aT Tryz.prog 4=some false:=by kernel_rfl
theorem xa:bP Tryz.prog 4=some [.bool false]:=by kernel_rfl
theorem LY:bc Tryz.prog 4=some 1:=by kernel_rfl
theorem Fb:cg Tryz.prog 4=false:=by kernel_rfl
theorem MP:bM Tryz.prog 4=true:=by kernel_rfl
theorem LZ:kT Tryz.prog 4=0:=by kernel_rfl
theorem Mf:bF Tryz.prog 5=some 1:=by kernel_rfl
theorem ff:aT Tryz.prog 5=some false:=by kernel_rfl
theorem BN:bP Tryz.prog 5=some [.int .u8 0]:=by kernel_rfl
theorem L4:bc Tryz.prog 5=some 1:=by kernel_rfl
theorem FT:cg Tryz.prog 5=false:=by kernel_rfl
theorem Bo:qX Tryz.prog 5=some .u8:=by kernel_rfl
theorem Mi:bM Tryz.prog 5=true:=by kernel_rfl
theorem L9:kT Tryz.prog 5=0:=by kernel_rfl
theorem MG:bF Tryz.prog 7=some 4:=by kernel_rfl
theorem FC:aT Tryz.prog 7=some true:=by kernel_rfl
theorem uJ:bP Tryz.prog 7=some [.int .i64 0,.int .i64 0,.bool false,.int .u8 0]:=by kernel_rfl
theorem Mg:bc Tryz.prog 7=some 24:=by kernel_rfl
theorem FL:cg Tryz.prog 7=false:=by kernel_rfl
theorem Ma:bM Tryz.prog 7=true:=by kernel_rfl
theorem LL:kT Tryz.prog 7=0:=by kernel_rfl
theorem Mn:cq Tryz.prog 7=some [(0,1),(1,1),(2,1),(3,1)]:=by kernel_rfl
theorem rQ:cn Tryz.prog 7 0=some 0:=by kernel_rfl
theorem oT:cj Tryz.prog 7 0=some (0,1,false):=by kernel_rfl
theorem qb:cn Tryz.prog 7 1=some 1:=by kernel_rfl
theorem m6:cj Tryz.prog 7 1=some (1,1,false):=by kernel_rfl
theorem m7:cn Tryz.prog 7 2=some 2:=by kernel_rfl
theorem oh:cj Tryz.prog 7 2=some (2,1,false):=by kernel_rfl
theorem nT:cn Tryz.prog 7 3=some 3:=by kernel_rfl
theorem qm:cj Tryz.prog 7 3=some (3,1,false):=by kernel_rfl
theorem cN:bF Tryz.prog 9=some 1:=by kernel_rfl
theorem bY:aT Tryz.prog 9=some false:=by kernel_rfl
theorem eH:bP Tryz.prog 9=some [.string ⟨#[]⟩]:=by kernel_rfl
theorem sN:bc Tryz.prog 9=some 16:=by kernel_rfl
theorem cQ:cg Tryz.prog 9=true:=by kernel_rfl
theorem Mv:ga Tryz.prog 9=false:=by kernel_rfl
theorem MV:bM Tryz.prog 9=true:=by kernel_rfl
theorem LO:kT Tryz.prog 9=0:=by kernel_rfl
theorem EB:bF Tryz.prog 12=some 1:=by kernel_rfl
theorem xL:aT Tryz.prog 12=some false:=by kernel_rfl
theorem oS:bP Tryz.prog 12=some [.int .u64 0]:=by kernel_rfl
theorem Ii:bc Tryz.prog 12=some 8:=by kernel_rfl
theorem tk:cg Tryz.prog 12=false:=by kernel_rfl
theorem og:qX Tryz.prog 12=some .u64:=by kernel_rfl
theorem IU:bM Tryz.prog 12=true:=by kernel_rfl
theorem Fu:kT Tryz.prog 12=0:=by kernel_rfl
theorem FQ:bF Tryz.prog 13=some 2:=by kernel_rfl
theorem Ae:aT Tryz.prog 13=some true:=by kernel_rfl
theorem nr:bP Tryz.prog 13=some [.string ⟨#[]⟩,.int .u64 0]:=by kernel_rfl
theorem Hm:bc Tryz.prog 13=some 24:=by kernel_rfl
theorem wK:cg Tryz.prog 13=false:=by kernel_rfl
theorem Hh:bM Tryz.prog 13=true:=by kernel_rfl
theorem En:kT Tryz.prog 13=0:=by kernel_rfl
theorem Iv:cq Tryz.prog 13=some [(0,1),(1,1)]:=by kernel_rfl
theorem kf:cn Tryz.prog 13 0=some 0:=by kernel_rfl
theorem kS:cj Tryz.prog 13 0=some (0,1,false):=by kernel_rfl
theorem lc:cn Tryz.prog 13 1=some 1:=by kernel_rfl
theorem ju:cj Tryz.prog 13 1=some (1,1,false):=by kernel_rfl
theorem FU:bF Tryz.prog 15=some 1:=by kernel_rfl
theorem BT:aT Tryz.prog 15=some false:=by kernel_rfl
theorem pa:bP Tryz.prog 15=some [.pointer none]:=by kernel_rfl
theorem Fx:bc Tryz.prog 15=some 8:=by kernel_rfl
theorem yw:cg Tryz.prog 15=false:=by kernel_rfl
theorem GT:bM Tryz.prog 15=true:=by kernel_rfl
theorem AH:Tryz.prog.underlying 15=some (.pointer 213):=by kernel_rfl
theorem I2:kT Tryz.prog 15=2:=by kernel_rfl
theorem HO:bF Tryz.prog 16=some 1:=by kernel_rfl
theorem wY:aT Tryz.prog 16=some false:=by kernel_rfl
theorem qd:bP Tryz.prog 16=some [.pointer none]:=by kernel_rfl
theorem EI:bc Tryz.prog 16=some 8:=by kernel_rfl
theorem um:cg Tryz.prog 16=false:=by kernel_rfl
theorem GJ:bM Tryz.prog 16=true:=by kernel_rfl
theorem tY:Tryz.prog.underlying 16=some (.pointer 216):=by kernel_rfl
theorem IS:kT Tryz.prog 16=2:=by kernel_rfl
theorem H6:bF Tryz.prog 17=some 1:=by kernel_rfl
theorem BV:aT Tryz.prog 17=some false:=by kernel_rfl
theorem qL:bP Tryz.prog 17=some [.pointer none]:=by kernel_rfl
theorem Hs:bc Tryz.prog 17=some 8:=by kernel_rfl
theorem tR:cg Tryz.prog 17=false:=by kernel_rfl
theorem Ha:bM Tryz.prog 17=true:=by kernel_rfl
theorem x8:Tryz.prog.underlying 17=some (.pointer 223):=by kernel_rfl
theorem Fe:kT Tryz.prog 17=2:=by kernel_rfl
theorem F4:bF Tryz.prog 18=some 1:=by kernel_rfl
theorem Bn:aT Tryz.prog 18=some true:=by kernel_rfl
theorem oP:bP Tryz.prog 18=some [.pointer none]:=by kernel_rfl
theorem Il:bc Tryz.prog 18=some 8:=by kernel_rfl
theorem xg:cg Tryz.prog 18=false:=by kernel_rfl
theorem E5:bM Tryz.prog 18=true:=by kernel_rfl
theorem Gm:kT Tryz.prog 18=0:=by kernel_rfl
theorem GN:cq Tryz.prog 18=some [(0,1)]:=by kernel_rfl
theorem kI:cn Tryz.prog 18 0=some 0:=by kernel_rfl
theorem kA:cj Tryz.prog 18 0=some (0,1,false):=by kernel_rfl
theorem Ei:bF Tryz.prog 20=some 1:=by kernel_rfl
theorem yi:aT Tryz.prog 20=some false:=by kernel_rfl
theorem rb:bP Tryz.prog 20=some [.nilIface]:=by kernel_rfl
theorem Fm:bc Tryz.prog 20=some 16:=by kernel_rfl
theorem Ca:cg Tryz.prog 20=false:=by kernel_rfl
theorem E4:bM Tryz.prog 20=false:=by kernel_rfl
theorem F8:kT Tryz.prog 20=4:=by kernel_rfl
theorem ED:bF Tryz.prog 21=some 1:=by kernel_rfl
theorem tZ:aT Tryz.prog 21=some false:=by kernel_rfl
theorem oF:bP Tryz.prog 21=some [.int .i32 0]:=by kernel_rfl
theorem Fy:bc Tryz.prog 21=some 4:=by kernel_rfl
theorem xq:cg Tryz.prog 21=false:=by kernel_rfl
theorem rk:qX Tryz.prog 21=some .i32:=by kernel_rfl
theorem G2:bM Tryz.prog 21=true:=by kernel_rfl
theorem Ib:kT Tryz.prog 21=0:=by kernel_rfl
theorem FK:bF Tryz.prog 22=some 1:=by kernel_rfl
theorem uF:aT Tryz.prog 22=some false:=by kernel_rfl
theorem ot:bP Tryz.prog 22=some [.slice none 0 0]:=by kernel_rfl
theorem F5:bc Tryz.prog 22=some 24:=by kernel_rfl
theorem EE:i5 Tryz.prog 22=some 38:=by kernel_rfl
theorem vR:cg Tryz.prog 22=false:=by kernel_rfl
theorem I5:ga Tryz.prog 22=false:=by kernel_rfl
theorem Ey:bM Tryz.prog 22=true:=by kernel_rfl
theorem vh:Tryz.prog.underlying 22=some (.slice 38):=by kernel_rfl
theorem Fd:kT Tryz.prog 22=1:=by kernel_rfl
theorem Iu:kT Tryz.prog 23=3:=by kernel_rfl
theorem Fj:bF Tryz.prog 23=some 1:=by kernel_rfl
theorem uv:aT Tryz.prog 23=some false:=by kernel_rfl
theorem FX:kT Tryz.prog 24=3:=by kernel_rfl
theorem Gf:bF Tryz.prog 24=some 1:=by kernel_rfl
theorem Cg:aT Tryz.prog 24=some false:=by kernel_rfl
theorem iT:bF Tryz.prog 25=some 1:=by kernel_rfl
theorem eG:aT Tryz.prog 25=some false:=by kernel_rfl
theorem dF:bP Tryz.prog 25=some [.int .i64 0]:=by kernel_rfl
theorem Ep:bc Tryz.prog 25=some 8:=by kernel_rfl
theorem tL:cg Tryz.prog 25=false:=by kernel_rfl
theorem nz:qX Tryz.prog 25=some .i64:=by kernel_rfl
theorem EX:bM Tryz.prog 25=true:=by kernel_rfl
theorem IV:kT Tryz.prog 25=0:=by kernel_rfl
theorem GP:kT Tryz.prog 27=3:=by kernel_rfl
theorem GY:bF Tryz.prog 27=some 1:=by kernel_rfl
theorem A7:aT Tryz.prog 27=some false:=by kernel_rfl
theorem EV:bF Tryz.prog 28=some 1:=by kernel_rfl
theorem xV:aT Tryz.prog 28=some false:=by kernel_rfl
theorem rm:bP Tryz.prog 28=some [.slice none 0 0]:=by kernel_rfl
theorem GC:bc Tryz.prog 28=some 24:=by kernel_rfl
theorem EK:i5 Tryz.prog 28=some 93:=by kernel_rfl
theorem uE:cg Tryz.prog 28=false:=by kernel_rfl
theorem GZ:ga Tryz.prog 28=false:=by kernel_rfl
theorem FR:bM Tryz.prog 28=true:=by kernel_rfl
theorem xm:Tryz.prog.underlying 28=some (.slice 93):=by kernel_rfl
theorem EL:kT Tryz.prog 28=1:=by kernel_rfl
theorem HP:kT Tryz.prog 30=3:=by kernel_rfl
theorem IA:bF Tryz.prog 30=some 1:=by kernel_rfl
theorem tT:aT Tryz.prog 30=some false:=by kernel_rfl
theorem Iw:kT Tryz.prog 32=3:=by kernel_rfl
theorem I3:bF Tryz.prog 32=some 1:=by kernel_rfl
theorem zc:aT Tryz.prog 32=some false:=by kernel_rfl
theorem EN:bF Tryz.prog 33=some 3:=by kernel_rfl
theorem yM:aT Tryz.prog 33=some true:=by kernel_rfl
theorem nB:bP Tryz.prog 33=some [.int .i64 0,.bool false,.bool false]:=by kernel_rfl
theorem Ft:bc Tryz.prog 33=some 16:=by kernel_rfl
theorem uV:cg Tryz.prog 33=false:=by kernel_rfl
theorem IQ:bM Tryz.prog 33=true:=by kernel_rfl
theorem Hn:kT Tryz.prog 33=0:=by kernel_rfl
theorem Ix:cq Tryz.prog 33=some [(0,1),(1,1),(2,1)]:=by kernel_rfl
theorem je:cn Tryz.prog 33 0=some 0:=by kernel_rfl
theorem jT:cj Tryz.prog 33 0=some (0,1,false):=by kernel_rfl
theorem kX:cn Tryz.prog 33 1=some 1:=by kernel_rfl
theorem jC:cj Tryz.prog 33 1=some (1,1,false):=by kernel_rfl
theorem li:cn Tryz.prog 33 2=some 2:=by kernel_rfl
theorem jr:cj Tryz.prog 33 2=some (2,1,false):=by kernel_rfl
theorem cX:bF Tryz.prog 34=some 3:=by kernel_rfl
theorem cr:aT Tryz.prog 34=some true:=by kernel_rfl
theorem bK:bP Tryz.prog 34=some [.int .i64 0,.bool false,.bool false]:=by kernel_rfl
theorem EY:bc Tryz.prog 34=some 16:=by kernel_rfl
theorem B0:cg Tryz.prog 34=false:=by kernel_rfl
theorem Gu:bM Tryz.prog 34=true:=by kernel_rfl
theorem EG:kT Tryz.prog 34=0:=by kernel_rfl
theorem eg:cq Tryz.prog 34=some [(0,1),(1,1),(2,1)]:=by kernel_rfl
theorem dR:cn Tryz.prog 34 0=some 0:=by kernel_rfl
theorem jk:cj Tryz.prog 34 0=some (0,1,false):=by kernel_rfl
theorem dP:cn Tryz.prog 34 1=some 1:=by kernel_rfl
theorem lJ:cj Tryz.prog 34 1=some (1,1,false):=by kernel_rfl
theorem dN:cn Tryz.prog 34 2=some 2:=by kernel_rfl
theorem kh:cj Tryz.prog 34 2=some (2,1,false):=by kernel_rfl
theorem G1:bF Tryz.prog 35=some 3:=by kernel_rfl
theorem Bc:aT Tryz.prog 35=some true:=by kernel_rfl
theorem pN:bP Tryz.prog 35=some [.int .i64 0,.string ⟨#[]⟩,.string ⟨#[]⟩]:=by kernel_rfl
theorem Gc:bc Tryz.prog 35=some 40:=by kernel_rfl
theorem Co:cg Tryz.prog 35=false:=by kernel_rfl
theorem Ee:bM Tryz.prog 35=true:=by kernel_rfl
theorem G4:kT Tryz.prog 35=0:=by kernel_rfl
theorem Ga:cq Tryz.prog 35=some [(0,1),(1,1),(2,1)]:=by kernel_rfl
theorem lm:cn Tryz.prog 35 0=some 0:=by kernel_rfl
theorem jI:cj Tryz.prog 35 0=some (0,1,false):=by kernel_rfl
theorem jP:cn Tryz.prog 35 1=some 1:=by kernel_rfl
theorem lj:cj Tryz.prog 35 1=some (1,1,false):=by kernel_rfl
theorem j4:cn Tryz.prog 35 2=some 2:=by kernel_rfl
theorem lu:cj Tryz.prog 35 2=some (2,1,false):=by kernel_rfl
theorem Gx:bF Tryz.prog 36=some 3:=by kernel_rfl
theorem yk:aT Tryz.prog 36=some true:=by kernel_rfl
theorem nk:bP Tryz.prog 36=some [.int .i64 0,.string ⟨#[]⟩,.string ⟨#[]⟩]:=by kernel_rfl
theorem I1:bc Tryz.prog 36=some 40:=by kernel_rfl
theorem tz:cg Tryz.prog 36=false:=by kernel_rfl
theorem Hd:bM Tryz.prog 36=true:=by kernel_rfl
theorem E7:kT Tryz.prog 36=0:=by kernel_rfl
theorem Ie:cq Tryz.prog 36=some [(0,1),(1,1),(2,1)]:=by kernel_rfl
theorem jA:cn Tryz.prog 36 0=some 0:=by kernel_rfl
theorem kU:cj Tryz.prog 36 0=some (0,1,false):=by kernel_rfl
theorem ke:cn Tryz.prog 36 1=some 1:=by kernel_rfl
theorem jv:cj Tryz.prog 36 1=some (1,1,false):=by kernel_rfl
theorem jp:cn Tryz.prog 36 2=some 2:=by kernel_rfl
theorem jz:cj Tryz.prog 36 2=some (2,1,false):=by kernel_rfl
theorem Hw:bF Tryz.prog 37=some 15:=by kernel_rfl
theorem tQ:aT Tryz.prog 37=some true:=by kernel_rfl
theorem oa:bP Tryz.prog 37=some [.int .i64 0,.int .i64 0,.bool false,.bool false,.int .i64 0,.bool false,.bool false,.int .i64 0,.int .i64 0,.int .i64 0,.int .i64 0,.string ⟨#[]⟩,.string ⟨#[]⟩,.bool false,.int .i64 0]:=by kernel_rfl
theorem Ej:bc Tryz.prog 37=some 120:=by kernel_rfl
theorem xw:cg Tryz.prog 37=false:=by kernel_rfl
theorem Fv:bM Tryz.prog 37=true:=by kernel_rfl
theorem ER:kT Tryz.prog 37=0:=by kernel_rfl
theorem FP:cq Tryz.prog 37=some [(0,1),(1,3),(4,3),(7,1),(8,1),(9,1),(10,3),(13,1),(14,1)]:=by kernel_rfl
theorem lr:cn Tryz.prog 37 0=some 0:=by kernel_rfl
theorem lN:cj Tryz.prog 37 0=some (0,1,false):=by kernel_rfl
theorem jy:cn Tryz.prog 37 1=some 1:=by kernel_rfl
theorem jj:cj Tryz.prog 37 1=some (1,3,true):=by kernel_rfl
theorem kK:cn Tryz.prog 37 2=some 4:=by kernel_rfl
theorem jd:cj Tryz.prog 37 2=some (4,3,true):=by kernel_rfl
theorem jK:cn Tryz.prog 37 3=some 7:=by kernel_rfl
theorem j7:cj Tryz.prog 37 3=some (7,1,false):=by kernel_rfl
theorem jg:cn Tryz.prog 37 4=some 8:=by kernel_rfl
theorem lb:cj Tryz.prog 37 4=some (8,1,false):=by kernel_rfl
theorem kF:cn Tryz.prog 37 5=some 9:=by kernel_rfl
theorem km:cj Tryz.prog 37 5=some (9,1,false):=by kernel_rfl
theorem jh:cn Tryz.prog 37 6=some 10:=by kernel_rfl
theorem kW:cj Tryz.prog 37 6=some (10,3,true):=by kernel_rfl
theorem lk:cn Tryz.prog 37 7=some 13:=by kernel_rfl
theorem kJ:cj Tryz.prog 37 7=some (13,1,false):=by kernel_rfl
theorem kD:cn Tryz.prog 37 8=some 14:=by kernel_rfl
theorem j9:cj Tryz.prog 37 8=some (14,1,false):=by kernel_rfl
theorem DX:bF Tryz.prog 38=some 15:=by kernel_rfl
theorem xD:aT Tryz.prog 38=some true:=by kernel_rfl
theorem ma:bP Tryz.prog 38=some [.int .i64 0,.int .i64 0,.bool false,.bool false,.int .i64 0,.bool false,.bool false,.int .i64 0,.int .i64 0,.int .i64 0,.int .i64 0,.string ⟨#[]⟩,.string ⟨#[]⟩,.bool false,.int .i64 0]:=by kernel_rfl
theorem Hy:bc Tryz.prog 38=some 120:=by kernel_rfl
theorem vm:cg Tryz.prog 38=false:=by kernel_rfl
theorem GV:bM Tryz.prog 38=true:=by kernel_rfl
theorem FO:kT Tryz.prog 38=0:=by kernel_rfl
theorem E8:cq Tryz.prog 38=some [(0,1),(1,3),(4,3),(7,1),(8,1),(9,1),(10,3),(13,1),(14,1)]:=by kernel_rfl
theorem jS:cn Tryz.prog 38 0=some 0:=by kernel_rfl
theorem lx:cj Tryz.prog 38 0=some (0,1,false):=by kernel_rfl
theorem j2:cn Tryz.prog 38 1=some 1:=by kernel_rfl
theorem kC:cj Tryz.prog 38 1=some (1,3,true):=by kernel_rfl
theorem lp:cn Tryz.prog 38 2=some 4:=by kernel_rfl
theorem lB:cj Tryz.prog 38 2=some (4,3,true):=by kernel_rfl
theorem j3:cn Tryz.prog 38 3=some 7:=by kernel_rfl
theorem lF:cj Tryz.prog 38 3=some (7,1,false):=by kernel_rfl
theorem lD:cn Tryz.prog 38 4=some 8:=by kernel_rfl
theorem j5:cj Tryz.prog 38 4=some (8,1,false):=by kernel_rfl
theorem lv:cn Tryz.prog 38 5=some 9:=by kernel_rfl
theorem lI:cj Tryz.prog 38 5=some (9,1,false):=by kernel_rfl
theorem jx:cn Tryz.prog 38 6=some 10:=by kernel_rfl
theorem jt:cj Tryz.prog 38 6=some (10,3,true):=by kernel_rfl
theorem jE:cn Tryz.prog 38 7=some 13:=by kernel_rfl
theorem jo:cj Tryz.prog 38 7=some (13,1,false):=by kernel_rfl
theorem jJ:cn Tryz.prog 38 8=some 14:=by kernel_rfl
theorem ko:cj Tryz.prog 38 8=some (14,1,false):=by kernel_rfl
theorem IF:kT Tryz.prog 39=3:=by kernel_rfl
theorem In:bF Tryz.prog 39=some 1:=by kernel_rfl
theorem xI:aT Tryz.prog 39=some false:=by kernel_rfl
theorem Hz:kT Tryz.prog 40=3:=by kernel_rfl
theorem HH:bF Tryz.prog 40=some 1:=by kernel_rfl
theorem tB:aT Tryz.prog 40=some false:=by kernel_rfl
theorem GG:kT Tryz.prog 41=3:=by kernel_rfl
theorem Ir:bF Tryz.prog 41=some 1:=by kernel_rfl
theorem ti:aT Tryz.prog 41=some false:=by kernel_rfl
theorem HJ:kT Tryz.prog 42=3:=by kernel_rfl
theorem Fa:bF Tryz.prog 42=some 1:=by kernel_rfl
theorem Av:aT Tryz.prog 42=some false:=by kernel_rfl
theorem G5:kT Tryz.prog 43=3:=by kernel_rfl
theorem E2:bF Tryz.prog 43=some 1:=by kernel_rfl
theorem tt:aT Tryz.prog 43=some false:=by kernel_rfl
theorem FI:bF Tryz.prog 44=some 1:=by kernel_rfl
theorem ve:aT Tryz.prog 44=some false:=by kernel_rfl
theorem po:bP Tryz.prog 44=some [.slice none 0 0]:=by kernel_rfl
theorem Ec:bc Tryz.prog 44=some 24:=by kernel_rfl
theorem dD:i5 Tryz.prog 44=some 9:=by kernel_rfl
theorem Ch:cg Tryz.prog 44=false:=by kernel_rfl
theorem GQ:ga Tryz.prog 44=false:=by kernel_rfl
theorem Gn:bM Tryz.prog 44=true:=by kernel_rfl
theorem xh:Tryz.prog.underlying 44=some (.slice 9):=by kernel_rfl
theorem GI:kT Tryz.prog 44=1:=by kernel_rfl
theorem FZ:kT Tryz.prog 45=3:=by kernel_rfl
theorem EF:bF Tryz.prog 45=some 1:=by kernel_rfl
theorem tl:aT Tryz.prog 45=some false:=by kernel_rfl
theorem G8:kT Tryz.prog 46=3:=by kernel_rfl
theorem II:bF Tryz.prog 46=some 1:=by kernel_rfl
theorem yq:aT Tryz.prog 46=some false:=by kernel_rfl
theorem G3:kT Tryz.prog 47=3:=by kernel_rfl
theorem Ef:bF Tryz.prog 47=some 1:=by kernel_rfl
theorem uu:aT Tryz.prog 47=some false:=by kernel_rfl
theorem Er:kT Tryz.prog 48=3:=by kernel_rfl
theorem GB:bF Tryz.prog 48=some 1:=by kernel_rfl
theorem xk:aT Tryz.prog 48=some false:=by kernel_rfl
theorem Em:bF Tryz.prog 49=some 1:=by kernel_rfl
theorem xc:aT Tryz.prog 49=some false:=by kernel_rfl
theorem oO:bP Tryz.prog 49=some [.nilFunc]:=by kernel_rfl
theorem Gi:bc Tryz.prog 49=some 8:=by kernel_rfl
theorem x6:cg Tryz.prog 49=false:=by kernel_rfl
theorem Fs:bM Tryz.prog 49=true:=by kernel_rfl
theorem Fz:kT Tryz.prog 49=3:=by kernel_rfl
theorem Ih:kT Tryz.prog 50=3:=by kernel_rfl
theorem EM:bF Tryz.prog 50=some 1:=by kernel_rfl
theorem vP:aT Tryz.prog 50=some false:=by kernel_rfl
theorem Fl:kT Tryz.prog 51=3:=by kernel_rfl
theorem EJ:bF Tryz.prog 51=some 1:=by kernel_rfl
theorem wP:aT Tryz.prog 51=some false:=by kernel_rfl
theorem GE:kT Tryz.prog 52=3:=by kernel_rfl
theorem IY:bF Tryz.prog 52=some 1:=by kernel_rfl
theorem vV:aT Tryz.prog 52=some false:=by kernel_rfl
theorem I6:kT Tryz.prog 53=3:=by kernel_rfl
theorem Gy:bF Tryz.prog 53=some 1:=by kernel_rfl
theorem t6:aT Tryz.prog 53=some false:=by kernel_rfl
theorem EZ:kT Tryz.prog 54=3:=by kernel_rfl
theorem Id:bF Tryz.prog 54=some 1:=by kernel_rfl
theorem tO:aT Tryz.prog 54=some false:=by kernel_rfl
theorem Hx:kT Tryz.prog 55=3:=by kernel_rfl
theorem GK:bF Tryz.prog 55=some 1:=by kernel_rfl
theorem Ac:aT Tryz.prog 55=some false:=by kernel_rfl
theorem IR:kT Tryz.prog 56=3:=by kernel_rfl
theorem El:bF Tryz.prog 56=some 1:=by kernel_rfl
theorem BH:aT Tryz.prog 56=some false:=by kernel_rfl
theorem IL:bF Tryz.prog 57=some 1:=by kernel_rfl
theorem Bv:aT Tryz.prog 57=some false:=by kernel_rfl
theorem pG:bP Tryz.prog 57=some [.pointer none]:=by kernel_rfl
theorem Hf:bc Tryz.prog 57=some 8:=by kernel_rfl
theorem Aq:cg Tryz.prog 57=false:=by kernel_rfl
theorem Gl:bM Tryz.prog 57=true:=by kernel_rfl
theorem ws:Tryz.prog.underlying 57=some (.pointer 25):=by kernel_rfl
theorem Gj:kT Tryz.prog 57=2:=by kernel_rfl
theorem He:bF Tryz.prog 58=some 1:=by kernel_rfl
theorem yx:aT Tryz.prog 58=some false:=by kernel_rfl
theorem pz:bP Tryz.prog 58=some [.pointer none]:=by kernel_rfl
theorem I4:bc Tryz.prog 58=some 8:=by kernel_rfl
theorem wZ:cg Tryz.prog 58=false:=by kernel_rfl
theorem G7:bM Tryz.prog 58=true:=by kernel_rfl
theorem wX:Tryz.prog.underlying 58=some (.pointer 22):=by kernel_rfl
theorem IJ:kT Tryz.prog 58=2:=by kernel_rfl
theorem IZ:bF Tryz.prog 59=some 1:=by kernel_rfl
theorem wW:aT Tryz.prog 59=some false:=by kernel_rfl
theorem rp:bP Tryz.prog 59=some [.pointer none]:=by kernel_rfl
theorem EU:bc Tryz.prog 59=some 8:=by kernel_rfl
theorem Ci:cg Tryz.prog 59=false:=by kernel_rfl
theorem Gw:bM Tryz.prog 59=true:=by kernel_rfl
theorem t8:Tryz.prog.underlying 59=some (.pointer 61):=by kernel_rfl
theorem H8:kT Tryz.prog 59=2:=by kernel_rfl
theorem Ic:bF Tryz.prog 60=some 1:=by kernel_rfl
theorem BY:aT Tryz.prog 60=some true:=by kernel_rfl
theorem nO:bP Tryz.prog 60=some [.slice none 0 0]:=by kernel_rfl
theorem Fo:bc Tryz.prog 60=some 24:=by kernel_rfl
theorem BZ:cg Tryz.prog 60=false:=by kernel_rfl
theorem IC:bM Tryz.prog 60=true:=by kernel_rfl
theorem FE:kT Tryz.prog 60=0:=by kernel_rfl
theorem FY:cq Tryz.prog 60=some [(0,1)]:=by kernel_rfl
theorem lq:cn Tryz.prog 60 0=some 0:=by kernel_rfl
theorem ly:cj Tryz.prog 60 0=some (0,1,false):=by kernel_rfl
theorem IT:bF Tryz.prog 61=some 1:=by kernel_rfl
theorem Af:aT Tryz.prog 61=some true:=by kernel_rfl
theorem nj:bP Tryz.prog 61=some [.slice none 0 0]:=by kernel_rfl
theorem Fp:bc Tryz.prog 61=some 24:=by kernel_rfl
theorem tn:cg Tryz.prog 61=false:=by kernel_rfl
theorem Et:bM Tryz.prog 61=true:=by kernel_rfl
theorem Ed:kT Tryz.prog 61=0:=by kernel_rfl
theorem HM:cq Tryz.prog 61=some [(0,1)]:=by kernel_rfl
theorem jq:cn Tryz.prog 61 0=some 0:=by kernel_rfl
theorem jZ:cj Tryz.prog 61 0=some (0,1,false):=by kernel_rfl
theorem Gr:kT Tryz.prog 62=3:=by kernel_rfl
theorem GU:bF Tryz.prog 62=some 1:=by kernel_rfl
theorem u5:aT Tryz.prog 62=some false:=by kernel_rfl
theorem FS:kT Tryz.prog 63=3:=by kernel_rfl
theorem Eo:bF Tryz.prog 63=some 1:=by kernel_rfl
theorem tU:aT Tryz.prog 63=some false:=by kernel_rfl
theorem Hj:kT Tryz.prog 64=3:=by kernel_rfl
theorem EW:bF Tryz.prog 64=some 1:=by kernel_rfl
theorem u6:aT Tryz.prog 64=some false:=by kernel_rfl
theorem GH:kT Tryz.prog 66=3:=by kernel_rfl
theorem HB:bF Tryz.prog 66=some 1:=by kernel_rfl
theorem uo:aT Tryz.prog 66=some false:=by kernel_rfl
theorem F0:kT Tryz.prog 67=3:=by kernel_rfl
theorem HY:bF Tryz.prog 67=some 1:=by kernel_rfl
theorem B3:aT Tryz.prog 67=some false:=by kernel_rfl
theorem Eb:kT Tryz.prog 68=3:=by kernel_rfl
theorem G6:bF Tryz.prog 68=some 1:=by kernel_rfl
theorem tu:aT Tryz.prog 68=some false:=by kernel_rfl
theorem ID:kT Tryz.prog 69=3:=by kernel_rfl
theorem EP:bF Tryz.prog 69=some 1:=by kernel_rfl
theorem uL:aT Tryz.prog 69=some false:=by kernel_rfl
theorem Iy:kT Tryz.prog 70=3:=by kernel_rfl
theorem Eh:bF Tryz.prog 70=some 1:=by kernel_rfl
theorem AC:aT Tryz.prog 70=some false:=by kernel_rfl
theorem FF:kT Tryz.prog 71=3:=by kernel_rfl
theorem GF:bF Tryz.prog 71=some 1:=by kernel_rfl
theorem uU:aT Tryz.prog 71=some false:=by kernel_rfl
theorem FH:kT Tryz.prog 72=3:=by kernel_rfl
theorem IP:bF Tryz.prog 72=some 1:=by kernel_rfl
theorem zv:aT Tryz.prog 72=some false:=by kernel_rfl
theorem H7:bF Tryz.prog 73=some 1:=by kernel_rfl
theorem x5:aT Tryz.prog 73=some false:=by kernel_rfl
theorem ri:bP Tryz.prog 73=some [.nilFunc]:=by kernel_rfl
theorem HI:bc Tryz.prog 73=some 8:=by kernel_rfl
theorem xu:cg Tryz.prog 73=false:=by kernel_rfl
theorem Fg:bM Tryz.prog 73=true:=by kernel_rfl
theorem FW:kT Tryz.prog 73=3:=by kernel_rfl
theorem Is:kT Tryz.prog 74=3:=by kernel_rfl
theorem Gv:bF Tryz.prog 74=some 1:=by kernel_rfl
theorem uI:aT Tryz.prog 74=some false:=by kernel_rfl
theorem EH:kT Tryz.prog 75=3:=by kernel_rfl
theorem Hu:bF Tryz.prog 75=some 1:=by kernel_rfl
theorem tC:aT Tryz.prog 75=some false:=by kernel_rfl
theorem FN:kT Tryz.prog 76=3:=by kernel_rfl
theorem GA:bF Tryz.prog 76=some 1:=by kernel_rfl
theorem wR:aT Tryz.prog 76=some false:=by kernel_rfl
theorem Gg:kT Tryz.prog 77=3:=by kernel_rfl
theorem G9:bF Tryz.prog 77=some 1:=by kernel_rfl
theorem Cn:aT Tryz.prog 77=some false:=by kernel_rfl
theorem Fi:kT Tryz.prog 78=3:=by kernel_rfl
theorem Ge:bF Tryz.prog 78=some 1:=by kernel_rfl
theorem AD:aT Tryz.prog 78=some false:=by kernel_rfl
theorem GW:kT Tryz.prog 79=3:=by kernel_rfl
theorem IH:bF Tryz.prog 79=some 1:=by kernel_rfl
theorem wH:aT Tryz.prog 79=some false:=by kernel_rfl
theorem Iq:kT Tryz.prog 80=3:=by kernel_rfl
theorem Gh:bF Tryz.prog 80=some 1:=by kernel_rfl
theorem zw:aT Tryz.prog 80=some false:=by kernel_rfl
theorem Hl:bF Tryz.prog 81=some 1:=by kernel_rfl
theorem wL:aT Tryz.prog 81=some false:=by kernel_rfl
theorem nC:bP Tryz.prog 81=some [.pointer none]:=by kernel_rfl
theorem FJ:bc Tryz.prog 81=some 8:=by kernel_rfl
theorem zC:cg Tryz.prog 81=false:=by kernel_rfl
theorem FM:bM Tryz.prog 81=true:=by kernel_rfl
theorem vG:Tryz.prog.underlying 81=some (.pointer 84):=by kernel_rfl
theorem ES:kT Tryz.prog 81=2:=by kernel_rfl
theorem Fh:bF Tryz.prog 82=some 1:=by kernel_rfl
theorem tX:aT Tryz.prog 82=some false:=by kernel_rfl
theorem qY:bP Tryz.prog 82=some [.slice none 0 0]:=by kernel_rfl
theorem E3:bc Tryz.prog 82=some 24:=by kernel_rfl
theorem HV:i5 Tryz.prog 82=some 5:=by kernel_rfl
theorem xC:cg Tryz.prog 82=false:=by kernel_rfl
theorem Ip:ga Tryz.prog 82=true:=by kernel_rfl
theorem Hq:bM Tryz.prog 82=true:=by kernel_rfl
theorem uZ:Tryz.prog.underlying 82=some (.slice 5):=by kernel_rfl
theorem Gb:kT Tryz.prog 82=1:=by kernel_rfl
theorem I0:bF Tryz.prog 83=some 2:=by kernel_rfl
theorem BI:aT Tryz.prog 83=some true:=by kernel_rfl
theorem nY:bP Tryz.prog 83=some [.pointer none,.slice none 0 0]:=by kernel_rfl
theorem Gt:bc Tryz.prog 83=some 32:=by kernel_rfl
theorem B6:cg Tryz.prog 83=false:=by kernel_rfl
theorem HA:bM Tryz.prog 83=true:=by kernel_rfl
theorem HN:kT Tryz.prog 83=0:=by kernel_rfl
theorem Eu:cq Tryz.prog 83=some [(0,1),(1,1)]:=by kernel_rfl
theorem kM:cn Tryz.prog 83 0=some 0:=by kernel_rfl
theorem la:cj Tryz.prog 83 0=some (0,1,false):=by kernel_rfl
theorem ji:cn Tryz.prog 83 1=some 1:=by kernel_rfl
theorem lM:cj Tryz.prog 83 1=some (1,1,false):=by kernel_rfl
theorem Im:bF Tryz.prog 84=some 2:=by kernel_rfl
theorem vJ:aT Tryz.prog 84=some true:=by kernel_rfl
theorem ng:bP Tryz.prog 84=some [.pointer none,.slice none 0 0]:=by kernel_rfl
theorem Ig:bc Tryz.prog 84=some 32:=by kernel_rfl
theorem wG:cg Tryz.prog 84=false:=by kernel_rfl
theorem IW:bM Tryz.prog 84=true:=by kernel_rfl
theorem F9:kT Tryz.prog 84=0:=by kernel_rfl
theorem If:cq Tryz.prog 84=some [(0,1),(1,1)]:=by kernel_rfl
theorem j8:cn Tryz.prog 84 0=some 0:=by kernel_rfl
theorem lG:cj Tryz.prog 84 0=some (0,1,false):=by kernel_rfl
theorem lK:cn Tryz.prog 84 1=some 1:=by kernel_rfl
theorem kV:cj Tryz.prog 84 1=some (1,1,false):=by kernel_rfl
theorem IK:kT Tryz.prog 85=3:=by kernel_rfl
theorem Fq:bF Tryz.prog 85=some 1:=by kernel_rfl
theorem uH:aT Tryz.prog 85=some false:=by kernel_rfl
theorem FB:bF Tryz.prog 86=some 1:=by kernel_rfl
theorem yd:aT Tryz.prog 86=some false:=by kernel_rfl
theorem pc:bP Tryz.prog 86=some [.nilIface]:=by kernel_rfl
theorem Gk:bc Tryz.prog 86=some 16:=by kernel_rfl
theorem xH:cg Tryz.prog 86=false:=by kernel_rfl
theorem EQ:bM Tryz.prog 86=false:=by kernel_rfl
theorem EO:kT Tryz.prog 86=4:=by kernel_rfl
theorem IN:bF Tryz.prog 87=some 1:=by kernel_rfl
theorem Ar:aT Tryz.prog 87=some false:=by kernel_rfl
theorem qx:bP Tryz.prog 87=some [.nilIface]:=by kernel_rfl
theorem Iz:bc Tryz.prog 87=some 16:=by kernel_rfl
theorem Cc:cg Tryz.prog 87=false:=by kernel_rfl
theorem Eg:bM Tryz.prog 87=false:=by kernel_rfl
theorem Gp:kT Tryz.prog 87=4:=by kernel_rfl
theorem F7:kT Tryz.prog 89=3:=by kernel_rfl
theorem GO:bF Tryz.prog 89=some 1:=by kernel_rfl
theorem uY:aT Tryz.prog 89=some false:=by kernel_rfl
theorem H9:kT Tryz.prog 90=3:=by kernel_rfl
theorem EA:bF Tryz.prog 90=some 1:=by kernel_rfl
theorem yA:aT Tryz.prog 90=some false:=by kernel_rfl
theorem FD:bF Tryz.prog 91=some 1:=by kernel_rfl
theorem yh:aT Tryz.prog 91=some false:=by kernel_rfl
theorem oK:bP Tryz.prog 91=some [.int .u64 0]:=by kernel_rfl
theorem ET:bc Tryz.prog 91=some 8:=by kernel_rfl
theorem ui:cg Tryz.prog 91=false:=by kernel_rfl
theorem qC:qX Tryz.prog 91=some .u64:=by kernel_rfl
theorem Ho:bM Tryz.prog 91=true:=by kernel_rfl
theorem Gq:kT Tryz.prog 91=0:=by kernel_rfl
theorem F6:bF Tryz.prog 92=some 4:=by kernel_rfl
theorem A6:aT Tryz.prog 92=some true:=by kernel_rfl
theorem oy:bP Tryz.prog 92=some [.int .i64 0,.string ⟨#[]⟩,.int .u64 0,.int .i64 0]:=by kernel_rfl
theorem IB:bc Tryz.prog 92=some 40:=by kernel_rfl
theorem Ck:cg Tryz.prog 92=false:=by kernel_rfl
theorem Ia:bM Tryz.prog 92=true:=by kernel_rfl
theorem Fr:kT Tryz.prog 92=0:=by kernel_rfl
theorem Fc:cq Tryz.prog 92=some [(0,1),(1,1),(2,1),(3,1)]:=by kernel_rfl
theorem kN:cn Tryz.prog 92 0=some 0:=by kernel_rfl
theorem kE:cj Tryz.prog 92 0=some (0,1,false):=by kernel_rfl
theorem jW:cn Tryz.prog 92 1=some 1:=by kernel_rfl
theorem lz:cj Tryz.prog 92 1=some (1,1,false):=by kernel_rfl
theorem jM:cn Tryz.prog 92 2=some 2:=by kernel_rfl
theorem jO:cj Tryz.prog 92 2=some (2,1,false):=by kernel_rfl
theorem lg:cn Tryz.prog 92 3=some 3:=by kernel_rfl
theorem lE:cj Tryz.prog 92 3=some (3,1,false):=by kernel_rfl
theorem Ij:bF Tryz.prog 93=some 4:=by kernel_rfl
theorem tF:aT Tryz.prog 93=some true:=by kernel_rfl
theorem rR:bP Tryz.prog 93=some [.int .i64 0,.string ⟨#[]⟩,.int .u64 0,.int .i64 0]:=by kernel_rfl
theorem FA:bc Tryz.prog 93=some 40:=by kernel_rfl
theorem zf:cg Tryz.prog 93=false:=by kernel_rfl
theorem Ez:bM Tryz.prog 93=true:=by kernel_rfl
theorem Gd:kT Tryz.prog 93=0:=by kernel_rfl
theorem Ew:cq Tryz.prog 93=some [(0,1),(1,1),(2,1),(3,1)]:=by kernel_rfl
theorem jN:cn Tryz.prog 93 0=some 0:=by kernel_rfl
theorem ki:cj Tryz.prog 93 0=some (0,1,false):=by kernel_rfl
theorem k6:cn Tryz.prog 93 1=some 1:=by kernel_rfl
theorem lC:cj Tryz.prog 93 1=some (1,1,false):=by kernel_rfl
theorem kR:cn Tryz.prog 93 2=some 2:=by kernel_rfl
theorem kL:cj Tryz.prog 93 2=some (2,1,false):=by kernel_rfl
theorem kP:cn Tryz.prog 93 3=some 3:=by kernel_rfl
theorem kH:cj Tryz.prog 93 3=some (3,1,false):=by kernel_rfl
theorem F3:kT Tryz.prog 95=3:=by kernel_rfl
theorem GL:bF Tryz.prog 95=some 1:=by kernel_rfl
theorem yL:aT Tryz.prog 95=some false:=by kernel_rfl
theorem IX:bF Tryz.prog 96=some 1:=by kernel_rfl
theorem wp:aT Tryz.prog 96=some true:=by kernel_rfl
theorem rC:bP Tryz.prog 96=some [.int .i64 0]:=by kernel_rfl
theorem IM:bc Tryz.prog 96=some 8:=by kernel_rfl
theorem zg:cg Tryz.prog 96=false:=by kernel_rfl
theorem Fk:bM Tryz.prog 96=true:=by kernel_rfl
theorem zQ0:kT Tryz.prog 96=0:=by kernel_rfl
theorem F2:cq Tryz.prog 96=some [(0,1)]:=by kernel_rfl
theorem kr:cn Tryz.prog 96 0=some 0:=by kernel_rfl
theorem jQ:cj Tryz.prog 96 0=some (0,1,false):=by kernel_rfl
theorem Gz:bF Tryz.prog 97=some 1:=by kernel_rfl
theorem B7:aT Tryz.prog 97=some true:=by kernel_rfl
theorem qW:bP Tryz.prog 97=some [.int .i64 0]:=by kernel_rfl
theorem GX:bc Tryz.prog 97=some 8:=by kernel_rfl
theorem Bs:cg Tryz.prog 97=false:=by kernel_rfl
theorem IG:bM Tryz.prog 97=true:=by kernel_rfl
theorem HG:kT Tryz.prog 97=0:=by kernel_rfl
theorem Hg:cq Tryz.prog 97=some [(0,1)]:=by kernel_rfl
theorem kj:cn Tryz.prog 97 0=some 0:=by kernel_rfl
theorem lf:cj Tryz.prog 97 0=some (0,1,false):=by kernel_rfl
theorem Io:kT Tryz.prog 98=3:=by kernel_rfl
theorem GS:bF Tryz.prog 98=some 1:=by kernel_rfl
theorem vi:aT Tryz.prog 98=some false:=by kernel_rfl
theorem Hk:kT Tryz.prog 99=3:=by kernel_rfl
theorem Ik:bF Tryz.prog 99=some 1:=by kernel_rfl
theorem x4:aT Tryz.prog 99=some false:=by kernel_rfl
theorem xb:kT Tryz.prog 100=3:=by kernel_rfl
theorem vd:bF Tryz.prog 100=some 1:=by kernel_rfl
theorem rY:aT Tryz.prog 100=some false:=by kernel_rfl
theorem yp:kT Tryz.prog 101=3:=by kernel_rfl
theorem AT:bF Tryz.prog 101=some 1:=by kernel_rfl
theorem r5:aT Tryz.prog 101=some false:=by kernel_rfl
theorem ua:kT Tryz.prog 102=3:=by kernel_rfl
theorem AP:bF Tryz.prog 102=some 1:=by kernel_rfl
theorem o0:aT Tryz.prog 102=some false:=by kernel_rfl
theorem wV:bF Tryz.prog 103=some 1:=by kernel_rfl
theorem nA:aT Tryz.prog 103=some false:=by kernel_rfl
theorem jB:bP Tryz.prog 103=some [.slice none 0 0]:=by kernel_rfl
theorem wi:bc Tryz.prog 103=some 24:=by kernel_rfl
theorem eF:i5 Tryz.prog 103=some 106:=by kernel_rfl
theorem pf:cg Tryz.prog 103=false:=by kernel_rfl
theorem uk:ga Tryz.prog 103=false:=by kernel_rfl
theorem ux:bM Tryz.prog 103=true:=by kernel_rfl
theorem qf:Tryz.prog.underlying 103=some (.slice 106):=by kernel_rfl
theorem yy:kT Tryz.prog 103=1:=by kernel_rfl
theorem vB:kT Tryz.prog 104=3:=by kernel_rfl
theorem wz:bF Tryz.prog 104=some 1:=by kernel_rfl
theorem px:aT Tryz.prog 104=some false:=by kernel_rfl
theorem wB:bF Tryz.prog 105=some 2:=by kernel_rfl
theorem qG:aT Tryz.prog 105=some true:=by kernel_rfl
theorem lh:bP Tryz.prog 105=some [.string ⟨#[]⟩,.int .i64 0]:=by kernel_rfl
theorem BP:bc Tryz.prog 105=some 24:=by kernel_rfl
theorem mT:cg Tryz.prog 105=false:=by kernel_rfl
theorem vv:bM Tryz.prog 105=true:=by kernel_rfl
theorem AI:kT Tryz.prog 105=0:=by kernel_rfl
theorem zq:cq Tryz.prog 105=some [(0,1),(1,1)]:=by kernel_rfl
theorem gW:cn Tryz.prog 105 0=some 0:=by kernel_rfl
theorem gE:cj Tryz.prog 105 0=some (0,1,false):=by kernel_rfl
theorem gQ:cn Tryz.prog 105 1=some 1:=by kernel_rfl
theorem fW:cj Tryz.prog 105 1=some (1,1,false):=by kernel_rfl
theorem eE:bF Tryz.prog 106=some 2:=by kernel_rfl
theorem eS:aT Tryz.prog 106=some true:=by kernel_rfl
theorem dk:bP Tryz.prog 106=some [.string ⟨#[]⟩,.int .i64 0]:=by kernel_rfl
theorem wa:bc Tryz.prog 106=some 24:=by kernel_rfl
theorem oY:cg Tryz.prog 106=false:=by kernel_rfl
theorem zK:bM Tryz.prog 106=true:=by kernel_rfl
theorem AZ:kT Tryz.prog 106=0:=by kernel_rfl
theorem lO:cq Tryz.prog 106=some [(0,1),(1,1)]:=by kernel_rfl
theorem dB:cn Tryz.prog 106 0=some 0:=by kernel_rfl
theorem gI:cj Tryz.prog 106 0=some (0,1,false):=by kernel_rfl
theorem dC:cn Tryz.prog 106 1=some 1:=by kernel_rfl
theorem gA:cj Tryz.prog 106 1=some (1,1,false):=by kernel_rfl
theorem vu:kT Tryz.prog 107=3:=by kernel_rfl
theorem zu:bF Tryz.prog 107=some 1:=by kernel_rfl
theorem m9:aT Tryz.prog 107=some false:=by kernel_rfl
theorem BF:kT Tryz.prog 109=3:=by kernel_rfl
theorem BW:bF Tryz.prog 109=some 1:=by kernel_rfl
theorem mX:aT Tryz.prog 109=some false:=by kernel_rfl
theorem xJ:kT Tryz.prog 110=3:=by kernel_rfl
theorem u7:bF Tryz.prog 110=some 1:=by kernel_rfl
theorem qT:aT Tryz.prog 110=some false:=by kernel_rfl
theorem ue:kT Tryz.prog 111=3:=by kernel_rfl
theorem Bj:bF Tryz.prog 111=some 1:=by kernel_rfl
theorem oH:aT Tryz.prog 111=some false:=by kernel_rfl
theorem B8:bF Tryz.prog 112=some 1:=by kernel_rfl
theorem oZ:aT Tryz.prog 112=some false:=by kernel_rfl
theorem j0:bP Tryz.prog 112=some [.nilFunc]:=by kernel_rfl
theorem zI:bc Tryz.prog 112=some 8:=by kernel_rfl
theorem mW:cg Tryz.prog 112=false:=by kernel_rfl
theorem vL:bM Tryz.prog 112=true:=by kernel_rfl
theorem xY:kT Tryz.prog 112=3:=by kernel_rfl
theorem yf:kT Tryz.prog 113=3:=by kernel_rfl
theorem xf:bF Tryz.prog 113=some 1:=by kernel_rfl
theorem oG:aT Tryz.prog 113=some false:=by kernel_rfl
theorem xx:kT Tryz.prog 115=3:=by kernel_rfl
theorem yX:bF Tryz.prog 115=some 1:=by kernel_rfl
theorem nu:aT Tryz.prog 115=some false:=by kernel_rfl
theorem Bw:bF Tryz.prog 116=some 2:=by kernel_rfl
theorem rc:aT Tryz.prog 116=some true:=by kernel_rfl
theorem kO:bP Tryz.prog 116=some [.string ⟨#[]⟩,.string ⟨#[]⟩]:=by kernel_rfl
theorem zO:bc Tryz.prog 116=some 32:=by kernel_rfl
theorem nh:cg Tryz.prog 116=false:=by kernel_rfl
theorem Bz:bM Tryz.prog 116=true:=by kernel_rfl
theorem pg:Tryz.prog.underlying 116=some (.array 2 9):=by kernel_rfl
theorem zh:kT Tryz.prog 116=0:=by kernel_rfl
theorem np:Di Tryz.prog 116=some 1:=by kernel_rfl
theorem vK:cq Tryz.prog 116=none:=by kernel_rfl
theorem qs:Ad Tryz.prog 116=some (2,1):=by kernel_rfl
theorem uq:kT Tryz.prog 117=3:=by kernel_rfl
theorem BM:bF Tryz.prog 117=some 1:=by kernel_rfl
theorem m8:aT Tryz.prog 117=some false:=by kernel_rfl
theorem yn:bF Tryz.prog 118=some 1:=by kernel_rfl
theorem nt:aT Tryz.prog 118=some false:=by kernel_rfl
theorem kG:bP Tryz.prog 118=some [.slice none 0 0]:=by kernel_rfl
theorem Am:bc Tryz.prog 118=some 24:=by kernel_rfl
theorem db:i5 Tryz.prog 118=some 121:=by kernel_rfl
theorem pw:cg Tryz.prog 118=false:=by kernel_rfl
theorem By:ga Tryz.prog 118=false:=by kernel_rfl
theorem xv:bM Tryz.prog 118=true:=by kernel_rfl
theorem rX:Tryz.prog.underlying 118=some (.slice 121):=by kernel_rfl
theorem xQ:kT Tryz.prog 118=1:=by kernel_rfl
theorem Bb:kT Tryz.prog 119=3:=by kernel_rfl
theorem yu:bF Tryz.prog 119=some 1:=by kernel_rfl
theorem qj:aT Tryz.prog 119=some false:=by kernel_rfl
theorem zG:bF Tryz.prog 120=some 2:=by kernel_rfl
theorem oQ:aT Tryz.prog 120=some true:=by kernel_rfl
theorem jL:bP Tryz.prog 120=some [.string ⟨#[]⟩,.int .i64 0]:=by kernel_rfl
theorem vg:bc Tryz.prog 120=some 24:=by kernel_rfl
theorem n5:cg Tryz.prog 120=false:=by kernel_rfl
theorem AQ:bM Tryz.prog 120=true:=by kernel_rfl
theorem vZ:kT Tryz.prog 120=0:=by kernel_rfl
theorem tW:cq Tryz.prog 120=some [(0,1),(1,1)]:=by kernel_rfl
theorem gv:cn Tryz.prog 120 0=some 0:=by kernel_rfl
theorem ia:cj Tryz.prog 120 0=some (0,1,false):=by kernel_rfl
theorem gw:cn Tryz.prog 120 1=some 1:=by kernel_rfl
theorem gF:cj Tryz.prog 120 1=some (1,1,false):=by kernel_rfl
theorem da:bF Tryz.prog 121=some 2:=by kernel_rfl
theorem pR:aT Tryz.prog 121=some true:=by kernel_rfl
theorem ep:bP Tryz.prog 121=some [.string ⟨#[]⟩,.int .i64 0]:=by kernel_rfl
theorem tv:bc Tryz.prog 121=some 24:=by kernel_rfl
theorem oB:cg Tryz.prog 121=false:=by kernel_rfl
theorem tM:bM Tryz.prog 121=true:=by kernel_rfl
theorem vU:kT Tryz.prog 121=0:=by kernel_rfl
theorem i7:cq Tryz.prog 121=some [(0,1),(1,1)]:=by kernel_rfl
theorem ce:cn Tryz.prog 121 0=some 0:=by kernel_rfl
theorem io:cj Tryz.prog 121 0=some (0,1,false):=by kernel_rfl
theorem ca:cn Tryz.prog 121 1=some 1:=by kernel_rfl
theorem hZ:cj Tryz.prog 121 1=some (1,1,false):=by kernel_rfl
theorem BE:kT Tryz.prog 122=3:=by kernel_rfl
theorem Ce:bF Tryz.prog 122=some 1:=by kernel_rfl
theorem qK:aT Tryz.prog 122=some false:=by kernel_rfl
theorem Az:kT Tryz.prog 123=3:=by kernel_rfl
theorem zD:bF Tryz.prog 123=some 1:=by kernel_rfl
theorem rt:aT Tryz.prog 123=some false:=by kernel_rfl
theorem vp:bF Tryz.prog 124=some 1:=by kernel_rfl
theorem pS:aT Tryz.prog 124=some false:=by kernel_rfl
theorem kQ:bP Tryz.prog 124=some [.pointer none]:=by kernel_rfl
theorem uT:bc Tryz.prog 124=some 8:=by kernel_rfl
theorem pO:cg Tryz.prog 124=false:=by kernel_rfl
theorem xZ:bM Tryz.prog 124=true:=by kernel_rfl
theorem qa:Tryz.prog.underlying 124=some (.pointer 5):=by kernel_rfl
theorem Bu:kT Tryz.prog 124=2:=by kernel_rfl
theorem zS:kT Tryz.prog 125=3:=by kernel_rfl
theorem vo:bF Tryz.prog 125=some 1:=by kernel_rfl
theorem qZ:aT Tryz.prog 125=some false:=by kernel_rfl
theorem ug:kT Tryz.prog 127=3:=by kernel_rfl
theorem Ax:bF Tryz.prog 127=some 1:=by kernel_rfl
theorem mR:aT Tryz.prog 127=some false:=by kernel_rfl
theorem wt:kT Tryz.prog 129=3:=by kernel_rfl
theorem x2:bF Tryz.prog 129=some 1:=by kernel_rfl
theorem pD:aT Tryz.prog 129=some false:=by kernel_rfl
theorem wh:kT Tryz.prog 130=3:=by kernel_rfl
theorem yU:bF Tryz.prog 130=some 1:=by kernel_rfl
theorem pK:aT Tryz.prog 130=some false:=by kernel_rfl
theorem uQ:kT Tryz.prog 132=3:=by kernel_rfl
theorem BU:bF Tryz.prog 132=some 1:=by kernel_rfl
theorem pU:aT Tryz.prog 132=some false:=by kernel_rfl
theorem Bh:kT Tryz.prog 133=3:=by kernel_rfl
theorem uA:bF Tryz.prog 133=some 1:=by kernel_rfl
theorem oX:aT Tryz.prog 133=some false:=by kernel_rfl
theorem zH:kT Tryz.prog 134=3:=by kernel_rfl
theorem xd:bF Tryz.prog 134=some 1:=by kernel_rfl
theorem rL:aT Tryz.prog 134=some false:=by kernel_rfl
theorem Bl:kT Tryz.prog 135=3:=by kernel_rfl
theorem xe:bF Tryz.prog 135=some 1:=by kernel_rfl
theorem rV:aT Tryz.prog 135=some false:=by kernel_rfl
theorem wJ:kT Tryz.prog 136=3:=by kernel_rfl
theorem Au:bF Tryz.prog 136=some 1:=by kernel_rfl
theorem qI:aT Tryz.prog 136=some false:=by kernel_rfl
theorem zz:kT Tryz.prog 137=3:=by kernel_rfl
theorem zM:bF Tryz.prog 137=some 1:=by kernel_rfl
theorem rh:aT Tryz.prog 137=some false:=by kernel_rfl
theorem AU:bF Tryz.prog 138=some 1:=by kernel_rfl
theorem oc:aT Tryz.prog 138=some false:=by kernel_rfl
theorem jw:bP Tryz.prog 138=some [.int .u64 0]:=by kernel_rfl
theorem vy:bc Tryz.prog 138=some 8:=by kernel_rfl
theorem rT:cg Tryz.prog 138=false:=by kernel_rfl
theorem jc:qX Tryz.prog 138=some .u64:=by kernel_rfl
theorem wI:bM Tryz.prog 138=true:=by kernel_rfl
theorem yv:kT Tryz.prog 138=0:=by kernel_rfl
theorem wv:kT Tryz.prog 140=3:=by kernel_rfl
theorem yN:bF Tryz.prog 140=some 1:=by kernel_rfl
theorem qR:aT Tryz.prog 140=some false:=by kernel_rfl
theorem wA:kT Tryz.prog 142=3:=by kernel_rfl
theorem Cd:bF Tryz.prog 142=some 1:=by kernel_rfl
theorem qh:aT Tryz.prog 142=some false:=by kernel_rfl
theorem xW:kT Tryz.prog 143=3:=by kernel_rfl
theorem wb:bF Tryz.prog 143=some 1:=by kernel_rfl
theorem pT:aT Tryz.prog 143=some false:=by kernel_rfl
theorem tw:kT Tryz.prog 144=3:=by kernel_rfl
theorem yT:bF Tryz.prog 144=some 1:=by kernel_rfl
theorem qy:aT Tryz.prog 144=some false:=by kernel_rfl
theorem dM:bF Tryz.prog 145=some 5:=by kernel_rfl
theorem na:aT Tryz.prog 145=some true:=by kernel_rfl
theorem cU:bP Tryz.prog 145=some [.string ⟨#[]⟩,.string ⟨#[]⟩,.string ⟨#[]⟩,.string ⟨#[]⟩,.string ⟨#[]⟩]:=by kernel_rfl
theorem yE:bc Tryz.prog 145=some 80:=by kernel_rfl
theorem p8:cg Tryz.prog 145=false:=by kernel_rfl
theorem yW:bM Tryz.prog 145=true:=by kernel_rfl
theorem oW:Tryz.prog.underlying 145=some (.array 5 9):=by kernel_rfl
theorem yJ:kT Tryz.prog 145=0:=by kernel_rfl
theorem dv:Di Tryz.prog 145=some 1:=by kernel_rfl
theorem dK:cq Tryz.prog 145=none:=by kernel_rfl
theorem dq:Ad Tryz.prog 145=some (5,1):=by kernel_rfl
theorem dJ:bF Tryz.prog 146=some 5:=by kernel_rfl
theorem pH:aT Tryz.prog 146=some true:=by kernel_rfl
theorem cT:bP Tryz.prog 146=some [.int .i64 0,.int .i64 0,.int .i64 0,.int .i64 0,.int .i64 0]:=by kernel_rfl
theorem xE:bc Tryz.prog 146=some 40:=by kernel_rfl
theorem rE:cg Tryz.prog 146=false:=by kernel_rfl
theorem xG:bM Tryz.prog 146=true:=by kernel_rfl
theorem ry:Tryz.prog.underlying 146=some (.array 5 3):=by kernel_rfl
theorem u9:kT Tryz.prog 146=0:=by kernel_rfl
theorem dm:Di Tryz.prog 146=some 1:=by kernel_rfl
theorem dL:cq Tryz.prog 146=none:=by kernel_rfl
theorem du:Ad Tryz.prog 146=some (5,1):=by kernel_rfl
theorem Br:bF Tryz.prog 147=some 20:=by kernel_rfl
theorem qu:aT Tryz.prog 147=some true:=by kernel_rfl
theorem ky:bP Tryz.prog 147=some [.int .u8 0,.int .u8 0,.int .u8 0,.int .u8 0,.int .u8 0,.int .u8 0,.int .u8 0,.int .u8 0,.int .u8 0,.int .u8 0,.int .u8 0,.int .u8 0,.int .u8 0,.int .u8 0,.int .u8 0,.int .u8 0,.int .u8 0,.int .u8 0,.int .u8 0,.int .u8 0]:=by kernel_rfl
theorem tN:bc Tryz.prog 147=some 20:=by kernel_rfl
theorem ph:cg Tryz.prog 147=false:=by kernel_rfl
theorem ww:bM Tryz.prog 147=true:=by kernel_rfl
theorem pF:Tryz.prog.underlying 147=some (.array 20 5):=by kernel_rfl
theorem vr:kT Tryz.prog 147=0:=by kernel_rfl
theorem mY:Di Tryz.prog 147=some 1:=by kernel_rfl
theorem xU:cq Tryz.prog 147=none:=by kernel_rfl
theorem rG:Ad Tryz.prog 147=some (20,1):=by kernel_rfl
theorem xP:kT Tryz.prog 148=3:=by kernel_rfl
theorem Bq:bF Tryz.prog 148=some 1:=by kernel_rfl
theorem rj:aT Tryz.prog 148=some false:=by kernel_rfl
theorem wg:kT Tryz.prog 149=3:=by kernel_rfl
theorem wD:bF Tryz.prog 149=some 1:=by kernel_rfl
theorem pV:aT Tryz.prog 149=some false:=by kernel_rfl
theorem vS:bF Tryz.prog 150=some 1:=by kernel_rfl
theorem nD:aT Tryz.prog 150=some false:=by kernel_rfl
theorem lw:bP Tryz.prog 150=some [.pointer none]:=by kernel_rfl
theorem vq:bc Tryz.prog 150=some 8:=by kernel_rfl
theorem oe:cg Tryz.prog 150=false:=by kernel_rfl
theorem Aw:bM Tryz.prog 150=true:=by kernel_rfl
theorem zm:kT Tryz.prog 150=0:=by kernel_rfl
theorem tf:kT Tryz.prog 151=3:=by kernel_rfl
theorem AX:bF Tryz.prog 151=some 1:=by kernel_rfl
theorem qi:aT Tryz.prog 151=some false:=by kernel_rfl
theorem u4:kT Tryz.prog 152=3:=by kernel_rfl
theorem A9:bF Tryz.prog 152=some 1:=by kernel_rfl
theorem rJ:aT Tryz.prog 152=some false:=by kernel_rfl
theorem zW:kT Tryz.prog 153=3:=by kernel_rfl
theorem vb:bF Tryz.prog 153=some 1:=by kernel_rfl
theorem rI:aT Tryz.prog 153=some false:=by kernel_rfl
theorem xM:kT Tryz.prog 154=3:=by kernel_rfl
theorem uO:bF Tryz.prog 154=some 1:=by kernel_rfl
theorem re:aT Tryz.prog 154=some false:=by kernel_rfl
theorem wT:kT Tryz.prog 155=3:=by kernel_rfl
theorem vT:bF Tryz.prog 155=some 1:=by kernel_rfl
theorem qP:aT Tryz.prog 155=some false:=by kernel_rfl
theorem yc:bF Tryz.prog 156=some 1:=by kernel_rfl
theorem pq:aT Tryz.prog 156=some false:=by kernel_rfl
theorem jn:bP Tryz.prog 156=some [.slice none 0 0]:=by kernel_rfl
theorem t7:bc Tryz.prog 156=some 24:=by kernel_rfl
theorem zN:i5 Tryz.prog 156=some 183:=by kernel_rfl
theorem qQ:cg Tryz.prog 156=false:=by kernel_rfl
theorem uy:ga Tryz.prog 156=false:=by kernel_rfl
theorem ud:bM Tryz.prog 156=true:=by kernel_rfl
theorem qo:Tryz.prog.underlying 156=some (.slice 183):=by kernel_rfl
theorem uC:kT Tryz.prog 156=1:=by kernel_rfl
theorem xK:kT Tryz.prog 158=3:=by kernel_rfl
theorem Bm:bF Tryz.prog 158=some 1:=by kernel_rfl
theorem pk:aT Tryz.prog 158=some false:=by kernel_rfl
theorem xt:kT Tryz.prog 160=3:=by kernel_rfl
theorem uR:bF Tryz.prog 160=some 1:=by kernel_rfl
theorem nR:aT Tryz.prog 160=some false:=by kernel_rfl
theorem Ai:bF Tryz.prog 161=some 1:=by kernel_rfl
theorem oN:aT Tryz.prog 161=some false:=by kernel_rfl
theorem jm:bP Tryz.prog 161=some [.slice none 0 0]:=by kernel_rfl
theorem Ak:bc Tryz.prog 161=some 24:=by kernel_rfl
theorem AJ:i5 Tryz.prog 161=some 3:=by kernel_rfl
theorem oE:cg Tryz.prog 161=false:=by kernel_rfl
theorem yg:ga Tryz.prog 161=false:=by kernel_rfl
theorem vI:bM Tryz.prog 161=true:=by kernel_rfl
theorem ou:Tryz.prog.underlying 161=some (.slice 3):=by kernel_rfl
theorem zV:kT Tryz.prog 161=1:=by kernel_rfl
theorem yD:bF Tryz.prog 162=some 3:=by kernel_rfl
theorem qM:aT Tryz.prog 162=some true:=by kernel_rfl
theorem jD:bP Tryz.prog 162=some [.int .u8 0,.int .u8 0,.int .u8 0]:=by kernel_rfl
theorem Ay:bc Tryz.prog 162=some 3:=by kernel_rfl
theorem rF:cg Tryz.prog 162=false:=by kernel_rfl
theorem AS:bM Tryz.prog 162=true:=by kernel_rfl
theorem p9:Tryz.prog.underlying 162=some (.array 3 5):=by kernel_rfl
theorem BS:kT Tryz.prog 162=0:=by kernel_rfl
theorem pr:Di Tryz.prog 162=some 1:=by kernel_rfl
theorem uS:cq Tryz.prog 162=none:=by kernel_rfl
theorem rW:Ad Tryz.prog 162=some (3,1):=by kernel_rfl
theorem tP:kT Tryz.prog 163=3:=by kernel_rfl
theorem wl:bF Tryz.prog 163=some 1:=by kernel_rfl
theorem pW:aT Tryz.prog 163=some false:=by kernel_rfl
theorem Ao:bF Tryz.prog 164=some 1:=by kernel_rfl
theorem nE:aT Tryz.prog 164=some false:=by kernel_rfl
theorem jF:bP Tryz.prog 164=some [.int .u8 0]:=by kernel_rfl
theorem uz:bc Tryz.prog 164=some 1:=by kernel_rfl
theorem rl:cg Tryz.prog 164=false:=by kernel_rfl
theorem lA:qX Tryz.prog 164=some .u8:=by kernel_rfl
theorem xl:bM Tryz.prog 164=true:=by kernel_rfl
theorem Bi:kT Tryz.prog 164=0:=by kernel_rfl
theorem xB:kT Tryz.prog 165=3:=by kernel_rfl
theorem x3:bF Tryz.prog 165=some 1:=by kernel_rfl
theorem nL:aT Tryz.prog 165=some false:=by kernel_rfl
theorem yZ:kT Tryz.prog 166=3:=by kernel_rfl
theorem BD:bF Tryz.prog 166=some 1:=by kernel_rfl
theorem qD:aT Tryz.prog 166=some false:=by kernel_rfl
theorem Bk:bF Tryz.prog 167=some 24:=by kernel_rfl
theorem ru:aT Tryz.prog 167=some true:=by kernel_rfl
theorem ku:bP Tryz.prog 167=some [.int .u8 0,.int .u8 0,.int .u8 0,.int .u8 0,.int .u8 0,.int .u8 0,.int .u8 0,.int .u8 0,.int .u8 0,.int .u8 0,.int .u8 0,.int .u8 0,.int .u8 0,.int .u8 0,.int .u8 0,.int .u8 0,.int .u8 0,.int .u8 0,.int .u8 0,.int .u8 0,.int .u8 0,.int .u8 0,.int .u8 0,.int .u8 0]:=by kernel_rfl
theorem yF:bc Tryz.prog 167=some 24:=by kernel_rfl
theorem qV:cg Tryz.prog 167=false:=by kernel_rfl
theorem uG:bM Tryz.prog 167=true:=by kernel_rfl
theorem qr:Tryz.prog.underlying 167=some (.array 24 5):=by kernel_rfl
theorem uD:kT Tryz.prog 167=0:=by kernel_rfl
theorem qE:Di Tryz.prog 167=some 1:=by kernel_rfl
theorem tg:cq Tryz.prog 167=none:=by kernel_rfl
theorem qz:Ad Tryz.prog 167=some (24,1):=by kernel_rfl
theorem wC:kT Tryz.prog 168=3:=by kernel_rfl
theorem tA:bF Tryz.prog 168=some 1:=by kernel_rfl
theorem mM:aT Tryz.prog 168=some false:=by kernel_rfl
theorem zX:kT Tryz.prog 169=3:=by kernel_rfl
theorem BX:bF Tryz.prog 169=some 1:=by kernel_rfl
theorem mO:aT Tryz.prog 169=some false:=by kernel_rfl
theorem xz:kT Tryz.prog 171=3:=by kernel_rfl
theorem xj:bF Tryz.prog 171=some 1:=by kernel_rfl
theorem rZ:aT Tryz.prog 171=some false:=by kernel_rfl
theorem yG:bF Tryz.prog 172=some 1:=by kernel_rfl
theorem nP:aT Tryz.prog 172=some false:=by kernel_rfl
theorem lH:bP Tryz.prog 172=some [.int .u32 0]:=by kernel_rfl
theorem yj:bc Tryz.prog 172=some 4:=by kernel_rfl
theorem qe:cg Tryz.prog 172=false:=by kernel_rfl
theorem j6:qX Tryz.prog 172=some .u32:=by kernel_rfl
theorem AB:bM Tryz.prog 172=true:=by kernel_rfl
theorem zZ:kT Tryz.prog 172=0:=by kernel_rfl
theorem xN:kT Tryz.prog 174=3:=by kernel_rfl
theorem uM:bF Tryz.prog 174=some 1:=by kernel_rfl
theorem oo:aT Tryz.prog 174=some false:=by kernel_rfl
theorem wj:bF Tryz.prog 175=some 1:=by kernel_rfl
theorem oI:aT Tryz.prog 175=some true:=by kernel_rfl
theorem kz:bP Tryz.prog 175=some [.int .i64 0]:=by kernel_rfl
theorem yl:bc Tryz.prog 175=some 8:=by kernel_rfl
theorem ny:cg Tryz.prog 175=false:=by kernel_rfl
theorem zj:bM Tryz.prog 175=true:=by kernel_rfl
theorem Aa:kT Tryz.prog 175=0:=by kernel_rfl
theorem zR:cq Tryz.prog 175=some [(0,1)]:=by kernel_rfl
theorem f9:cn Tryz.prog 175 0=some 0:=by kernel_rfl
theorem ik:cj Tryz.prog 175 0=some (0,1,false):=by kernel_rfl
theorem AA:bF Tryz.prog 176=some 1:=by kernel_rfl
theorem qO:aT Tryz.prog 176=some true:=by kernel_rfl
theorem jX:bP Tryz.prog 176=some [.int .i64 0]:=by kernel_rfl
theorem tG:bc Tryz.prog 176=some 8:=by kernel_rfl
theorem qv:cg Tryz.prog 176=false:=by kernel_rfl
theorem Bg:bM Tryz.prog 176=true:=by kernel_rfl
theorem zi:kT Tryz.prog 176=0:=by kernel_rfl
theorem tV:cq Tryz.prog 176=some [(0,1)]:=by kernel_rfl
theorem iD:cn Tryz.prog 176 0=some 0:=by kernel_rfl
theorem gT:cj Tryz.prog 176 0=some (0,1,false):=by kernel_rfl
theorem yS:bF Tryz.prog 177=some 1:=by kernel_rfl
theorem rK:aT Tryz.prog 177=some false:=by kernel_rfl
theorem jl:bP Tryz.prog 177=some [.pointer none]:=by kernel_rfl
theorem uc:bc Tryz.prog 177=some 8:=by kernel_rfl
theorem pu:cg Tryz.prog 177=false:=by kernel_rfl
theorem vC:bM Tryz.prog 177=true:=by kernel_rfl
theorem rq:Tryz.prog.underlying 177=some (.pointer 179):=by kernel_rfl
theorem yK:kT Tryz.prog 177=2:=by kernel_rfl
theorem A5:bF Tryz.prog 178=some 4:=by kernel_rfl
theorem py:aT Tryz.prog 178=some true:=by kernel_rfl
theorem kn:bP Tryz.prog 178=some [.slice none 0 0,.int .i64 0,.int .i64 0,.slice none 0 0]:=by kernel_rfl
theorem tE:bc Tryz.prog 178=some 64:=by kernel_rfl
theorem qc:cg Tryz.prog 178=false:=by kernel_rfl
theorem Be:bM Tryz.prog 178=true:=by kernel_rfl
theorem AG:kT Tryz.prog 178=0:=by kernel_rfl
theorem tH:cq Tryz.prog 178=some [(0,1),(1,1),(2,1),(3,1)]:=by kernel_rfl
theorem ip:cn Tryz.prog 178 0=some 0:=by kernel_rfl
theorem iC:cj Tryz.prog 178 0=some (0,1,false):=by kernel_rfl
theorem gy:cn Tryz.prog 178 1=some 1:=by kernel_rfl
theorem gU:cj Tryz.prog 178 1=some (1,1,false):=by kernel_rfl
theorem iA:cn Tryz.prog 178 2=some 2:=by kernel_rfl
theorem gB:cj Tryz.prog 178 2=some (2,1,false):=by kernel_rfl
theorem gC:cn Tryz.prog 178 3=some 3:=by kernel_rfl
theorem gj:cj Tryz.prog 178 3=some (3,1,false):=by kernel_rfl
theorem vM:bF Tryz.prog 179=some 4:=by kernel_rfl
theorem mQ:aT Tryz.prog 179=some true:=by kernel_rfl
theorem ln:bP Tryz.prog 179=some [.slice none 0 0,.int .i64 0,.int .i64 0,.slice none 0 0]:=by kernel_rfl
theorem tq:bc Tryz.prog 179=some 64:=by kernel_rfl
theorem oU:cg Tryz.prog 179=false:=by kernel_rfl
theorem v6:bM Tryz.prog 179=true:=by kernel_rfl
theorem zr:kT Tryz.prog 179=0:=by kernel_rfl
theorem yR:cq Tryz.prog 179=some [(0,1),(1,1),(2,1),(3,1)]:=by kernel_rfl
theorem gV:cn Tryz.prog 179 0=some 0:=by kernel_rfl
theorem gY:cj Tryz.prog 179 0=some (0,1,false):=by kernel_rfl
theorem fZ:cn Tryz.prog 179 1=some 1:=by kernel_rfl
theorem iB:cj Tryz.prog 179 1=some (1,1,false):=by kernel_rfl
theorem ij:cn Tryz.prog 179 2=some 2:=by kernel_rfl
theorem gZ:cj Tryz.prog 179 2=some (2,1,false):=by kernel_rfl
theorem ir:cn Tryz.prog 179 3=some 3:=by kernel_rfl
theorem ic:cj Tryz.prog 179 3=some (3,1,false):=by kernel_rfl
theorem ze:kT Tryz.prog 180=3:=by kernel_rfl
theorem ub:bF Tryz.prog 180=some 1:=by kernel_rfl
theorem pt:aT Tryz.prog 180=some false:=by kernel_rfl
theorem zl:bF Tryz.prog 181=some 1:=by kernel_rfl
theorem rN:aT Tryz.prog 181=some false:=by kernel_rfl
theorem jY:bP Tryz.prog 181=some [.slice none 0 0]:=by kernel_rfl
theorem wm:bc Tryz.prog 181=some 24:=by kernel_rfl
theorem v8:i5 Tryz.prog 181=some 36:=by kernel_rfl
theorem pQ:cg Tryz.prog 181=false:=by kernel_rfl
theorem uj:ga Tryz.prog 181=false:=by kernel_rfl
theorem Ap:bM Tryz.prog 181=true:=by kernel_rfl
theorem qH:Tryz.prog.underlying 181=some (.slice 36):=by kernel_rfl
theorem Ah:kT Tryz.prog 181=1:=by kernel_rfl
theorem vE:bF Tryz.prog 182=some 3:=by kernel_rfl
theorem qp:aT Tryz.prog 182=some true:=by kernel_rfl
theorem kB:bP Tryz.prog 182=some [.int .i64 0,.int .i64 0,.string ⟨#[]⟩]:=by kernel_rfl
theorem uW:bc Tryz.prog 182=some 32:=by kernel_rfl
theorem pA:cg Tryz.prog 182=false:=by kernel_rfl
theorem zQ:bM Tryz.prog 182=true:=by kernel_rfl
theorem vW:kT Tryz.prog 182=0:=by kernel_rfl
theorem zd:cq Tryz.prog 182=some [(0,1),(1,1),(2,1)]:=by kernel_rfl
theorem iJ:cn Tryz.prog 182 0=some 0:=by kernel_rfl
theorem hH:cj Tryz.prog 182 0=some (0,1,false):=by kernel_rfl
theorem gJ:cn Tryz.prog 182 1=some 1:=by kernel_rfl
theorem iG:cj Tryz.prog 182 1=some (1,1,false):=by kernel_rfl
theorem gr:cn Tryz.prog 182 2=some 2:=by kernel_rfl
theorem fV:cj Tryz.prog 182 2=some (2,1,false):=by kernel_rfl
theorem Aj:bF Tryz.prog 183=some 3:=by kernel_rfl
theorem nq:aT Tryz.prog 183=some true:=by kernel_rfl
theorem jb:bP Tryz.prog 183=some [.int .i64 0,.int .i64 0,.string ⟨#[]⟩]:=by kernel_rfl
theorem vO:bc Tryz.prog 183=some 32:=by kernel_rfl
theorem ow:cg Tryz.prog 183=false:=by kernel_rfl
theorem Cb:bM Tryz.prog 183=true:=by kernel_rfl
theorem vY:kT Tryz.prog 183=0:=by kernel_rfl
theorem zb:cq Tryz.prog 183=some [(0,1),(1,1),(2,1)]:=by kernel_rfl
theorem ib:cn Tryz.prog 183 0=some 0:=by kernel_rfl
theorem iI:cj Tryz.prog 183 0=some (0,1,false):=by kernel_rfl
theorem gu:cn Tryz.prog 183 1=some 1:=by kernel_rfl
theorem gG:cj Tryz.prog 183 1=some (1,1,false):=by kernel_rfl
theorem gd:cn Tryz.prog 183 2=some 2:=by kernel_rfl
theorem ii:cj Tryz.prog 183 2=some (2,1,false):=by kernel_rfl
theorem za:kT Tryz.prog 184=3:=by kernel_rfl
theorem wU:bF Tryz.prog 184=some 1:=by kernel_rfl
theorem nN:aT Tryz.prog 184=some false:=by kernel_rfl
theorem vc:kT Tryz.prog 185=3:=by kernel_rfl
theorem BG:bF Tryz.prog 185=some 1:=by kernel_rfl
theorem rd:aT Tryz.prog 185=some false:=by kernel_rfl
theorem vX:kT Tryz.prog 186=3:=by kernel_rfl
theorem xA:bF Tryz.prog 186=some 1:=by kernel_rfl
theorem nG:aT Tryz.prog 186=some false:=by kernel_rfl
theorem AK:bF Tryz.prog 187=some 20:=by kernel_rfl
theorem rU:aT Tryz.prog 187=some true:=by kernel_rfl
theorem kY:bP Tryz.prog 187=some [.int .u64 0,.int .u64 0,.int .u64 0,.int .u64 0,.int .u64 0,.int .u64 0,.int .u64 0,.int .u64 0,.int .u64 0,.int .u64 0,.int .u64 0,.int .u64 0,.int .u64 0,.int .u64 0,.int .u64 0,.int .u64 0,.int .u64 0,.int .u64 0,.int .u64 0,.int .u64 0]:=by kernel_rfl
theorem yz:bc Tryz.prog 187=some 160:=by kernel_rfl
theorem nV:cg Tryz.prog 187=false:=by kernel_rfl
theorem x7:bM Tryz.prog 187=true:=by kernel_rfl
theorem oi:Tryz.prog.underlying 187=some (.array 20 91):=by kernel_rfl
theorem wN:kT Tryz.prog 187=0:=by kernel_rfl
theorem oV:Di Tryz.prog 187=some 1:=by kernel_rfl
theorem va:cq Tryz.prog 187=none:=by kernel_rfl
theorem p6:Ad Tryz.prog 187=some (20,1):=by kernel_rfl
theorem vz:bF Tryz.prog 188=some 65:=by kernel_rfl
theorem pI:aT Tryz.prog 188=some true:=by kernel_rfl
theorem vt:bc Tryz.prog 188=some 65:=by kernel_rfl
theorem ql:cg Tryz.prog 188=false:=by kernel_rfl
theorem vk:bM Tryz.prog 188=true:=by kernel_rfl
theorem qF:Tryz.prog.underlying 188=some (.array 65 5):=by kernel_rfl
theorem AW:kT Tryz.prog 188=0:=by kernel_rfl
theorem rA:Di Tryz.prog 188=some 1:=by kernel_rfl
theorem An:cq Tryz.prog 188=none:=by kernel_rfl
theorem qU:Ad Tryz.prog 188=some (65,1):=by kernel_rfl
theorem ya:kT Tryz.prog 189=3:=by kernel_rfl
theorem zJ:bF Tryz.prog 189=some 1:=by kernel_rfl
theorem nK:aT Tryz.prog 189=some false:=by kernel_rfl
theorem wo:kT Tryz.prog 190=3:=by kernel_rfl
theorem B9:bF Tryz.prog 190=some 1:=by kernel_rfl
theorem nw:aT Tryz.prog 190=some false:=by kernel_rfl
theorem AE:kT Tryz.prog 191=3:=by kernel_rfl
theorem xR:bF Tryz.prog 191=some 1:=by kernel_rfl
theorem rH:aT Tryz.prog 191=some false:=by kernel_rfl
theorem A8:kT Tryz.prog 192=3:=by kernel_rfl
theorem Bt:bF Tryz.prog 192=some 1:=by kernel_rfl
theorem pm:aT Tryz.prog 192=some false:=by kernel_rfl
theorem yC:kT Tryz.prog 193=3:=by kernel_rfl
theorem B4:bF Tryz.prog 193=some 1:=by kernel_rfl
theorem p7:aT Tryz.prog 193=some false:=by kernel_rfl
theorem ye:kT Tryz.prog 194=3:=by kernel_rfl
theorem zY:bF Tryz.prog 194=some 1:=by kernel_rfl
theorem rP:aT Tryz.prog 194=some false:=by kernel_rfl
theorem wE:kT Tryz.prog 195=3:=by kernel_rfl
theorem B2:bF Tryz.prog 195=some 1:=by kernel_rfl
theorem oj:aT Tryz.prog 195=some false:=by kernel_rfl
theorem vQ:kT Tryz.prog 196=3:=by kernel_rfl
theorem BJ:bF Tryz.prog 196=some 1:=by kernel_rfl
theorem nF:aT Tryz.prog 196=some false:=by kernel_rfl
theorem vn:kT Tryz.prog 198=3:=by kernel_rfl
theorem xp:bF Tryz.prog 198=some 1:=by kernel_rfl
theorem nZ:aT Tryz.prog 198=some false:=by kernel_rfl
theorem wn:kT Tryz.prog 199=3:=by kernel_rfl
theorem th:bF Tryz.prog 199=some 1:=by kernel_rfl
theorem pX:aT Tryz.prog 199=some false:=by kernel_rfl
theorem uN:kT Tryz.prog 200=3:=by kernel_rfl
theorem uK:bF Tryz.prog 200=some 1:=by kernel_rfl
theorem rr:aT Tryz.prog 200=some false:=by kernel_rfl
theorem Ba:kT Tryz.prog 201=3:=by kernel_rfl
theorem wu:bF Tryz.prog 201=some 1:=by kernel_rfl
theorem rO:aT Tryz.prog 201=some false:=by kernel_rfl
theorem zy:kT Tryz.prog 202=3:=by kernel_rfl
theorem yI:bF Tryz.prog 202=some 1:=by kernel_rfl
theorem rM:aT Tryz.prog 202=some false:=by kernel_rfl
theorem vN:bF Tryz.prog 203=some 1:=by kernel_rfl
theorem mZ:aT Tryz.prog 203=some false:=by kernel_rfl
theorem jG:bP Tryz.prog 203=some [.pointer none]:=by kernel_rfl
theorem vF:bc Tryz.prog 203=some 8:=by kernel_rfl
theorem nX:cg Tryz.prog 203=false:=by kernel_rfl
theorem y9:bM Tryz.prog 203=true:=by kernel_rfl
theorem mP:Tryz.prog.underlying 203=some (.pointer 9):=by kernel_rfl
theorem A4:kT Tryz.prog 203=2:=by kernel_rfl
theorem vD:bF Tryz.prog 204=some 32:=by kernel_rfl
theorem mU:aT Tryz.prog 204=some true:=by kernel_rfl
theorem ll:bP Tryz.prog 204=some [.int .u8 0,.int .u8 0,.int .u8 0,.int .u8 0,.int .u8 0,.int .u8 0,.int .u8 0,.int .u8 0,.int .u8 0,.int .u8 0,.int .u8 0,.int .u8 0,.int .u8 0,.int .u8 0,.int .u8 0,.int .u8 0,.int .u8 0,.int .u8 0,.int .u8 0,.int .u8 0,.int .u8 0,.int .u8 0,.int .u8 0,.int .u8 0,.int .u8 0,.int .u8 0,.int .u8 0,.int .u8 0,.int .u8 0,.int .u8 0,.int .u8 0,.int .u8 0]:=by kernel_rfl
theorem uh:bc Tryz.prog 204=some 32:=by kernel_rfl
theorem pE:cg Tryz.prog 204=false:=by kernel_rfl
theorem Cp:bM Tryz.prog 204=true:=by kernel_rfl
theorem ov:Tryz.prog.underlying 204=some (.array 32 5):=by kernel_rfl
theorem At:kT Tryz.prog 204=0:=by kernel_rfl
theorem pJ:Di Tryz.prog 204=some 1:=by kernel_rfl
theorem tK:cq Tryz.prog 204=none:=by kernel_rfl
theorem mN:Ad Tryz.prog 204=some (32,1):=by kernel_rfl
theorem uX:bF Tryz.prog 205=some 64:=by kernel_rfl
theorem oA:aT Tryz.prog 205=some true:=by kernel_rfl
theorem u3:bc Tryz.prog 205=some 64:=by kernel_rfl
theorem mS:cg Tryz.prog 205=false:=by kernel_rfl
theorem Cq:bM Tryz.prog 205=true:=by kernel_rfl
theorem pi:Tryz.prog.underlying 205=some (.array 64 5):=by kernel_rfl
theorem Ag:kT Tryz.prog 205=0:=by kernel_rfl
theorem rB:Di Tryz.prog 205=some 1:=by kernel_rfl
theorem BK:cq Tryz.prog 205=none:=by kernel_rfl
theorem nU:Ad Tryz.prog 205=some (64,1):=by kernel_rfl
theorem uB:bF Tryz.prog 206=some 15:=by kernel_rfl
theorem nI:aT Tryz.prog 206=some true:=by kernel_rfl
theorem kc:bP Tryz.prog 206=some [.string ⟨#[]⟩,.string ⟨#[]⟩,.string ⟨#[]⟩,.string ⟨#[]⟩,.string ⟨#[]⟩,.string ⟨#[]⟩,.string ⟨#[]⟩,.string ⟨#[]⟩,.string ⟨#[]⟩,.string ⟨#[]⟩,.string ⟨#[]⟩,.string ⟨#[]⟩,.string ⟨#[]⟩,.string ⟨#[]⟩,.string ⟨#[]⟩]:=by kernel_rfl
theorem v7:bc Tryz.prog 206=some 240:=by kernel_rfl
theorem pj:cg Tryz.prog 206=false:=by kernel_rfl
theorem Bx:bM Tryz.prog 206=true:=by kernel_rfl
theorem qk:Tryz.prog.underlying 206=some (.array 15 9):=by kernel_rfl
theorem zE:kT Tryz.prog 206=0:=by kernel_rfl
theorem qw:Di Tryz.prog 206=some 1:=by kernel_rfl
theorem vl:cq Tryz.prog 206=none:=by kernel_rfl
theorem oz:Ad Tryz.prog 206=some (15,1):=by kernel_rfl
theorem zP:bF Tryz.prog 207=some 256:=by kernel_rfl
theorem oJ:aT Tryz.prog 207=some true:=by kernel_rfl
theorem tI:bc Tryz.prog 207=some 256:=by kernel_rfl
theorem qn:cg Tryz.prog 207=false:=by kernel_rfl
theorem wy:bM Tryz.prog 207=true:=by kernel_rfl
theorem qN:Tryz.prog.underlying 207=some (.array 256 5):=by kernel_rfl
theorem zo:kT Tryz.prog 207=0:=by kernel_rfl
theorem rz:Di Tryz.prog 207=some 1:=by kernel_rfl
theorem zA:cq Tryz.prog 207=none:=by kernel_rfl
theorem pZ:Ad Tryz.prog 207=some (256,1):=by kernel_rfl
theorem wO:bF Tryz.prog 208=some 2:=by kernel_rfl
theorem qS:aT Tryz.prog 208=some true:=by kernel_rfl
theorem ka:bP Tryz.prog 208=some [.int .u8 0,.int .u8 0]:=by kernel_rfl
theorem tj:bc Tryz.prog 208=some 2:=by kernel_rfl
theorem pP:cg Tryz.prog 208=false:=by kernel_rfl
theorem wM:bM Tryz.prog 208=true:=by kernel_rfl
theorem vH:kT Tryz.prog 208=0:=by kernel_rfl
theorem BB:cq Tryz.prog 208=some [(0,1),(1,1)]:=by kernel_rfl
theorem iy:cn Tryz.prog 208 0=some 0:=by kernel_rfl
theorem iH:cj Tryz.prog 208 0=some (0,1,false):=by kernel_rfl
theorem gX:cn Tryz.prog 208 1=some 1:=by kernel_rfl
theorem gz:cj Tryz.prog 208 1=some (1,1,false):=by kernel_rfl
theorem ur:bF Tryz.prog 209=some 2:=by kernel_rfl
theorem oL:aT Tryz.prog 209=some true:=by kernel_rfl
theorem jf:bP Tryz.prog 209=some [.int .u8 0,.int .u8 0]:=by kernel_rfl
theorem xn:bc Tryz.prog 209=some 2:=by kernel_rfl
theorem nQ:cg Tryz.prog 209=false:=by kernel_rfl
theorem AO:bM Tryz.prog 209=true:=by kernel_rfl
theorem vj:kT Tryz.prog 209=0:=by kernel_rfl
theorem vA:cq Tryz.prog 209=some [(0,1),(1,1)]:=by kernel_rfl
theorem gN:cn Tryz.prog 209 0=some 0:=by kernel_rfl
theorem iz:cj Tryz.prog 209 0=some (0,1,false):=by kernel_rfl
theorem gH:cn Tryz.prog 209 1=some 1:=by kernel_rfl
theorem gL:cj Tryz.prog 209 1=some (1,1,false):=by kernel_rfl
theorem AL:bF Tryz.prog 210=some 32:=by kernel_rfl
theorem pC:aT Tryz.prog 210=some true:=by kernel_rfl
theorem kg:bP Tryz.prog 210=some [.int .u8 0,.int .u8 0,.int .u8 0,.int .u8 0,.int .u8 0,.int .u8 0,.int .u8 0,.int .u8 0,.int .u8 0,.int .u8 0,.int .u8 0,.int .u8 0,.int .u8 0,.int .u8 0,.int .u8 0,.int .u8 0,.int .u8 0,.int .u8 0,.int .u8 0,.int .u8 0,.int .u8 0,.int .u8 0,.int .u8 0,.int .u8 0,.int .u8 0,.int .u8 0,.int .u8 0,.int .u8 0,.int .u8 0,.int .u8 0,.int .u8 0,.int .u8 0]:=by kernel_rfl
theorem BL:bc Tryz.prog 210=some 32:=by kernel_rfl
theorem oC:cg Tryz.prog 210=false:=by kernel_rfl
theorem xO:bM Tryz.prog 210=true:=by kernel_rfl
theorem ox:Tryz.prog.underlying 210=some (.array 16 209):=by kernel_rfl
theorem ym:kT Tryz.prog 210=0:=by kernel_rfl
theorem pY:Di Tryz.prog 210=some 2:=by kernel_rfl
theorem yQ:cq Tryz.prog 210=none:=by kernel_rfl
theorem mV:Ad Tryz.prog 210=some (16,2):=by kernel_rfl
theorem ul:kT Tryz.prog 211=3:=by kernel_rfl
theorem BO:bF Tryz.prog 211=some 1:=by kernel_rfl
theorem ni:aT Tryz.prog 211=some false:=by kernel_rfl
theorem x9:bF Tryz.prog 212=some 4:=by kernel_rfl
theorem nH:aT Tryz.prog 212=some true:=by kernel_rfl
theorem jR:bP Tryz.prog 212=some [.pointer none,.pointer none,.pointer none,.string ⟨#[]⟩]:=by kernel_rfl
theorem uw:bc Tryz.prog 212=some 40:=by kernel_rfl
theorem oq:cg Tryz.prog 212=false:=by kernel_rfl
theorem yB:bM Tryz.prog 212=true:=by kernel_rfl
theorem vx:kT Tryz.prog 212=0:=by kernel_rfl
theorem tr:cq Tryz.prog 212=some [(0,1),(1,1),(2,1),(3,1)]:=by kernel_rfl
theorem iF:cn Tryz.prog 212 0=some 0:=by kernel_rfl
theorem iw:cj Tryz.prog 212 0=some (0,1,false):=by kernel_rfl
theorem gc:cn Tryz.prog 212 1=some 1:=by kernel_rfl
theorem gt:cj Tryz.prog 212 1=some (1,1,false):=by kernel_rfl
theorem gq:cn Tryz.prog 212 2=some 2:=by kernel_rfl
theorem il:cj Tryz.prog 212 2=some (2,1,false):=by kernel_rfl
theorem gK:cn Tryz.prog 212 3=some 3:=by kernel_rfl
theorem gb:cj Tryz.prog 212 3=some (3,1,false):=by kernel_rfl
theorem yH:bF Tryz.prog 214=some 0:=by kernel_rfl
theorem nJ:aT Tryz.prog 214=some true:=by kernel_rfl
theorem tS:bc Tryz.prog 214=some 0:=by kernel_rfl
theorem ra:cg Tryz.prog 214=false:=by kernel_rfl
theorem B5:bM Tryz.prog 214=true:=by kernel_rfl
theorem nW:Tryz.prog.underlying 214=some (.array 0 16):=by kernel_rfl
theorem AN:kT Tryz.prog 214=0:=by kernel_rfl
theorem nS:Di Tryz.prog 214=some 1:=by kernel_rfl
theorem AM:cq Tryz.prog 214=none:=by kernel_rfl
theorem Ab:bF Tryz.prog 215=some 0:=by kernel_rfl
theorem pM:aT Tryz.prog 215=some true:=by kernel_rfl
theorem Cj:bc Tryz.prog 215=some 0:=by kernel_rfl
theorem pL:cg Tryz.prog 215=false:=by kernel_rfl
theorem BQ:bM Tryz.prog 215=true:=by kernel_rfl
theorem Cm:kT Tryz.prog 215=0:=by kernel_rfl
theorem xX:cq Tryz.prog 215=some [(0,0)]:=by kernel_rfl
theorem zt:kT Tryz.prog 219=3:=by kernel_rfl
theorem zB:bF Tryz.prog 219=some 1:=by kernel_rfl
theorem oR:aT Tryz.prog 219=some false:=by kernel_rfl
theorem Bp:bF Tryz.prog 222=some 11:=by kernel_rfl
theorem pb:aT Tryz.prog 222=some true:=by kernel_rfl
theorem kl:bP Tryz.prog 222=some [.int .u64 0,.int .u64 0,.int .u32 0,.int .u8 0,.int .u8 0,.int .u8 0,.int .u8 0,.nilFunc,.pointer none,.int .i32 0,.int .i32 0]:=by kernel_rfl
theorem AF:bc Tryz.prog 222=some 48:=by kernel_rfl
theorem qJ:cg Tryz.prog 222=false:=by kernel_rfl
theorem yV:bM Tryz.prog 222=true:=by kernel_rfl
theorem zF:kT Tryz.prog 222=0:=by kernel_rfl
theorem xy:cq Tryz.prog 222=some [(0,1),(1,1),(2,1),(3,1),(4,1),(5,1),(6,1),(7,1),(8,1),(9,1),(10,1)]:=by kernel_rfl
theorem fX:cn Tryz.prog 222 0=some 0:=by kernel_rfl
theorem iE:cj Tryz.prog 222 0=some (0,1,false):=by kernel_rfl
theorem gD:cn Tryz.prog 222 1=some 1:=by kernel_rfl
theorem gO:cj Tryz.prog 222 1=some (1,1,false):=by kernel_rfl
theorem gS:cn Tryz.prog 222 2=some 2:=by kernel_rfl
theorem gh:cj Tryz.prog 222 2=some (2,1,false):=by kernel_rfl
theorem ge:cn Tryz.prog 222 3=some 3:=by kernel_rfl
theorem fY:cj Tryz.prog 222 3=some (3,1,false):=by kernel_rfl
theorem iu:cn Tryz.prog 222 4=some 4:=by kernel_rfl
theorem fU:cj Tryz.prog 222 4=some (4,1,false):=by kernel_rfl
theorem gR:cn Tryz.prog 222 5=some 5:=by kernel_rfl
theorem gp:cj Tryz.prog 222 5=some (5,1,false):=by kernel_rfl
theorem gM:cn Tryz.prog 222 6=some 6:=by kernel_rfl
theorem gP:cj Tryz.prog 222 6=some (6,1,false):=by kernel_rfl
theorem ig:cn Tryz.prog 222 7=some 7:=by kernel_rfl
theorem gk:cj Tryz.prog 222 7=some (7,1,false):=by kernel_rfl
theorem im:cn Tryz.prog 222 8=some 8:=by kernel_rfl
theorem iq:cj Tryz.prog 222 8=some (8,1,false):=by kernel_rfl
theorem g9:cn Tryz.prog 222 9=some 9:=by kernel_rfl
theorem gl:cj Tryz.prog 222 9=some (9,1,false):=by kernel_rfl
theorem fu:cn Tryz.prog 222 10=some 10:=by kernel_rfl
theorem fq:cj Tryz.prog 222 10=some (10,1,false):=by kernel_rfl
end Go.Proofs.YthcoegkfpinlfaaGreatDoor
