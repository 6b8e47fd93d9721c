import Derived.Test.YthcoegkfpinlfaaGreatDoorO10
import Derived.Lib.Bytealg
import Derived.Test.YthcoegkfpinlfaaGreatDoorChecked
import Derived.Test.YthcoegkfpinlfaaGreatDoorO04
import Derived.Lib.Strings
import Derived.Lib.Slices
import Derived.Lib.Walk
set_option linter.unusedVariables false
set_option linter.unusedSimpArgs false
set_option maxRecDepth 100000
set_option maxHeartbeats 8000000
namespace Go.Proofs.YthcoegkfpinlfaaGreatDoor
section
open Go.RowKit
def eY (c:UInt8):List UInt8→List (List UInt8)
 | []=>[[]]
 | x::r=>if x==c then []::eY c r else match eY c r with
  | []=>[[x]]
  | p::ps=>(x::p)::ps
theorem LJ (c:UInt8):∀ l:List UInt8,(eY c l).length=l.count c+1
 | []=>rfl
 | x::r=>by
  have ih:=LJ c r
  rw [eY,List.count_cons]
  split
  ·rw [List.length_cons,ih]
  ·split
   ·rename_i h;rw [h] at ih;simp at ih
   ·rename_i p ps h
    rw [h] at ih
    simpa using ih
theorem JV {c:UInt8}:∀ {l:List UInt8},l.count c=0→eY c l=[l]
 | [],_=>rfl
 | x::r,h=>by
  rw [List.count_cons] at h
  have hx:¬(x==c)=true:=by intro e;rw [if_pos e] at h;omega
  rw [if_neg hx] at h
  rw [eY,if_neg hx,JV (l:=r) (by omega)]
theorem Pb {c:UInt8}:∀ {l:List UInt8},0<l.count c→∃ m:Nat,Lib.indexByte l c=m∧m<l.length∧eY c l=l.take m::eY c (l.drop (m+1))∧(l.drop (m+1)).count c+1=l.count c
 | [],h=>by simp at h
 | x::r,h=>by
  by_cases hx:(x==c)=true
  ·refine ⟨0,by simp [Lib.indexByte,hx],by simp,?_,?_⟩
   ·rw [eY,if_pos hx];rfl
   ·rw [List.count_cons,if_pos hx];rfl
  ·rw [List.count_cons,if_neg hx] at h
   obtain ⟨m,h1,h2,h3,h4⟩:=Pb (l:=r) (by omega)
   refine ⟨m+1,?_,by simpa using h2,?_,?_⟩
   ·have hm:¬((m:Int) == -1)=true:=by
     rw [beq_iff_eq]
     omega
    rw [Lib.indexByte,if_neg hx,h1,if_neg hm]
    omega
   ·rw [eY,if_neg hx,h3]
    rfl
   ·rw [List.count_cons,if_neg hx]
    simpa using h4
def hdU (p:ByteArray):UInt8:=p.data.toList.headD 0
def dj (s p:ByteArray):List ByteArray:=(eY (hdU p) s.data.toList).map fun l=>⟨l.toArray⟩
theorem JT (s p:ByteArray):(dj s p).length=s.data.toList.count (hdU p)+1:=by
 unfold dj
 rw [List.length_map,LJ]
theorem aam (s p:ByteArray):s.data.toList.count (hdU p)≤s.size:=by
 have:=List.count_le_length (a:=hdU p) (l:=s.data.toList)
 simpa using this
theorem TU {s p:ByteArray} (h:(dj s p).length=1):dj s p=[s]:=by
 rw [JT] at h
 unfold dj
 rw [JV (by omega)]
 rfl
theorem TY {s p:ByteArray} (h:1<(dj s p).length):∃ m:Nat,Lib.indexByte s.data.toList (hdU p)=m∧m<s.size∧dj s p=s.extract 0 m::dj (s.extract (m+1) s.size) p:=by
 rw [JT] at h
 obtain ⟨m,h1,h2,h3,_⟩:=Pb (l:=s.data.toList) (c:=hdU p) (by omega)
 refine ⟨m,h1,by simpa using h2,?_⟩
 unfold dj
 rw [h3,List.map_cons]
 congr 1
 ·apply ByteArray.ext
  rw [← Array.toList_inj,ByteArray.data_extract,Array.toList_extract]
  simp
 ·congr 2
  rw [ByteArray.data_extract,Array.toList_extract]
  rw [List.extract_eq_take_drop,List.take_of_length_le]
  simp
end
section
open Go.RowKit
theorem Pa {p:ByteArray} (h:p.size=1):p=⟨#[hdU p]⟩:=by
 have h1:p.data.toList.length=1:=by simpa using h
 apply ByteArray.ext
 rw [← Array.toList_inj]
 unfold hdU
 cases hd:p.data.toList with
 | nil=>rw [hd] at h1;cases h1
 | cons x l =>
  cases l with
  | nil=>rfl
  | cons _ _=>rw [hd] at h1;simp at h1
theorem Yi (s:ByteArray) (c:UInt8) (w:World) :
  Calls Tryz.prog 164 #[.string s,.string ⟨#[c]⟩] w fun e w'=>e=.returned (.int .i64 (Lib.countByte s.data.toList c))∧w'=w:=by
 go_enter Tryz.func164,Tryz.ntmps164
 go_wp2
 rw [run_callFunc_extern Tryz.func180 (by kernel_rfl) (by kernel_rfl) (by kernel_rfl) (e:=Extern.BytealgCount.count) (by kernel_rfl),Lib.run_countString]
 simp only [Result.andThen]
 rw [Oper.upon_value]
 go_wp2
 go_ret
 exact ⟨rfl,rfl⟩
theorem Lg (s:ByteArray) (c:Int) (w:World) :
  Calls Tryz.prog 134 #[.string s,.int .u8 c] w fun e w'=>e=.returned (.int .i64 (Lib.indexByte s.data.toList c.toNat.toUInt8))∧w'=w:=by
 go_enter Tryz.func134,Tryz.ntmps134
 go_wp2
 rw [run_callFunc_extern Tryz.func156 (by kernel_rfl) (by kernel_rfl) (by kernel_rfl) (e:=Extern.BytealgIndexByte.indexByte) (by kernel_rfl),Lib.run_indexByteString]
 simp only [Result.andThen]
 rw [Oper.upon_value]
 go_wp2
 go_ret
 exact ⟨rfl,rfl⟩
theorem PD (s:ByteArray) (c:UInt8) (w:World) :
  Calls Tryz.prog 99 #[.string s,.string ⟨#[c]⟩] w fun e w'=>e=.returned (.int .i64 (Lib.indexByte s.data.toList c))∧w'=w:=by
 go_enter Tryz.func99,Tryz.ntmps99
 go_wp2_with (go_at_call 134;refine (Lg _ _ _).mono ?_;rintro e w' ⟨rfl,rfl⟩)
 ·have h:([c]==s.toList)=true:=by assumption
  go_ret
  refine ⟨?_,rfl⟩
  have e:s.data.toList=[c]:=by rw [← Lib.toList_data];exact (beq_iff_eq.1 h).symm
  rw [e]
  simp [Lib.indexByte]
 ·go_ret
  exact ⟨rfl,rfl⟩
def T6:cK Tryz.prog 164 :=
 mk2C _ (fun _ _=>by go_simp) bg bg (fun _ p=>p.size=1) (fun s p=>iv (((dj s p).length:Int)-1)) (fun _ _=>rfl) (fun s p hp M w u v _ hu hv=>by
  have hu':u=.string s:=hu
  have hv':v=.string p:=hv
  subst hu'
  subst hv'
  rw [Pa hp]
  refine (Yi s (hdU p) w).mono ?_
  rintro e w' ⟨rfl,rfl⟩
  refine ⟨⟨_,rfl,?_⟩,.refl _ _⟩
  rw [← Pa hp,JT]
  show _=_
  congr 1
  unfold Lib.countByte
  omega)
theorem W8 {id:Nat} {h:aF} {args:List AV}:T6.run id h args=be (bE bg bg (fun _ p=>p.size=1)) (fun x=>.ret (iv (((dj x.1 x.2).length:Int)-1))) h args:=rfl
theorem Ws {id:Nat} {h:aF} {args:List AV}:T6.pan id h args=bi (bE bg bg (fun _ p=>p.size=1)) (fun x=>.ret (iv (((dj x.1 x.2).length:Int)-1))) h args:=rfl
def ixlS:cK Tryz.prog 99 :=
 mk2C _ (fun _ _=>by go_simp) bg bg (fun _ p=>p.size=1) (fun s p=>iv (Lib.indexByte s.data.toList (hdU p))) (fun _ _=>rfl) (fun s p hp M w u v _ hu hv=>by
  have hu':u=.string s:=hu
  have hv':v=.string p:=hv
  subst hu'
  subst hv'
  have e1:=Pa hp
  generalize hdU p=c at *
  subst e1
  refine (PD s c w).mono ?_
  rintro e w' ⟨rfl,rfl⟩
  exact ⟨⟨_,rfl,rfl⟩,.refl _ _⟩)
theorem ixl_run {id:Nat} {h:aF} {args:List AV}:ixlS.run id h args=be (bE bg bg (fun _ p=>p.size=1)) (fun x=>.ret (iv (Lib.indexByte x.1.data.toList (hdU x.2)))) h args:=rfl
theorem ixl_pan {id:Nat} {h:aF} {args:List AV}:ixlS.pan id h args=bi (bE bg bg (fun _ p=>p.size=1)) (fun x=>.ret (iv (Lib.indexByte x.1.data.toList (hdU x.2)))) h args:=rfl
def OZ:cK Tryz.prog 56 :=
 mk2 _ _ _ Tryz.func56 rfl (fun _ _=>by go_simp) (bg) (bg) ((fun _ p=>p.size=1)) ((fun s p=>.ret (iv (Lib.indexByte s.data.toList (hdU p))))) (by rw [Tryz.ntmps56];decide) (fun s p hp=>by
 refine aC (ctx:=[⟨_,ixlS⟩]) 4000 ?_
 rw [Tryz.ntmps56,Tryz.results56]
 simp only [Tryz.f56,Option.getD_some,aN]
 simp only [AR,cC,df,sx,List.map_nil,dO,dQ,Nat.le_refl,Int.le_refl,cO,hP,List.take_length,List.length_map,bD,bH,Int.cast_ofNat_Int,aE,aP,aw,au,aH,ai,fB,ak,an,ae,ah,aa,aB,aA,dA,bw,ap,ay,aK,aJ,ab,fC,ar,aj,bN,rD,aO,aY,aI,bW,bI,bt,cD,bn,cy,qA,bA,eK,eQ,rv,wQ,kq,dI,eOk,dY,et,Region.binds,bit,Hp,Nat.reduceOr,Nat.reducePow,Nat.reduceDiv,Nat.reduceMod,Nat.reduceBEq,Int.reduceBEq,Int.reduceBNe,Int.reduceEq,Int.reduceLT,Int.reduceLE,Int.reduceToNat,List.getD_cons_zero,List.getD_cons_succ,List.getD_nil,List.mem_cons,List.mem_singleton,List.not_mem_nil,ag,aq,aD,aOp,evT,aW,putT,aG,gAt,bL,hget,bC,aUn,eA,iR,bm,bB,cI,co,aX,bJ,cp,bnd,de,ct,Kj,JW,az,fM,cellsOf,LV.one,Value.oneCell',bZ,aU,cH,iM,bQ,bu,bO,List.getElem?_cons_zero,List.getElem?_cons_succ,List.map_cons,List.map_nil,Option.map_some,Option.map_none,List.toList_toArray,List.size_toArray,Int.toNat_natCast,Option.isSome_some,List.getElem?_map,reduceIte,reduceCtorEq,Nat.reduceEqDiff,Nat.reduceAdd,Nat.reduceLT,Nat.reduceLeDiff,Nat.reduceMul,Nat.reduceSub,decide_true,decide_false,true_and,and_true,forall_const,not_true_eq_false,not_false_eq_true,Bool.not_true,Bool.not_false,List.cons_append,List.nil_append,List.append_nil,forall_eq,eq_self,beq_iff_eq,decide_eq_true_eq,decide_eq_false_iff_not,beq_eq_false_iff_ne,ne_eq,bne_iff_ne,List.take_succ_cons,List.take_zero,List.drop_succ_cons,List.drop_zero,List.length_cons,List.length_nil,List.set_cons_zero,List.set_cons_succ,Option.some.injEq,true_or,or_true,false_or,or_false,implies_true,Bool.false_eq_true,Bool.true_eq_false,false_implies,and_self,Bool.and_true,Bool.true_and,Bool.and_self,Nat.zero_add,Nat.add_zero,cM,ac,fA,bx,bX,ax,I9,mf,i6,td,D.one,LV.toD0,cz,fg,ofD,cf,eC,ao,fy,eB,jH,fo,ez,kb,ey,bG,aQ,bV,bz,aN,lX,i2,be,bi,bh,br,AV.toD,SV.toD,LV.toD,fD,fJ,mh,eU,fx,aV,bE,te,ta,aR,s9,bg,tFn,tD,tSl,cB,LS,iQ,dx,fe,AV.plain,SV.plain,LV.plain,List.all_cons,List.all_nil,Mx,MJ,Ea,gOf,AV.ren,SV.ren,LV.ren_v,LV.ren_d,LV.ren_sl,LV.ren_p,LV.ren_bf,JC,LV.ren_any,Blk.ren,dz,iZ,l9,List.append_assoc,Int.natCast_nonneg,ge_iff_le,gt_iff_lt,List.getD_eq_getElem?_getD,Option.getD_some,PO.ret.injEq,exists_eq_left,exists_eq_left',exists_and_left,exists_const,LK,Mh,Es,dE,cE,eD,LR,E9,yb,Mt,L6,iW,dX,zk,Mz,FV,dG,MS,MF,Dv,qt,xa,LY,Fb,MP,LZ,Mf,ff,BN,L4,FT,Bo,Mi,L9,MG,FC,uJ,Mg,FL,Ma,LL,Mn,rQ,oT,qb,m6,m7,oh,nT,qm,cN,bY,eH,sN,cQ,Mv,MV,LO,EB,xL,oS,Ii,tk,og,IU,Fu,FQ,Ae,nr,Hm,wK,Hh,En,Iv,kf,kS,lc,ju,FU,BT,pa,Fx,yw,GT,AH,I2,HO,wY,qd,EI,um,GJ,tY,IS,H6,BV,qL,Hs,tR,Ha,x8,Fe,F4,Bn,oP,Il,xg,E5,Gm,GN,kI,kA,Ei,yi,rb,Fm,Ca,E4,F8,ED,tZ,oF,Fy,xq,rk,G2,Ib,FK,uF,ot,F5,EE,vR,I5,Ey,vh,Fd,Iu,Fj,uv,FX,Gf,Cg,iT,eG,dF,Ep,tL,nz,EX,IV,GP,GY,A7,EV,xV,rm,GC,EK,uE,GZ,FR,xm,EL,HP,IA,tT,Iw,I3,zc,EN,yM,nB,Ft,uV,IQ,Hn,Ix,je,jT,kX,jC,li,jr,cX,cr,bK,EY,B0,Gu,EG,eg,dR,jk,dP,lJ,dN,kh,G1,Bc,pN,Gc,Co,Ee,G4,Ga,lm,jI,jP,lj,j4,lu,Gx,yk,nk,I1,tz,Hd,E7,Ie,jA,kU,ke,jv,jp,jz,Hw,tQ,oa,Ej,xw,Fv,ER,FP,lr,lN,jy,jj,kK,jd,jK,j7,jg,lb,kF,km,jh,kW,lk,kJ,kD,j9,DX,xD,ma,Hy,vm,GV,FO,E8,jS,lx,j2,kC,lp,lB,j3,lF,lD,j5,lv,lI,jx,jt,jE,jo,jJ,ko,IF,In,xI,Hz,HH,tB,GG,Ir,ti,HJ,Fa,Av,G5,E2,tt,FI,ve,po,Ec,dD,Ch,GQ,Gn,xh,GI,FZ,EF,tl,G8,II,yq,G3,Ef,uu,Er,GB,xk,Em,xc,oO,Gi,x6,Fs,Fz,Ih,EM,vP,Fl,EJ,wP,GE,IY,vV,I6,Gy,t6,EZ,Id,tO,Hx,GK,Ac,IR,El,BH,IL,Bv,pG,Hf,Aq,Gl,ws,Gj,He,yx,pz,I4,wZ,G7,wX,IJ,IZ,wW,rp,EU,Ci,Gw,t8,H8,Ic,BY,nO,Fo,BZ,IC,FE,FY,lq,ly,IT,Af,nj,Fp,tn,Et,Ed,HM,jq,jZ,Gr,GU,u5,FS,Eo,tU,Hj,EW,u6,GH,HB,uo,F0,HY,B3,Eb,G6,tu,ID,EP,uL,Iy,Eh,AC,FF,GF,uU,FH,IP,zv,H7,x5,ri,HI,xu,Fg,FW,Is,Gv,uI,EH,Hu,tC,FN,GA,wR,Gg,G9,Cn,Fi,Ge,AD,GW,IH,wH,Iq,Gh,zw,Hl,wL,nC,FJ,zC,FM,vG,ES,Fh,tX,qY,E3,HV,xC,Ip,Hq,uZ,Gb,I0,BI,nY,Gt,B6,HA,HN,Eu,kM,la,ji,lM,Im,vJ,ng,Ig,wG,IW,F9,If,j8,lG,lK,kV,IK,Fq,uH,FB,yd,pc,Gk,xH,EQ,EO,IN,Ar,qx,Iz,Cc,Eg,Gp,F7,GO,uY,H9,EA,yA,FD,yh,oK,ET,ui,qC,Ho,Gq,F6,A6,oy,IB,Ck,Ia,Fr,Fc,kN,kE,jW,lz,jM,jO,lg,lE,Ij,tF,rR,FA,zf,Ez,Gd,Ew,jN,ki,k6,lC,kR,kL,kP,kH,F3,GL,yL,IX,wp,rC,IM,zg,Fk,zQ0,F2,kr,jQ,Gz,B7,qW,GX,Bs,IG,HG,Hg,kj,lf,Io,GS,vi,Hk,Ik,x4,xb,vd,rY,yp,AT,r5,ua,AP,o0,wV,nA,jB,wi,eF,pf,uk,ux,qf,yy,vB,wz,px,wB,qG,lh,BP,mT,vv,AI,zq,gW,gE,gQ,fW,eE,eS,dk,wa,oY,zK,AZ,lO,dB,gI,dC,gA,vu,zu,m9,BF,BW,mX,xJ,u7,qT,ue,Bj,oH,B8,oZ,j0,zI,mW,vL,xY,yf,xf,oG,xx,yX,nu,Bw,rc,kO,zO,nh,Bz,pg,zh,np,vK,qs,uq,BM,m8,yn,nt,kG,Am,db,pw,By,xv,rX,xQ,Bb,yu,qj,zG,oQ,jL,vg,n5,AQ,vZ,tW,gv,ia,gw,gF,da,pR,ep,tv,oB,tM,vU,i7,ce,io,ca,hZ,BE,Ce,qK,Az,zD,rt,vp,pS,kQ,uT,pO,xZ,qa,Bu,zS,vo,qZ,ug,Ax,mR,wt,x2,pD,wh,yU,pK,uQ,BU,pU,Bh,uA,oX,zH,xd,rL,Bl,xe,rV,wJ,Au,qI,zz,zM,rh,AU,oc,jw,vy,rT,jc,wI,yv,wv,yN,qR,wA,Cd,qh,xW,wb,pT,tw,yT,qy,dM,na,cU,yE,p8,yW,oW,yJ,dv,dK,dq,dJ,pH,cT,xE,rE,xG,ry,u9,dm,dL,du,Br,qu,ky,tN,ph,ww,pF,vr,mY,xU,rG,xP,Bq,rj,wg,wD,pV,vS,nD,lw,vq,oe,Aw,zm,tf,AX,qi,u4,A9,rJ,zW,vb,rI,xM,uO,re,wT,vT,qP,yc,pq,jn,t7,zN,qQ,uy,ud,qo,uC,xK,Bm,pk,xt,uR,nR,Ai,oN,jm,Ak,AJ,oE,yg,vI,ou,zV,yD,qM,jD,Ay,rF,AS,p9,BS,pr,uS,rW,tP,wl,pW,Ao,nE,jF,uz,rl,lA,xl,Bi,xB,x3,nL,yZ,BD,qD,Bk,ru,ku,yF,qV,uG,qr,uD,qE,tg,qz,wC,tA,mM,zX,BX,mO,xz,xj,rZ,yG,nP,lH,yj,qe,j6,AB,zZ,xN,uM,oo,wj,oI,kz,yl,ny,zj,Aa,zR,f9,ik,AA,qO,jX,tG,qv,Bg,zi,tV,iD,gT,yS,rK,jl,uc,pu,vC,rq,yK,A5,py,kn,tE,qc,Be,AG,tH,ip,iC,gy,gU,iA,gB,gC,gj,vM,mQ,ln,tq,oU,v6,zr,yR,gV,gY,fZ,iB,ij,gZ,ir,ic,ze,ub,pt,zl,rN,jY,wm,v8,pQ,uj,Ap,qH,Ah,vE,qp,kB,uW,pA,zQ,vW,zd,iJ,hH,gJ,iG,gr,fV,Aj,nq,jb,vO,ow,Cb,vY,zb,ib,iI,gu,gG,gd,ii,za,wU,nN,vc,BG,rd,vX,xA,nG,AK,rU,kY,yz,nV,x7,oi,wN,oV,va,p6,vz,pI,vt,ql,vk,qF,AW,rA,An,qU,ya,zJ,nK,wo,B9,nw,AE,xR,rH,A8,Bt,pm,yC,B4,p7,ye,zY,rP,wE,B2,oj,vQ,BJ,nF,vn,xp,nZ,wn,th,pX,uN,uK,rr,Ba,wu,rO,zy,yI,rM,vN,mZ,jG,vF,nX,y9,mP,A4,vD,mU,ll,uh,pE,Cp,ov,At,pJ,tK,mN,uX,oA,u3,mS,Cq,pi,Ag,rB,BK,nU,uB,nI,kc,v7,pj,Bx,qk,zE,qw,vl,oz,zP,oJ,tI,qn,wy,qN,zo,rz,zA,pZ,wO,qS,ka,tj,pP,wM,vH,BB,iy,iH,gX,gz,ur,oL,jf,xn,nQ,AO,vj,vA,gN,iz,gH,gL,AL,pC,kg,BL,oC,xO,ox,ym,pY,yQ,mV,ul,BO,ni,x9,nH,jR,uw,oq,yB,vx,tr,iF,iw,gc,gt,gq,il,gK,gb,yH,nJ,tS,ra,B5,nW,AN,nS,AM,Ab,pM,Cj,pL,BQ,Cm,xX,zt,zB,oR,Bp,pb,kl,AF,qJ,yV,zF,xy,fX,iE,gD,gO,gS,gh,ge,fY,iu,fU,gR,gp,gM,gP,ig,gk,im,iq,g9,gl,fu,fq,ixl_run,ixl_pan,hp])
theorem QD {id:Nat} {h:aF} {args:List AV}:(OZ).run id h args=be (bE (bg) (bg) ((fun _ p=>p.size=1))) (fun x=>((fun s p=>.ret (iv (Lib.indexByte s.data.toList (hdU p))))) x.1 x.2) h args:=rfl
theorem Qu {id:Nat} {h:aF} {args:List AV}:(OZ).pan id h args=bi (bE (bg) (bg) ((fun _ p=>p.size=1))) (fun x=>((fun s p=>.ret (iv (Lib.indexByte s.data.toList (hdU p))))) x.1 x.2) h args:=rfl
end
section
open Go.RowKit
def empS:ByteArray:=⟨#[]⟩
def OK (s:ByteArray):List LV:=[.v (.string s)]
def E6 (all:List ByteArray) (i:Nat):List (List LV):=(all.take i).map OK++List.replicate (all.length-i) (OK empS)
theorem Qg {all:List ByteArray} {i:Nat} (h:i≤all.length):(E6 all i).length=all.length:=by
 unfold E6
 simp
 omega
theorem TS (all:List ByteArray):E6 all 0=List.replicate all.length [.v (.string ⟨#[]⟩)]:=rfl
theorem Xw (all:List ByteArray):E6 all all.length=(all.map iQ.enc).map cf:=by
 unfold E6
 rw [List.take_of_length_le (Nat.le_refl _),Nat.sub_self,List.replicate_zero,List.append_nil,List.map_map]
 rfl
theorem XX (all:List ByteArray) (i:Nat) (g:Nat→Nat):(E6 all i).map (fun e=>e.map (·.ren g))=E6 all i:=by
 unfold E6
 rw [List.map_append,List.map_map,List.map_replicate]
 rfl
theorem SU {all:List ByteArray} {i:Nat} (h:i<all.length):(E6 all i)[i]? = some [.v (.string ⟨#[]⟩)]:=by
 unfold E6
 rw [List.getElem?_append_right (by simp;omega),List.getElem?_replicate,if_pos (by simp;omega)]
 rfl
theorem PT {all:List ByteArray} {i:Nat} {x:ByteArray} (hx:all[i]? = some x):(E6 all i).set i (OK x)=E6 all (i+1):=by
 have hi:i<all.length:=(List.getElem?_eq_some_iff.1 hx).1
 unfold E6
 rw [show all.length-i=(all.length-(i+1))+1 by omega,List.replicate_succ,List.set_append_right _ _ (by simp;omega)]
 have e:i-((all.take i).map OK).length=0:=by simp;omega
 rw [e,List.set_cons_zero,List.take_add_one,hx]
 simp
theorem Sq (s p:ByteArray) (hp:p.size=1) (hs:s.size≤1099511627776):SW Tryz.prog ⟨none,0⟩ Tryz.f148.ntmps (Tryz.f148.body.getD .skip) ⟨0,aN 0 [bg.enc s,bg.enc p,(aR .i64).enc 0,(aR .i64).enc (-1)],[]⟩ (fa Tryz.prog Tryz.f148.results.toList (.ret (.s (.l (.d (.sd 1 ((dj s p).map iQ.enc))))))):=by
 refine aC (ctx:=[⟨_,T6⟩,⟨_,OZ⟩]) 4000 ?_
 rw [Tryz.ntmps148,Tryz.results148]
 simp only [Tryz.f148,Option.getD_some,aN]
 have hpe:¬p=⟨#[]⟩:=by rintro rfl;cases hp
 obtain ⟨all,hall⟩:∃ all,dj s p=all:=⟨_,rfl⟩
 have hlen:all.length=s.data.toList.count (hdU p)+1:=by rw [← hall,JT]
 have hcnt:=aam s p
 have h1:all.length≤s.size+1:=by omega
 have e1:IntKind.i64.wrap ((all.length:Int)-1+1)=all.length:=by rw [IntKind.wrap_i64];omega
 have e2:IntKind.i64.wrap ((s.size:Int)+1)=s.size+1:=by rw [IntKind.wrap_i64];omega
 have e3:IntKind.i64.wrap ((all.length:Int)-1)=all.length-1:=by rw [IntKind.wrap_i64];omega
 have hmin:¬((s.size:Int)+1<all.length):=by omega
 have hm:maxLen=9223372036854775807:=rfl
 simp only [AR,cC,df,sx,List.map_nil,dO,dQ,Nat.le_refl,Int.le_refl,cO,hP,List.take_length,List.length_map,bD,bH,Int.cast_ofNat_Int,aE,aP,aw,au,aH,ai,fB,ak,an,ae,ah,aa,aB,aA,dA,bw,ap,ay,aK,aJ,ab,fC,ar,aj,bN,rD,aO,aY,aI,bW,bI,bt,cD,bn,cy,qA,bA,eK,eQ,rv,wQ,kq,dI,eOk,dY,et,Region.binds,bit,Hp,Nat.reduceOr,Nat.reducePow,Nat.reduceDiv,Nat.reduceMod,Nat.reduceBEq,Int.reduceBEq,Int.reduceBNe,Int.reduceEq,Int.reduceLT,Int.reduceLE,Int.reduceToNat,List.getD_cons_zero,List.getD_cons_succ,List.getD_nil,List.mem_cons,List.mem_singleton,List.not_mem_nil,ag,aq,aD,aOp,evT,aW,putT,aG,gAt,bL,hget,bC,aUn,eA,iR,bm,bB,cI,co,aX,bJ,cp,bnd,de,ct,Kj,JW,az,fM,cellsOf,LV.one,Value.oneCell',bZ,aU,cH,iM,bQ,bu,bO,List.getElem?_cons_zero,List.getElem?_cons_succ,List.map_cons,List.map_nil,Option.map_some,Option.map_none,List.toList_toArray,List.size_toArray,Int.toNat_natCast,Option.isSome_some,List.getElem?_map,reduceIte,reduceCtorEq,Nat.reduceEqDiff,Nat.reduceAdd,Nat.reduceLT,Nat.reduceLeDiff,Nat.reduceMul,Nat.reduceSub,decide_true,decide_false,true_and,and_true,forall_const,not_true_eq_false,not_false_eq_true,Bool.not_true,Bool.not_false,List.cons_append,List.nil_append,List.append_nil,forall_eq,eq_self,beq_iff_eq,decide_eq_true_eq,decide_eq_false_iff_not,beq_eq_false_iff_ne,ne_eq,bne_iff_ne,List.take_succ_cons,List.take_zero,List.drop_succ_cons,List.drop_zero,List.length_cons,List.length_nil,List.set_cons_zero,List.set_cons_succ,Option.some.injEq,true_or,or_true,false_or,or_false,implies_true,Bool.false_eq_true,Bool.true_eq_false,false_implies,and_self,Bool.and_true,Bool.true_and,Bool.and_self,Nat.zero_add,Nat.add_zero,cM,ac,fA,bx,bX,ax,I9,mf,i6,td,D.one,LV.toD0,cz,fg,ofD,cf,eC,ao,fy,eB,jH,fo,ez,kb,ey,bG,aQ,bV,bz,aN,lX,i2,be,bi,bh,br,AV.toD,SV.toD,LV.toD,fD,fJ,mh,eU,fx,aV,bE,te,ta,aR,s9,bg,tFn,tD,tSl,cB,LS,iQ,dx,fe,AV.plain,SV.plain,LV.plain,List.all_cons,List.all_nil,Mx,MJ,Ea,gOf,AV.ren,SV.ren,LV.ren_v,LV.ren_d,LV.ren_sl,LV.ren_p,LV.ren_bf,JC,LV.ren_any,Blk.ren,dz,iZ,l9,List.append_assoc,Int.natCast_nonneg,ge_iff_le,gt_iff_lt,List.getD_eq_getElem?_getD,Option.getD_some,PO.ret.injEq,exists_eq_left,exists_eq_left',exists_and_left,exists_const,LK,Mh,Es,dE,cE,eD,LR,E9,yb,Mt,L6,iW,dX,zk,Mz,FV,dG,MS,MF,Dv,qt,xa,LY,Fb,MP,LZ,Mf,ff,BN,L4,FT,Bo,Mi,L9,MG,FC,uJ,Mg,FL,Ma,LL,Mn,rQ,oT,qb,m6,m7,oh,nT,qm,cN,bY,eH,sN,cQ,Mv,MV,LO,EB,xL,oS,Ii,tk,og,IU,Fu,FQ,Ae,nr,Hm,wK,Hh,En,Iv,kf,kS,lc,ju,FU,BT,pa,Fx,yw,GT,AH,I2,HO,wY,qd,EI,um,GJ,tY,IS,H6,BV,qL,Hs,tR,Ha,x8,Fe,F4,Bn,oP,Il,xg,E5,Gm,GN,kI,kA,Ei,yi,rb,Fm,Ca,E4,F8,ED,tZ,oF,Fy,xq,rk,G2,Ib,FK,uF,ot,F5,EE,vR,I5,Ey,vh,Fd,Iu,Fj,uv,FX,Gf,Cg,iT,eG,dF,Ep,tL,nz,EX,IV,GP,GY,A7,EV,xV,rm,GC,EK,uE,GZ,FR,xm,EL,HP,IA,tT,Iw,I3,zc,EN,yM,nB,Ft,uV,IQ,Hn,Ix,je,jT,kX,jC,li,jr,cX,cr,bK,EY,B0,Gu,EG,eg,dR,jk,dP,lJ,dN,kh,G1,Bc,pN,Gc,Co,Ee,G4,Ga,lm,jI,jP,lj,j4,lu,Gx,yk,nk,I1,tz,Hd,E7,Ie,jA,kU,ke,jv,jp,jz,Hw,tQ,oa,Ej,xw,Fv,ER,FP,lr,lN,jy,jj,kK,jd,jK,j7,jg,lb,kF,km,jh,kW,lk,kJ,kD,j9,DX,xD,ma,Hy,vm,GV,FO,E8,jS,lx,j2,kC,lp,lB,j3,lF,lD,j5,lv,lI,jx,jt,jE,jo,jJ,ko,IF,In,xI,Hz,HH,tB,GG,Ir,ti,HJ,Fa,Av,G5,E2,tt,FI,ve,po,Ec,dD,Ch,GQ,Gn,xh,GI,FZ,EF,tl,G8,II,yq,G3,Ef,uu,Er,GB,xk,Em,xc,oO,Gi,x6,Fs,Fz,Ih,EM,vP,Fl,EJ,wP,GE,IY,vV,I6,Gy,t6,EZ,Id,tO,Hx,GK,Ac,IR,El,BH,IL,Bv,pG,Hf,Aq,Gl,ws,Gj,He,yx,pz,I4,wZ,G7,wX,IJ,IZ,wW,rp,EU,Ci,Gw,t8,H8,Ic,BY,nO,Fo,BZ,IC,FE,FY,lq,ly,IT,Af,nj,Fp,tn,Et,Ed,HM,jq,jZ,Gr,GU,u5,FS,Eo,tU,Hj,EW,u6,GH,HB,uo,F0,HY,B3,Eb,G6,tu,ID,EP,uL,Iy,Eh,AC,FF,GF,uU,FH,IP,zv,H7,x5,ri,HI,xu,Fg,FW,Is,Gv,uI,EH,Hu,tC,FN,GA,wR,Gg,G9,Cn,Fi,Ge,AD,GW,IH,wH,Iq,Gh,zw,Hl,wL,nC,FJ,zC,FM,vG,ES,Fh,tX,qY,E3,HV,xC,Ip,Hq,uZ,Gb,I0,BI,nY,Gt,B6,HA,HN,Eu,kM,la,ji,lM,Im,vJ,ng,Ig,wG,IW,F9,If,j8,lG,lK,kV,IK,Fq,uH,FB,yd,pc,Gk,xH,EQ,EO,IN,Ar,qx,Iz,Cc,Eg,Gp,F7,GO,uY,H9,EA,yA,FD,yh,oK,ET,ui,qC,Ho,Gq,F6,A6,oy,IB,Ck,Ia,Fr,Fc,kN,kE,jW,lz,jM,jO,lg,lE,Ij,tF,rR,FA,zf,Ez,Gd,Ew,jN,ki,k6,lC,kR,kL,kP,kH,F3,GL,yL,IX,wp,rC,IM,zg,Fk,zQ0,F2,kr,jQ,Gz,B7,qW,GX,Bs,IG,HG,Hg,kj,lf,Io,GS,vi,Hk,Ik,x4,xb,vd,rY,yp,AT,r5,ua,AP,o0,wV,nA,jB,wi,eF,pf,uk,ux,qf,yy,vB,wz,px,wB,qG,lh,BP,mT,vv,AI,zq,gW,gE,gQ,fW,eE,eS,dk,wa,oY,zK,AZ,lO,dB,gI,dC,gA,vu,zu,m9,BF,BW,mX,xJ,u7,qT,ue,Bj,oH,B8,oZ,j0,zI,mW,vL,xY,yf,xf,oG,xx,yX,nu,Bw,rc,kO,zO,nh,Bz,pg,zh,np,vK,qs,uq,BM,m8,yn,nt,kG,Am,db,pw,By,xv,rX,xQ,Bb,yu,qj,zG,oQ,jL,vg,n5,AQ,vZ,tW,gv,ia,gw,gF,da,pR,ep,tv,oB,tM,vU,i7,ce,io,ca,hZ,BE,Ce,qK,Az,zD,rt,vp,pS,kQ,uT,pO,xZ,qa,Bu,zS,vo,qZ,ug,Ax,mR,wt,x2,pD,wh,yU,pK,uQ,BU,pU,Bh,uA,oX,zH,xd,rL,Bl,xe,rV,wJ,Au,qI,zz,zM,rh,AU,oc,jw,vy,rT,jc,wI,yv,wv,yN,qR,wA,Cd,qh,xW,wb,pT,tw,yT,qy,dM,na,cU,yE,p8,yW,oW,yJ,dv,dK,dq,dJ,pH,cT,xE,rE,xG,ry,u9,dm,dL,du,Br,qu,ky,tN,ph,ww,pF,vr,mY,xU,rG,xP,Bq,rj,wg,wD,pV,vS,nD,lw,vq,oe,Aw,zm,tf,AX,qi,u4,A9,rJ,zW,vb,rI,xM,uO,re,wT,vT,qP,yc,pq,jn,t7,zN,qQ,uy,ud,qo,uC,xK,Bm,pk,xt,uR,nR,Ai,oN,jm,Ak,AJ,oE,yg,vI,ou,zV,yD,qM,jD,Ay,rF,AS,p9,BS,pr,uS,rW,tP,wl,pW,Ao,nE,jF,uz,rl,lA,xl,Bi,xB,x3,nL,yZ,BD,qD,Bk,ru,ku,yF,qV,uG,qr,uD,qE,tg,qz,wC,tA,mM,zX,BX,mO,xz,xj,rZ,yG,nP,lH,yj,qe,j6,AB,zZ,xN,uM,oo,wj,oI,kz,yl,ny,zj,Aa,zR,f9,ik,AA,qO,jX,tG,qv,Bg,zi,tV,iD,gT,yS,rK,jl,uc,pu,vC,rq,yK,A5,py,kn,tE,qc,Be,AG,tH,ip,iC,gy,gU,iA,gB,gC,gj,vM,mQ,ln,tq,oU,v6,zr,yR,gV,gY,fZ,iB,ij,gZ,ir,ic,ze,ub,pt,zl,rN,jY,wm,v8,pQ,uj,Ap,qH,Ah,vE,qp,kB,uW,pA,zQ,vW,zd,iJ,hH,gJ,iG,gr,fV,Aj,nq,jb,vO,ow,Cb,vY,zb,ib,iI,gu,gG,gd,ii,za,wU,nN,vc,BG,rd,vX,xA,nG,AK,rU,kY,yz,nV,x7,oi,wN,oV,va,p6,vz,pI,vt,ql,vk,qF,AW,rA,An,qU,ya,zJ,nK,wo,B9,nw,AE,xR,rH,A8,Bt,pm,yC,B4,p7,ye,zY,rP,wE,B2,oj,vQ,BJ,nF,vn,xp,nZ,wn,th,pX,uN,uK,rr,Ba,wu,rO,zy,yI,rM,vN,mZ,jG,vF,nX,y9,mP,A4,vD,mU,ll,uh,pE,Cp,ov,At,pJ,tK,mN,uX,oA,u3,mS,Cq,pi,Ag,rB,BK,nU,uB,nI,kc,v7,pj,Bx,qk,zE,qw,vl,oz,zP,oJ,tI,qn,wy,qN,zo,rz,zA,pZ,wO,qS,ka,tj,pP,wM,vH,BB,iy,iH,gX,gz,ur,oL,jf,xn,nQ,AO,vj,vA,gN,iz,gH,gL,AL,pC,kg,BL,oC,xO,ox,ym,pY,yQ,mV,ul,BO,ni,x9,nH,jR,uw,oq,yB,vx,tr,iF,iw,gc,gt,gq,il,gK,gb,yH,nJ,tS,ra,B5,nW,AN,nS,AM,Ab,pM,Cj,pL,BQ,Cm,xX,zt,zB,oR,Bp,pb,kl,AF,qJ,yV,zF,xy,fX,iE,gD,gO,gS,gh,ge,fY,iu,fU,gR,gp,gM,gP,ig,gk,im,iq,g9,gl,fu,fq,hpe,W8,Ws,hp,hall,e1,e2,e3,hmin,Int.toNat_natCast]
 refine ⟨by rw [hm];omega,?_⟩
 refine fj (ι:=Nat×ByteArray) (fun x=>x.1<all.length∧x.2.size≤s.size∧dj x.2 p=all.drop x.1) (fun x=>⟨1,[(0,sv x.2),(1,sv p),(2,iv 0),(3,iv ((all.length:Int)-1)),(9,.s (.l (.sl 0 0 all.length))),(10,iv x.1)],[(0,some ⟨true,9,1,E6 all x.1⟩)]⟩) (fun x=>all.length-x.1) (0,s) ⟨by simp only;omega,Nat.le_refl _,hall⟩ (Wk.renL [304] (by simp) (by simp) (by simp) rfl (by simp [hget,Blk.ren,TS,LV.ren])) ?_
 rintro ⟨i,r⟩ ⟨hi,hrs,hr⟩
 simp only at hi hrs hr
 refine aC (ctx:=[⟨_,OZ⟩]) 4000 ?_
 have hl:=congrArg List.length hr
 rw [List.length_drop] at hl
 by_cases hlt:i+1<all.length
 ·obtain ⟨m,m1,m2,m3⟩:=TY (s:=r) (p:=p) (by omega)
  rw [m3] at hr
  have hltI:(i:Int)<(all.length:Int)-1:=by omega
  have hat:all[i]? = some (r.extract 0 m):=by
   have:=congrArg (·[0]?) hr
   simpa using this.symm
  have hnext:dj (r.extract (m+1) r.size) p=all.drop (i+1):=by
   have:=congrArg List.tail hr
   simpa using this
  have f1:¬(m:Int)<0:=by omega
  have f2:IntKind.i64.wrap ((m:Int)+0)=m:=by rw [IntKind.wrap_i64];omega
  have f3:IntKind.i64.wrap ((m:Int)+1)=((m+1:Nat):Int):=by rw [IntKind.wrap_i64];omega
  have f4:IntKind.i64.wrap ((i:Int)+1)=((i+1:Nat):Int):=by rw [IntKind.wrap_i64];omega
  simp only [AR,cC,df,sx,List.map_nil,dO,dQ,Nat.le_refl,Int.le_refl,cO,hP,List.take_length,List.length_map,bD,bH,Int.cast_ofNat_Int,aE,aP,aw,au,aH,ai,fB,ak,an,ae,ah,aa,aB,aA,dA,bw,ap,ay,aK,aJ,ab,fC,ar,aj,bN,rD,aO,aY,aI,bW,bI,bt,cD,bn,cy,qA,bA,eK,eQ,rv,wQ,kq,dI,eOk,dY,et,Region.binds,bit,Hp,Nat.reduceOr,Nat.reducePow,Nat.reduceDiv,Nat.reduceMod,Nat.reduceBEq,Int.reduceBEq,Int.reduceBNe,Int.reduceEq,Int.reduceLT,Int.reduceLE,Int.reduceToNat,List.getD_cons_zero,List.getD_cons_succ,List.getD_nil,List.mem_cons,List.mem_singleton,List.not_mem_nil,ag,aq,aD,aOp,evT,aW,putT,aG,gAt,bL,hget,bC,aUn,eA,iR,bm,bB,cI,co,aX,bJ,cp,bnd,de,ct,Kj,JW,az,fM,cellsOf,LV.one,Value.oneCell',bZ,aU,cH,iM,bQ,bu,bO,List.getElem?_cons_zero,List.getElem?_cons_succ,List.map_cons,List.map_nil,Option.map_some,Option.map_none,List.toList_toArray,List.size_toArray,Int.toNat_natCast,Option.isSome_some,List.getElem?_map,reduceIte,reduceCtorEq,Nat.reduceEqDiff,Nat.reduceAdd,Nat.reduceLT,Nat.reduceLeDiff,Nat.reduceMul,Nat.reduceSub,decide_true,decide_false,true_and,and_true,forall_const,not_true_eq_false,not_false_eq_true,Bool.not_true,Bool.not_false,List.cons_append,List.nil_append,List.append_nil,forall_eq,eq_self,beq_iff_eq,decide_eq_true_eq,decide_eq_false_iff_not,beq_eq_false_iff_ne,ne_eq,bne_iff_ne,List.take_succ_cons,List.take_zero,List.drop_succ_cons,List.drop_zero,List.length_cons,List.length_nil,List.set_cons_zero,List.set_cons_succ,Option.some.injEq,true_or,or_true,false_or,or_false,implies_true,Bool.false_eq_true,Bool.true_eq_false,false_implies,and_self,Bool.and_true,Bool.true_and,Bool.and_self,Nat.zero_add,Nat.add_zero,cM,ac,fA,bx,bX,ax,I9,mf,i6,td,D.one,LV.toD0,cz,fg,ofD,cf,eC,ao,fy,eB,jH,fo,ez,kb,ey,bG,aQ,bV,bz,aN,lX,i2,be,bi,bh,br,AV.toD,SV.toD,LV.toD,fD,fJ,mh,eU,fx,aV,bE,te,ta,aR,s9,bg,tFn,tD,tSl,cB,LS,iQ,dx,fe,AV.plain,SV.plain,LV.plain,List.all_cons,List.all_nil,Mx,MJ,Ea,gOf,AV.ren,SV.ren,LV.ren_v,LV.ren_d,LV.ren_sl,LV.ren_p,LV.ren_bf,JC,LV.ren_any,Blk.ren,dz,iZ,l9,List.append_assoc,Int.natCast_nonneg,ge_iff_le,gt_iff_lt,List.getD_eq_getElem?_getD,Option.getD_some,PO.ret.injEq,exists_eq_left,exists_eq_left',exists_and_left,exists_const,LK,Mh,Es,dE,cE,eD,LR,E9,yb,Mt,L6,iW,dX,zk,Mz,FV,dG,MS,MF,Dv,qt,xa,LY,Fb,MP,LZ,Mf,ff,BN,L4,FT,Bo,Mi,L9,MG,FC,uJ,Mg,FL,Ma,LL,Mn,rQ,oT,qb,m6,m7,oh,nT,qm,cN,bY,eH,sN,cQ,Mv,MV,LO,EB,xL,oS,Ii,tk,og,IU,Fu,FQ,Ae,nr,Hm,wK,Hh,En,Iv,kf,kS,lc,ju,FU,BT,pa,Fx,yw,GT,AH,I2,HO,wY,qd,EI,um,GJ,tY,IS,H6,BV,qL,Hs,tR,Ha,x8,Fe,F4,Bn,oP,Il,xg,E5,Gm,GN,kI,kA,Ei,yi,rb,Fm,Ca,E4,F8,ED,tZ,oF,Fy,xq,rk,G2,Ib,FK,uF,ot,F5,EE,vR,I5,Ey,vh,Fd,Iu,Fj,uv,FX,Gf,Cg,iT,eG,dF,Ep,tL,nz,EX,IV,GP,GY,A7,EV,xV,rm,GC,EK,uE,GZ,FR,xm,EL,HP,IA,tT,Iw,I3,zc,EN,yM,nB,Ft,uV,IQ,Hn,Ix,je,jT,kX,jC,li,jr,cX,cr,bK,EY,B0,Gu,EG,eg,dR,jk,dP,lJ,dN,kh,G1,Bc,pN,Gc,Co,Ee,G4,Ga,lm,jI,jP,lj,j4,lu,Gx,yk,nk,I1,tz,Hd,E7,Ie,jA,kU,ke,jv,jp,jz,Hw,tQ,oa,Ej,xw,Fv,ER,FP,lr,lN,jy,jj,kK,jd,jK,j7,jg,lb,kF,km,jh,kW,lk,kJ,kD,j9,DX,xD,ma,Hy,vm,GV,FO,E8,jS,lx,j2,kC,lp,lB,j3,lF,lD,j5,lv,lI,jx,jt,jE,jo,jJ,ko,IF,In,xI,Hz,HH,tB,GG,Ir,ti,HJ,Fa,Av,G5,E2,tt,FI,ve,po,Ec,dD,Ch,GQ,Gn,xh,GI,FZ,EF,tl,G8,II,yq,G3,Ef,uu,Er,GB,xk,Em,xc,oO,Gi,x6,Fs,Fz,Ih,EM,vP,Fl,EJ,wP,GE,IY,vV,I6,Gy,t6,EZ,Id,tO,Hx,GK,Ac,IR,El,BH,IL,Bv,pG,Hf,Aq,Gl,ws,Gj,He,yx,pz,I4,wZ,G7,wX,IJ,IZ,wW,rp,EU,Ci,Gw,t8,H8,Ic,BY,nO,Fo,BZ,IC,FE,FY,lq,ly,IT,Af,nj,Fp,tn,Et,Ed,HM,jq,jZ,Gr,GU,u5,FS,Eo,tU,Hj,EW,u6,GH,HB,uo,F0,HY,B3,Eb,G6,tu,ID,EP,uL,Iy,Eh,AC,FF,GF,uU,FH,IP,zv,H7,x5,ri,HI,xu,Fg,FW,Is,Gv,uI,EH,Hu,tC,FN,GA,wR,Gg,G9,Cn,Fi,Ge,AD,GW,IH,wH,Iq,Gh,zw,Hl,wL,nC,FJ,zC,FM,vG,ES,Fh,tX,qY,E3,HV,xC,Ip,Hq,uZ,Gb,I0,BI,nY,Gt,B6,HA,HN,Eu,kM,la,ji,lM,Im,vJ,ng,Ig,wG,IW,F9,If,j8,lG,lK,kV,IK,Fq,uH,FB,yd,pc,Gk,xH,EQ,EO,IN,Ar,qx,Iz,Cc,Eg,Gp,F7,GO,uY,H9,EA,yA,FD,yh,oK,ET,ui,qC,Ho,Gq,F6,A6,oy,IB,Ck,Ia,Fr,Fc,kN,kE,jW,lz,jM,jO,lg,lE,Ij,tF,rR,FA,zf,Ez,Gd,Ew,jN,ki,k6,lC,kR,kL,kP,kH,F3,GL,yL,IX,wp,rC,IM,zg,Fk,zQ0,F2,kr,jQ,Gz,B7,qW,GX,Bs,IG,HG,Hg,kj,lf,Io,GS,vi,Hk,Ik,x4,xb,vd,rY,yp,AT,r5,ua,AP,o0,wV,nA,jB,wi,eF,pf,uk,ux,qf,yy,vB,wz,px,wB,qG,lh,BP,mT,vv,AI,zq,gW,gE,gQ,fW,eE,eS,dk,wa,oY,zK,AZ,lO,dB,gI,dC,gA,vu,zu,m9,BF,BW,mX,xJ,u7,qT,ue,Bj,oH,B8,oZ,j0,zI,mW,vL,xY,yf,xf,oG,xx,yX,nu,Bw,rc,kO,zO,nh,Bz,pg,zh,np,vK,qs,uq,BM,m8,yn,nt,kG,Am,db,pw,By,xv,rX,xQ,Bb,yu,qj,zG,oQ,jL,vg,n5,AQ,vZ,tW,gv,ia,gw,gF,da,pR,ep,tv,oB,tM,vU,i7,ce,io,ca,hZ,BE,Ce,qK,Az,zD,rt,vp,pS,kQ,uT,pO,xZ,qa,Bu,zS,vo,qZ,ug,Ax,mR,wt,x2,pD,wh,yU,pK,uQ,BU,pU,Bh,uA,oX,zH,xd,rL,Bl,xe,rV,wJ,Au,qI,zz,zM,rh,AU,oc,jw,vy,rT,jc,wI,yv,wv,yN,qR,wA,Cd,qh,xW,wb,pT,tw,yT,qy,dM,na,cU,yE,p8,yW,oW,yJ,dv,dK,dq,dJ,pH,cT,xE,rE,xG,ry,u9,dm,dL,du,Br,qu,ky,tN,ph,ww,pF,vr,mY,xU,rG,xP,Bq,rj,wg,wD,pV,vS,nD,lw,vq,oe,Aw,zm,tf,AX,qi,u4,A9,rJ,zW,vb,rI,xM,uO,re,wT,vT,qP,yc,pq,jn,t7,zN,qQ,uy,ud,qo,uC,xK,Bm,pk,xt,uR,nR,Ai,oN,jm,Ak,AJ,oE,yg,vI,ou,zV,yD,qM,jD,Ay,rF,AS,p9,BS,pr,uS,rW,tP,wl,pW,Ao,nE,jF,uz,rl,lA,xl,Bi,xB,x3,nL,yZ,BD,qD,Bk,ru,ku,yF,qV,uG,qr,uD,qE,tg,qz,wC,tA,mM,zX,BX,mO,xz,xj,rZ,yG,nP,lH,yj,qe,j6,AB,zZ,xN,uM,oo,wj,oI,kz,yl,ny,zj,Aa,zR,f9,ik,AA,qO,jX,tG,qv,Bg,zi,tV,iD,gT,yS,rK,jl,uc,pu,vC,rq,yK,A5,py,kn,tE,qc,Be,AG,tH,ip,iC,gy,gU,iA,gB,gC,gj,vM,mQ,ln,tq,oU,v6,zr,yR,gV,gY,fZ,iB,ij,gZ,ir,ic,ze,ub,pt,zl,rN,jY,wm,v8,pQ,uj,Ap,qH,Ah,vE,qp,kB,uW,pA,zQ,vW,zd,iJ,hH,gJ,iG,gr,fV,Aj,nq,jb,vO,ow,Cb,vY,zb,ib,iI,gu,gG,gd,ii,za,wU,nN,vc,BG,rd,vX,xA,nG,AK,rU,kY,yz,nV,x7,oi,wN,oV,va,p6,vz,pI,vt,ql,vk,qF,AW,rA,An,qU,ya,zJ,nK,wo,B9,nw,AE,xR,rH,A8,Bt,pm,yC,B4,p7,ye,zY,rP,wE,B2,oj,vQ,BJ,nF,vn,xp,nZ,wn,th,pX,uN,uK,rr,Ba,wu,rO,zy,yI,rM,vN,mZ,jG,vF,nX,y9,mP,A4,vD,mU,ll,uh,pE,Cp,ov,At,pJ,tK,mN,uX,oA,u3,mS,Cq,pi,Ag,rB,BK,nU,uB,nI,kc,v7,pj,Bx,qk,zE,qw,vl,oz,zP,oJ,tI,qn,wy,qN,zo,rz,zA,pZ,wO,qS,ka,tj,pP,wM,vH,BB,iy,iH,gX,gz,ur,oL,jf,xn,nQ,AO,vj,vA,gN,iz,gH,gL,AL,pC,kg,BL,oC,xO,ox,ym,pY,yQ,mV,ul,BO,ni,x9,nH,jR,uw,oq,yB,vx,tr,iF,iw,gc,gt,gq,il,gK,gb,yH,nJ,tS,ra,B5,nW,AN,nS,AM,Ab,pM,Cj,pL,BQ,Cm,xX,zt,zB,oR,Bp,pb,kl,AF,qJ,yV,zF,xy,fX,iE,gD,gO,gS,gh,ge,fY,iu,fU,gR,gp,gM,gP,ig,gk,im,iq,g9,gl,fu,fq,hltI,QD,Qu,hp,m1,f1,f2,f3,f4,Qg (Nat.le_of_lt hi),SU hi,Int.toNat_zero]
  refine ⟨by omega,by omega,by omega,(i+1,r.extract (m+1) r.size),⟨by simp only;omega,?_,hnext⟩,by simp only;omega,Wk.renL [0] (by simp) (by simp) (by simp) rfl ?_⟩
  ·simp only [ByteArray.size_extract]
   omega
  ·have:=PT hat
   unfold OK at this
   simp [hget,Blk.ren,this,XX]
 ·have hil:i+1=all.length:=by omega
  have hr1:=TU (s:=r) (p:=p) (by omega)
  rw [hr1] at hr
  have hat:all[i]? = some r:=by
   have:=congrArg (·[0]?) hr
   simpa using this.symm
  have hltI:¬(i:Int)<(all.length:Int)-1:=by omega
  have f4:IntKind.i64.wrap ((i:Int)+1)=all.length:=by rw [IntKind.wrap_i64];omega
  have hset:=PT hat
  unfold OK at hset
  rw [hil,Xw] at hset
  have hiI:(i:Int)<all.length:=by omega
  simp only [AR,cC,df,sx,List.map_nil,dO,dQ,Nat.le_refl,Int.le_refl,cO,hP,List.take_length,List.length_map,bD,bH,Int.cast_ofNat_Int,aE,aP,aw,au,aH,ai,fB,ak,an,ae,ah,aa,aB,aA,dA,bw,ap,ay,aK,aJ,ab,fC,ar,aj,bN,rD,aO,aY,aI,bW,bI,bt,cD,bn,cy,qA,bA,eK,eQ,rv,wQ,kq,dI,eOk,dY,et,Region.binds,bit,Hp,Nat.reduceOr,Nat.reducePow,Nat.reduceDiv,Nat.reduceMod,Nat.reduceBEq,Int.reduceBEq,Int.reduceBNe,Int.reduceEq,Int.reduceLT,Int.reduceLE,Int.reduceToNat,List.getD_cons_zero,List.getD_cons_succ,List.getD_nil,List.mem_cons,List.mem_singleton,List.not_mem_nil,ag,aq,aD,aOp,evT,aW,putT,aG,gAt,bL,hget,bC,aUn,eA,iR,bm,bB,cI,co,aX,bJ,cp,bnd,de,ct,Kj,JW,az,fM,cellsOf,LV.one,Value.oneCell',bZ,aU,cH,iM,bQ,bu,bO,List.getElem?_cons_zero,List.getElem?_cons_succ,List.map_cons,List.map_nil,Option.map_some,Option.map_none,List.toList_toArray,List.size_toArray,Int.toNat_natCast,Option.isSome_some,List.getElem?_map,reduceIte,reduceCtorEq,Nat.reduceEqDiff,Nat.reduceAdd,Nat.reduceLT,Nat.reduceLeDiff,Nat.reduceMul,Nat.reduceSub,decide_true,decide_false,true_and,and_true,forall_const,not_true_eq_false,not_false_eq_true,Bool.not_true,Bool.not_false,List.cons_append,List.nil_append,List.append_nil,forall_eq,eq_self,beq_iff_eq,decide_eq_true_eq,decide_eq_false_iff_not,beq_eq_false_iff_ne,ne_eq,bne_iff_ne,List.take_succ_cons,List.take_zero,List.drop_succ_cons,List.drop_zero,List.length_cons,List.length_nil,List.set_cons_zero,List.set_cons_succ,Option.some.injEq,true_or,or_true,false_or,or_false,implies_true,Bool.false_eq_true,Bool.true_eq_false,false_implies,and_self,Bool.and_true,Bool.true_and,Bool.and_self,Nat.zero_add,Nat.add_zero,cM,ac,fA,bx,bX,ax,I9,mf,i6,td,D.one,LV.toD0,cz,fg,ofD,cf,eC,ao,fy,eB,jH,fo,ez,kb,ey,bG,aQ,bV,bz,aN,lX,i2,be,bi,bh,br,AV.toD,SV.toD,LV.toD,fD,fJ,mh,eU,fx,aV,bE,te,ta,aR,s9,bg,tFn,tD,tSl,cB,LS,iQ,dx,fe,AV.plain,SV.plain,LV.plain,List.all_cons,List.all_nil,Mx,MJ,Ea,gOf,AV.ren,SV.ren,LV.ren_v,LV.ren_d,LV.ren_sl,LV.ren_p,LV.ren_bf,JC,LV.ren_any,Blk.ren,dz,iZ,l9,List.append_assoc,Int.natCast_nonneg,ge_iff_le,gt_iff_lt,List.getD_eq_getElem?_getD,Option.getD_some,PO.ret.injEq,exists_eq_left,exists_eq_left',exists_and_left,exists_const,LK,Mh,Es,dE,cE,eD,LR,E9,yb,Mt,L6,iW,dX,zk,Mz,FV,dG,MS,MF,Dv,qt,xa,LY,Fb,MP,LZ,Mf,ff,BN,L4,FT,Bo,Mi,L9,MG,FC,uJ,Mg,FL,Ma,LL,Mn,rQ,oT,qb,m6,m7,oh,nT,qm,cN,bY,eH,sN,cQ,Mv,MV,LO,EB,xL,oS,Ii,tk,og,IU,Fu,FQ,Ae,nr,Hm,wK,Hh,En,Iv,kf,kS,lc,ju,FU,BT,pa,Fx,yw,GT,AH,I2,HO,wY,qd,EI,um,GJ,tY,IS,H6,BV,qL,Hs,tR,Ha,x8,Fe,F4,Bn,oP,Il,xg,E5,Gm,GN,kI,kA,Ei,yi,rb,Fm,Ca,E4,F8,ED,tZ,oF,Fy,xq,rk,G2,Ib,FK,uF,ot,F5,EE,vR,I5,Ey,vh,Fd,Iu,Fj,uv,FX,Gf,Cg,iT,eG,dF,Ep,tL,nz,EX,IV,GP,GY,A7,EV,xV,rm,GC,EK,uE,GZ,FR,xm,EL,HP,IA,tT,Iw,I3,zc,EN,yM,nB,Ft,uV,IQ,Hn,Ix,je,jT,kX,jC,li,jr,cX,cr,bK,EY,B0,Gu,EG,eg,dR,jk,dP,lJ,dN,kh,G1,Bc,pN,Gc,Co,Ee,G4,Ga,lm,jI,jP,lj,j4,lu,Gx,yk,nk,I1,tz,Hd,E7,Ie,jA,kU,ke,jv,jp,jz,Hw,tQ,oa,Ej,xw,Fv,ER,FP,lr,lN,jy,jj,kK,jd,jK,j7,jg,lb,kF,km,jh,kW,lk,kJ,kD,j9,DX,xD,ma,Hy,vm,GV,FO,E8,jS,lx,j2,kC,lp,lB,j3,lF,lD,j5,lv,lI,jx,jt,jE,jo,jJ,ko,IF,In,xI,Hz,HH,tB,GG,Ir,ti,HJ,Fa,Av,G5,E2,tt,FI,ve,po,Ec,dD,Ch,GQ,Gn,xh,GI,FZ,EF,tl,G8,II,yq,G3,Ef,uu,Er,GB,xk,Em,xc,oO,Gi,x6,Fs,Fz,Ih,EM,vP,Fl,EJ,wP,GE,IY,vV,I6,Gy,t6,EZ,Id,tO,Hx,GK,Ac,IR,El,BH,IL,Bv,pG,Hf,Aq,Gl,ws,Gj,He,yx,pz,I4,wZ,G7,wX,IJ,IZ,wW,rp,EU,Ci,Gw,t8,H8,Ic,BY,nO,Fo,BZ,IC,FE,FY,lq,ly,IT,Af,nj,Fp,tn,Et,Ed,HM,jq,jZ,Gr,GU,u5,FS,Eo,tU,Hj,EW,u6,GH,HB,uo,F0,HY,B3,Eb,G6,tu,ID,EP,uL,Iy,Eh,AC,FF,GF,uU,FH,IP,zv,H7,x5,ri,HI,xu,Fg,FW,Is,Gv,uI,EH,Hu,tC,FN,GA,wR,Gg,G9,Cn,Fi,Ge,AD,GW,IH,wH,Iq,Gh,zw,Hl,wL,nC,FJ,zC,FM,vG,ES,Fh,tX,qY,E3,HV,xC,Ip,Hq,uZ,Gb,I0,BI,nY,Gt,B6,HA,HN,Eu,kM,la,ji,lM,Im,vJ,ng,Ig,wG,IW,F9,If,j8,lG,lK,kV,IK,Fq,uH,FB,yd,pc,Gk,xH,EQ,EO,IN,Ar,qx,Iz,Cc,Eg,Gp,F7,GO,uY,H9,EA,yA,FD,yh,oK,ET,ui,qC,Ho,Gq,F6,A6,oy,IB,Ck,Ia,Fr,Fc,kN,kE,jW,lz,jM,jO,lg,lE,Ij,tF,rR,FA,zf,Ez,Gd,Ew,jN,ki,k6,lC,kR,kL,kP,kH,F3,GL,yL,IX,wp,rC,IM,zg,Fk,zQ0,F2,kr,jQ,Gz,B7,qW,GX,Bs,IG,HG,Hg,kj,lf,Io,GS,vi,Hk,Ik,x4,xb,vd,rY,yp,AT,r5,ua,AP,o0,wV,nA,jB,wi,eF,pf,uk,ux,qf,yy,vB,wz,px,wB,qG,lh,BP,mT,vv,AI,zq,gW,gE,gQ,fW,eE,eS,dk,wa,oY,zK,AZ,lO,dB,gI,dC,gA,vu,zu,m9,BF,BW,mX,xJ,u7,qT,ue,Bj,oH,B8,oZ,j0,zI,mW,vL,xY,yf,xf,oG,xx,yX,nu,Bw,rc,kO,zO,nh,Bz,pg,zh,np,vK,qs,uq,BM,m8,yn,nt,kG,Am,db,pw,By,xv,rX,xQ,Bb,yu,qj,zG,oQ,jL,vg,n5,AQ,vZ,tW,gv,ia,gw,gF,da,pR,ep,tv,oB,tM,vU,i7,ce,io,ca,hZ,BE,Ce,qK,Az,zD,rt,vp,pS,kQ,uT,pO,xZ,qa,Bu,zS,vo,qZ,ug,Ax,mR,wt,x2,pD,wh,yU,pK,uQ,BU,pU,Bh,uA,oX,zH,xd,rL,Bl,xe,rV,wJ,Au,qI,zz,zM,rh,AU,oc,jw,vy,rT,jc,wI,yv,wv,yN,qR,wA,Cd,qh,xW,wb,pT,tw,yT,qy,dM,na,cU,yE,p8,yW,oW,yJ,dv,dK,dq,dJ,pH,cT,xE,rE,xG,ry,u9,dm,dL,du,Br,qu,ky,tN,ph,ww,pF,vr,mY,xU,rG,xP,Bq,rj,wg,wD,pV,vS,nD,lw,vq,oe,Aw,zm,tf,AX,qi,u4,A9,rJ,zW,vb,rI,xM,uO,re,wT,vT,qP,yc,pq,jn,t7,zN,qQ,uy,ud,qo,uC,xK,Bm,pk,xt,uR,nR,Ai,oN,jm,Ak,AJ,oE,yg,vI,ou,zV,yD,qM,jD,Ay,rF,AS,p9,BS,pr,uS,rW,tP,wl,pW,Ao,nE,jF,uz,rl,lA,xl,Bi,xB,x3,nL,yZ,BD,qD,Bk,ru,ku,yF,qV,uG,qr,uD,qE,tg,qz,wC,tA,mM,zX,BX,mO,xz,xj,rZ,yG,nP,lH,yj,qe,j6,AB,zZ,xN,uM,oo,wj,oI,kz,yl,ny,zj,Aa,zR,f9,ik,AA,qO,jX,tG,qv,Bg,zi,tV,iD,gT,yS,rK,jl,uc,pu,vC,rq,yK,A5,py,kn,tE,qc,Be,AG,tH,ip,iC,gy,gU,iA,gB,gC,gj,vM,mQ,ln,tq,oU,v6,zr,yR,gV,gY,fZ,iB,ij,gZ,ir,ic,ze,ub,pt,zl,rN,jY,wm,v8,pQ,uj,Ap,qH,Ah,vE,qp,kB,uW,pA,zQ,vW,zd,iJ,hH,gJ,iG,gr,fV,Aj,nq,jb,vO,ow,Cb,vY,zb,ib,iI,gu,gG,gd,ii,za,wU,nN,vc,BG,rd,vX,xA,nG,AK,rU,kY,yz,nV,x7,oi,wN,oV,va,p6,vz,pI,vt,ql,vk,qF,AW,rA,An,qU,ya,zJ,nK,wo,B9,nw,AE,xR,rH,A8,Bt,pm,yC,B4,p7,ye,zY,rP,wE,B2,oj,vQ,BJ,nF,vn,xp,nZ,wn,th,pX,uN,uK,rr,Ba,wu,rO,zy,yI,rM,vN,mZ,jG,vF,nX,y9,mP,A4,vD,mU,ll,uh,pE,Cp,ov,At,pJ,tK,mN,uX,oA,u3,mS,Cq,pi,Ag,rB,BK,nU,uB,nI,kc,v7,pj,Bx,qk,zE,qw,vl,oz,zP,oJ,tI,qn,wy,qN,zo,rz,zA,pZ,wO,qS,ka,tj,pP,wM,vH,BB,iy,iH,gX,gz,ur,oL,jf,xn,nQ,AO,vj,vA,gN,iz,gH,gL,AL,pC,kg,BL,oC,xO,ox,ym,pY,yQ,mV,ul,BO,ni,x9,nH,jR,uw,oq,yB,vx,tr,iF,iw,gc,gt,gq,il,gK,gb,yH,nJ,tS,ra,B5,nW,AN,nS,AM,Ab,pM,Cj,pL,BQ,Cm,xX,zt,zB,oR,Bp,pb,kl,AF,qJ,yV,zF,xy,fX,iE,gD,gO,gS,gh,ge,fY,iu,fU,gR,gp,gM,gP,ig,gk,im,iq,g9,gl,fu,fq,hltI,Qg (Nat.le_of_lt hi),SU hi,f4,hset,hiI,Int.toNat_zero,Int.toNat_natCast,Nat.sub_zero,List.take_length,List.length_map]
  trace_state
end
section
open Go.RowKit
def cS:ByteArray:=⟨#[99]⟩
def dT:List ByteArray:=[s1,emp,cS,cS,emp]
def i4:List Int:=[3,7,15,15,7]
def fK:List Nat:=[1,3,4,4,3]
def Sw (i:Nat) (d:Int):Int:=if i=0 then d-2 else d
def dl (lim:Nat) (i:Nat) (n:Int) (w:ByteArray):Option Int :=
 if (uP w (dT.getD i emp)).2=true∧(dg lim (uP w (dT.getD i emp)).1 (i4.getD i 0)).2=true∧0≤Sw i (dg lim (uP w (dT.getD i emp)).1 (i4.getD i 0)).1 then
  some (n*2 ^ fK.getD i 0+Sw i (dg lim (uP w (dT.getD i emp)).1 (i4.getD i 0)).1)
 else none
def Cr (lim:Nat) (l:List ByteArray):Nat→Option Int
 | 0=>some 0
 | i+1=>match Cr lim l i,l[i]? with
  | some n,some w=>dl lim i n w
  | _,_=>none
def Lu (lim:Nat) (s:ByteArray):Option Int:=if (dj s us).length=5 then Cr lim (dj s us) 5 else none
theorem dW {lim:Nat} {s:ByteArray} {most:Int} (h:(dg lim s most).2=true):0≤(dg lim s most).1∧(dg lim s most).1≤most:=by
 unfold dg at h ⊢
 split at h
 ·cases h
 ·rename_i hc
  rw [if_neg hc]
  split at h
  ·rename_i n hn
   simp only [decide_eq_true_eq] at h
   exact ⟨(Ly hn).1,h⟩
  ·cases h
theorem Pj {lim i:Nat} (hi:i<5) {n:Int} {w:ByteArray} {m:Int} (h:dl lim i n w=some m):∃ v,Sw i (dg lim (uP w (dT.getD i emp)).1 (i4.getD i 0)).1=v∧0≤v∧v<2 ^ fK.getD i 0∧m=n*2 ^ fK.getD i 0+v:=by
 unfold dl at h
 split at h
 case isFalse=>cases h
 rename_i hc
 injection h with h
 refine ⟨_,rfl,hc.2.2,?_,h.symm⟩
 have:=dW hc.2.1
 clear h hc
 generalize dg lim (uP w (dT.getD i emp)).1 (i4.getD i 0)=d at *
 have hi':i=0∨i=1∨i=2∨i=3∨i=4:=by omega
 rcases hi' with rfl | rfl | rfl | rfl | rfl<;>simp only [Sw,i4,fK,List.getD_cons_zero,List.getD_cons_succ] at this ⊢<;>simp<;>omega
theorem OE {lim:Nat} {l:List ByteArray}:∀ {i:Nat} {n:Int},i≤5→Cr lim l i=some n→0≤n∧n<2 ^ (4*i+1)
 | 0,n,_,h=>by injection h with h;subst h;decide
 | i+1,n,hi,h=>by
  rw [Cr] at h
  split at h
  case h_2=>cases h
  rename_i m w hm hw
  obtain ⟨h0,h1⟩:=OE (i:=i) (by omega) hm
  obtain ⟨v,_,v0,v1,rfl⟩:=Pj (by omega) h
  have hi':i=0∨i=1∨i=2∨i=3∨i=4:=by omega
  rcases hi' with rfl | rfl | rfl | rfl | rfl<;>simp only [fK,List.getD_cons_zero,List.getD_cons_succ] at v1 h1 ⊢<;>simp at v1 h1 ⊢<;>omega
theorem PP {lim:Nat} {l:List ByteArray} {i:Nat} (h:Cr lim l i=none):∀ {j},i≤j→Cr lim l j=none:=by
 intro j hj
 induction j with
 | zero =>
  obtain rfl:i=0:=by omega
  exact h
 | succ j ih =>
  by_cases e:i=j+1
  ·rw [← e];exact h
  ·rw [Cr,ih (by omega)]
end
end Go.Proofs.YthcoegkfpinlfaaGreatDoor
