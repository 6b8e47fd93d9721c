import Derived.Test.YtnhbidpdadkcjaaGreatDoorR36
open Go.RowKit
set_option linter.unusedVariables false
set_option linter.unusedSimpArgs false
set_option maxRecDepth 100000
set_option maxHeartbeats 8000000
open List (mem_cons length_map)
open Option (getD_some)
open Int (toNat_zero)
namespace Go.Proofs.YtnhbidpdadkcjaaGreatDoor
open Tryz
section
open Ex (Xs xs0)
section
variable {l l1 l2 l3:List Tok}{rn va:Int}{rx rs:Bool}{vp vm:ByteArray}{e:Int}{w:gu}
abbrev qF (l:List Tok)(r:RdR OpV):Prop:=Sw f152 1 ⟨1,aB 0 [pv 0 0 0],aL 0 [rdK l]⟩ (oR f152 1 (gO (r.map fun p=>(opV p.1,p.2))))
theorem PE (h0:RdOk l1)(h1:ao l=((⟨rn,rx,rs⟩,true),l1)):qF l (changedR ⟨1,⟨rn,rx,rs⟩,⟨0,false,false⟩,0,0,0,0,⟨#[]⟩,⟨#[]⟩,false,0⟩ 12 0 l1):=by
 refine aq [⟨_,iR⟩,⟨_,nX⟩] rfl ?_;rcases h2:changedR ⟨1,⟨rn,rx,rs⟩,⟨0,false,false⟩,0,0,0,0,⟨#[]⟩,⟨#[]⟩,false,0⟩ 12 0 l1 with e | ⟨o,l2⟩
 ·simp only[go_sem,ah,opE,opD,opV,au,ar,cz,cu,ce,fM,fS,dH,dG,fQ,fR,h0,h1,h2]
 ·simp only[go_sem,ah,opE,opD,opV,au,ar,cz,cu,ce,fM,fS,dH,dG,fQ,fR,h0,h1,h2];exact bM rfl rfl
theorem PD (h0:RdOk l2)(h1:ao l=((w,false),l1))(h2:bc ⟨#[91]⟩ l1=(true,l2)):qF l (ig l2):=by
 refine aq [⟨_,iR⟩,⟨_,atS⟩,⟨_,jb⟩,⟨_,Zq⟩] rfl ?_;rcases h3:ig l2 with e | ⟨o,l3⟩
 ·simp only[go_sem,ah,opE,opD,opV,au,ar,cz,cu,ce,fM,fS,dH,dG,fQ,fR,h0,h1,h2,h3,toNat_zero]
 ·simp only[go_sem,ah,opE,opD,opV,au,ar,cz,cu,ce,fM,fS,dH,dG,fQ,fR,h0,h1,h2,h3,toNat_zero];exact bM rfl rfl
theorem Mc (h0:RdOk l2)(h1:ao l=((w,false),l1))(h2:bc ⟨#[91]⟩ l1=(false,l1))(h3:bc ⟨#[35]⟩ l1=(true,l2)):qF l (pX l2):=by
 refine aq [⟨_,iR⟩,⟨_,atS⟩,⟨_,jb⟩,⟨_,mM⟩,⟨_,nX⟩] rfl ?_;unfold pX;rcases hv:valueR l2 with e | ⟨⟨va,vp,vm⟩,l3⟩
 ·simp only[go_sem,ah,opE,opD,opV,au,ar,cz,cu,ce,fM,fS,dH,dG,fQ,fR,h0,h1,h2,h3,hv,toNat_zero]
 ·obtain⟨-,h4,-⟩:=iP h0 hv;have e5:changedR (iJ ⟨va,vp,vm⟩ false) 1 0 l3=changedR ⟨2,⟨0,false,false⟩,⟨0,false,false⟩,0,0,0,va,vp,vm,false,0⟩ 1 0 l3:=rfl;simp only[e5];rcases h5:changedR ⟨2,⟨0,false,false⟩,⟨0,false,false⟩,0,0,0,va,vp,vm,false,0⟩ 1 0 l3 with e | ⟨o,l4⟩
  ·simp only[go_sem,ah,opE,opD,opV,au,ar,cz,cu,ce,fM,fS,dH,dG,fQ,fR,h0,h1,h2,h3,h4,h5,hv,toNat_zero]
  ·simp only[go_sem,ah,opE,opD,opV,au,ar,cz,cu,ce,fM,fS,dH,dG,fQ,fR,h0,h1,h2,h3,h4,h5,hv,toNat_zero];exact bM rfl rfl
theorem PC (h1:ao l=((w,false),l1))(h2:bc ⟨#[91]⟩ l1=(false,l1))(h3:bc ⟨#[35]⟩ l1=(false,l1))(h4:loR l1=.error e):qF l (.error e):=by
 refine aq [⟨_,iR⟩,⟨_,atS⟩,⟨_,jb⟩,⟨_,AF⟩] rfl ?_;simp only[go_sem,ah,opE,opD,opV,au,ar,cz,cu,ce,fM,fS,dH,dG,fQ,fR,h1,h2,h3,h4,toNat_zero]
theorem Td (h0:RdOk l2)(h1:ao l=((w,false),l1))(h2:bc ⟨#[91]⟩ l1=(false,l1))(h3:bc ⟨#[35]⟩ l1=(false,l1))(h4:loR l1=.ok (true,l2)) :
  qF l (match valueR l2 with | .error e=>.error e | .ok (v,l)=>.ok (iJ v true,l)):=by
 refine aq [⟨_,iR⟩,⟨_,atS⟩,⟨_,jb⟩,⟨_,AF⟩,⟨_,mM⟩] rfl ?_;rcases hv:valueR l2 with e | ⟨⟨va,vp,vm⟩,l3⟩
 ·simp only[go_sem,ah,opE,opD,opV,au,ar,cz,cu,ce,fM,fS,dH,dG,fQ,fR,h0,h1,h2,h3,h4,hv,toNat_zero]
 ·simp only[go_sem,ah,opE,opD,opV,au,ar,cz,cu,ce,fM,fS,dH,dG,fQ,fR,h0,h1,h2,h3,h4,hv,toNat_zero,iJ,r0];exact bM rfl rfl
theorem Md (h0:RdOk l1)(h1:ao l=((w,false),l1))(h2:bc ⟨#[91]⟩ l1=(false,l1))(h3:bc ⟨#[35]⟩ l1=(false,l1))(h4:loR l1=.ok (false,l1))(h5:¬atF l1 1 0=⟨#[]⟩)(h6:fa 3 (atF l1 1 0)=true) :
  qF l (dm (atF l1 1 0) l1):=by
 refine aq [⟨_,iR⟩,⟨_,atS⟩,⟨_,jb⟩,⟨_,AF⟩,⟨_,Ra⟩,⟨_,YA⟩] rfl ?_;have hz:(atF l1 1 0).size≤1099511627776:=by have:=xR h0 0;omega
 have hl:1≤l1.length:=by have:=jl (l:=l1) (k:=1) (n:=0) h5;omega
 rcases h7:dm (atF l1 1 0) l1 with e | ⟨o,l3⟩
 ·simp only[go_sem,ah,opE,opD,opV,au,ar,cz,cu,ce,fM,fS,dH,dG,fQ,fR,h1,h2,h3,h4,h5,h6,h7,hz,hl,toNat_zero]
 ·simp only[go_sem,ah,opE,opD,opV,au,ar,cz,cu,ce,fM,fS,dH,dG,fQ,fR,h1,h2,h3,h4,h5,h6,h7,hz,hl,toNat_zero];exact bM rfl rfl
theorem PF (h0:RdOk l1)(h1:ao l=((w,false),l1))(h2:bc ⟨#[91]⟩ l1=(false,l1))(h3:bc ⟨#[35]⟩ l1=(false,l1))(h4:loR l1=.ok (false,l1))(h5:¬(¬atF l1 1 0=⟨#[]⟩∧fa 3 (atF l1 1 0)=true)) :
  qF l (match valueR l1 with | .error e=>.error e | .ok (v,l)=>.ok (if v.plus=emp∧v.minus=emp then iJ v false else toV v,l)):=by
 refine aq [⟨_,iR⟩,⟨_,atS⟩,⟨_,jb⟩,⟨_,AF⟩,⟨_,Ra⟩,⟨_,mM⟩] rfl ?_;have hz:(atF l1 1 0).size≤1099511627776:=by have:=xR h0 0;omega
 by_cases h6:atF l1 1 0=⟨#[]⟩
 ·rcases hv:valueR l1 with e | ⟨⟨va,vp,vm⟩,l3⟩
  ·simp only[go_sem,ah,opE,opD,opV,au,ar,cz,cu,ce,fM,fS,dH,dG,fQ,fR,h0,h1,h2,h3,h4,h6,hv,hz,toNat_zero]
  ·by_cases hp:vp=⟨#[]⟩
   ·by_cases hm:vm=⟨#[]⟩
    ·have hX:(if vp=emp∧vm=emp then iJ ⟨va,vp,vm⟩ false else toV ⟨va,vp,vm⟩)=iJ ⟨va,vp,vm⟩ false:=if_pos ⟨hp,hm⟩;simp only[go_sem,ah,opE,opD,opV,au,ar,cz,cu,ce,fM,fS,dH,dG,fQ,fR,h0,h1,h2,h3,h4,h6,hv,hz,↓hX,hp,hm,toNat_zero,iJ,r0];exact bM rfl rfl
    ·have hX:(if vp=emp∧vm=emp then iJ ⟨va,vp,vm⟩ false else toV ⟨va,vp,vm⟩)=toV ⟨va,vp,vm⟩:=if_neg fun h=>hm h.2;simp only[go_sem,ah,opE,opD,opV,au,ar,cz,cu,ce,fM,fS,dH,dG,fQ,fR,h0,h1,h2,h3,h4,h6,hv,hz,↓hX,hp,hm,toNat_zero,toV,r0];exact bM rfl rfl
   ·have hX:(if vp=emp∧vm=emp then iJ ⟨va,vp,vm⟩ false else toV ⟨va,vp,vm⟩)=toV ⟨va,vp,vm⟩:=if_neg fun h=>hp h.1;simp only[go_sem,ah,opE,opD,opV,au,ar,cz,cu,ce,fM,fS,dH,dG,fQ,fR,h0,h1,h2,h3,h4,h6,hv,hz,↓hX,hp,toNat_zero,toV,r0];exact bM rfl rfl
 ·have h7:fa 3 (atF l1 1 0)=false:=by
   cases hw:fa 3 (atF l1 1 0) with
   |false=>rfl
   |true=>exact absurd ⟨h6,hw⟩ h5
  rcases hv:valueR l1 with e | ⟨⟨va,vp,vm⟩,l3⟩
  ·simp only[go_sem,ah,opE,opD,opV,au,ar,cz,cu,ce,fM,fS,dH,dG,fQ,fR,h0,h1,h2,h3,h4,h6,h7,hv,hz,toNat_zero]
  ·by_cases hp:vp=⟨#[]⟩
   ·by_cases hm:vm=⟨#[]⟩
    ·have hX:(if vp=emp∧vm=emp then iJ ⟨va,vp,vm⟩ false else toV ⟨va,vp,vm⟩)=iJ ⟨va,vp,vm⟩ false:=if_pos ⟨hp,hm⟩;simp only[go_sem,ah,opE,opD,opV,au,ar,cz,cu,ce,fM,fS,dH,dG,fQ,fR,h0,h1,h2,h3,h4,h6,h7,hv,hz,↓hX,hp,hm,toNat_zero,iJ,r0];exact bM rfl rfl
    ·have hX:(if vp=emp∧vm=emp then iJ ⟨va,vp,vm⟩ false else toV ⟨va,vp,vm⟩)=toV ⟨va,vp,vm⟩:=if_neg fun h=>hm h.2;simp only[go_sem,ah,opE,opD,opV,au,ar,cz,cu,ce,fM,fS,dH,dG,fQ,fR,h0,h1,h2,h3,h4,h6,h7,hv,hz,↓hX,hp,hm,toNat_zero,toV,r0];exact bM rfl rfl
   ·have hX:(if vp=emp∧vm=emp then iJ ⟨va,vp,vm⟩ false else toV ⟨va,vp,vm⟩)=toV ⟨va,vp,vm⟩:=if_neg fun h=>hp h.1;simp only[go_sem,ah,opE,opD,opV,au,ar,cz,cu,ce,fM,fS,dH,dG,fQ,fR,h0,h1,h2,h3,h4,h6,h7,hv,hz,↓hX,hp,toNat_zero,toV,r0];exact bM rfl rfl
end
theorem Te (l:List Tok)(h:RdOk l):qF l (operR l):=by
 rcases h1:ao l with ⟨⟨⟨rn,rx,rs⟩,b⟩,l1⟩;obtain⟨e1,e2⟩:=pH h1;have k1:=pI h h1;unfold operR;rw[e1];cases b with
 |true =>
  rw[if_pos rfl]at e2;rw[if_pos rfl,←e2];exact PE k1 h1
 |false =>
 rw[if_neg (by simp)]at e2;rw[if_neg (by simp)];subst e2;have sg:∀s:ByteArray,¬atF l1 4 0=s→bc s l1=(false,l1):=fun s hs=>by unfold bc;rw[if_neg hs]
 by_cases h2:atF l1 4 0=⟨#[91]⟩
 ·rw[if_pos (show atF l1 4 0=D7 from h2)];exact PD (k1.drop 1) h1 (by unfold bc;rw[if_pos h2])
 rw[if_neg (show ¬atF l1 4 0=D7 from h2)];by_cases h3:atF l1 4 0=⟨#[35]⟩
 ·rw[if_pos (show atF l1 4 0=aU from h3)];exact Mc (k1.drop 1) h1 (sg _ h2) (by unfold bc;rw[if_pos h3])
 rw[if_neg (show ¬atF l1 4 0=aU from h3)];rcases h4:loR l1 with e | ⟨b,l2⟩
 ·exact PC h1 (sg _ h2) (sg _ h3) h4
 have k2:=OP k1 h4;cases b with
 |true=>exact Td k2 h1 (sg _ h2) (sg _ h3) h4
 |false =>
  have hl:l2=l1:=by
   unfold loR at h4;split at h4
   ·injection h4 with h4;injection h4 with _ h4;exact h4.symm
   ·split at h4
    ·cases h4
    ·injection h4 with h4;injection h4 with h4;cases h4
  subst hl;simp only;by_cases h5:¬atF l2 1 0=⟨#[]⟩∧fa 3 (atF l2 1 0)=true
  ·rw[if_pos (show ¬atF l2 1 0=emp∧fa 3 (atF l2 1 0)=true from h5)];exact Md k1 h1 (sg _ h2) (sg _ h3) h4 h5.1 h5.2
  ·rw[if_neg (show ¬(¬atF l2 1 0=emp∧fa 3 (atF l2 1 0)=true) from h5)];exact PF k1 h1 (sg _ h2) (sg _ h3) h4 h5
abbrev VX:ap prog 152 :=
 sQ _ _ _ func152 (asP rfl) (asP fun _ _=>by go_simp) (xs0) ((fun _ l=>RdOk l)) ((fun _ l=>(operR l).map fun(p:OpV×List Tok)=>(opV p.1,p.2))) (asP (by rw[ntmps152];decide)) (asP fun _ l h=>Te l h)
end
section
open Ex (Xs xs0)
def dI (l:List OpV):Blk:=⟨true,79,15,(l.map opR.enc).map bu⟩
def vr (r:Except Int (List OpV)):RO:=match r with
 |.ok out=>.ret (.s (.l (.sl 1 0 out.length))) [some (rdK [])] [dI out]
 |.error e=>.pan (tA e)
theorem vt {out:List OpV}:vr (.ok out)=.ret (.s (.l (.sl 1 0 out.length))) [some (rdK [])] [dI out]:=rfl
theorem eY {e:Int}:vr (.error e)=.pan (tA e):=rfl
theorem Ck {st:St}{l:List Tok}{out:List OpV}{X:dM}{b:Nat}(h1:hget st.h 0=some (rdK l))(h2:hget st.h b=some (dI out))(hn:b≠0)(hx:2≤st.nx)(hX:X.map (fun p=>bR st.t p.1)=X.map fun p=>p.2.ren fun j=>[0,b].getD j st.nx):Wk ⟨none,1⟩ st ⟨2,X,aL 0 [rdK l,dI out]⟩:=by
 refine Wk.ren [0,b] (by intro j hj;have:j=0:=(by simpa using hj);subst this;rfl) (Nat.le_refl _) (by simpa using fun h=>hn h.symm) (fun p hp=>List.map_inj_left.1 hX p hp) ?_;intro p hp k hk;simp only[aL,mem_cons,List.not_mem_nil,or_false]at hp;rcases hp with rfl | rfl
 ·simp only[Option.some.injEq]at hk;subst hk;simp only[List.getD_eq_getElem?_getD,List.getElem?_cons_zero,getD_some,h1];rfl
 ·simp only[Option.some.injEq]at hk;subst hk;simp only[List.getD_eq_getElem?_getD,List.getElem?_cons_succ,List.getElem?_cons_zero,getD_some,h2];simp only[dI,Blk.ren,gS]
theorem SR {st:St}{l:List Tok}{out:List OpV}{b:Nat}(h1:hget st.h 0=some (rdK l))(h2:hget st.h b=some (dI out))(hn:b≠0)(hx:2≤st.nx) :
  yX 1 st (.ret (.s (.l (.sl 1 0 out.length))) [some (rdK l)] [dI out]) (some (.s (.l (.sl b 0 out.length)))):=by
 refine⟨_,_,_,rfl,rfl,by simp,by simp[rdK],by simp[dI],?_⟩;exact Ck (st:=⟨st.nx,(0,.s (.l (.sl b 0 out.length)))::st.t,st.h⟩) h1 h2 hn hx rfl
theorem Hk {out:List OpV}{q o:OpV}(h:out.getLast? = some q):tQ out o=fy q o:=by unfold tQ;rw[h]
theorem zx {l:List OpV}{o:OpV}:(l.map opR.enc).map bu++[[.v (.int .i64 o.kind),.v (.int .i64 o.r.n),.v (.bool o.r.x),.v (.bool o.r.sp),.v (.int .i64 o.m.n),.v (.bool o.m.x),.v (.bool o.m.sp),.v (.int .i64 o.md),.v (.int .i64 o.amt),.v (.int .i64 o.n),.v (.int .i64 o.add),.v (.string o.plus),.v (.string o.minus),.v (.bool o.lo),.v (.int .i64 o.mode)]]=((l++[o]).map opR.enc).map bu:=by
 rw[List.map_append,List.map_append];rfl
section
variable {out:List OpV}{l l1 l2:List Tok}{o q:OpV}{e:Int}
def Xy (i:List OpV×List Tok):St:=⟨2,[(0,pv 0 0 0),(3,.s (.l (.sl 1 0 i.1.length)))],aL 0 [rdK i.2,dI i.1]⟩
end
theorem U6 (l0:List Tok)(h:RdOk l0):Sw f111 1 ⟨1,aB 0 [pv 0 0 0],aL 0 [rdK l0]⟩ (zA prog f111.results.toList 1 (vr (listF l0))):=by
 refine aq [] rfl ?_;simp only[go_sem];refine ba (ι:=List OpV×List Tok) (fun i=>RdOk i.2∧vR i.1∧gF i.2.length i.1 i.2=listF l0) Xy (fun i=>i.2.length) ([],l0) ⟨h,BP,rfl⟩ ?_ ?_
 ·exact(Wk.nil 3 79 15 rfl).trans (Ck (b:=33) rfl rfl (by decide) (show 2≤33+1 by decide) rfl)
 rintro⟨out,l⟩ ⟨hk,ho,hR⟩;simp only at hk ho hR;have hlm:l.length≤maxLen:=by have:=hk.few;unfold maxLen;omega
 have h8:=ho.few;unfold Xy;refine aw [⟨_,ov⟩,⟨_,eX⟩,⟨_,VX⟩,⟨_,XM⟩,⟨_,Y3⟩,⟨_,nC⟩,⟨_,Bi⟩] ?_;cases hl0:l with
 |nil =>
  subst hl0;rw[←hR,jD];simp only[go_sem,ah,opE,opD,opV,au,ar,cC,eJ,cK,dI,dH,dG,vt,Int.lt_irrefl,Int.ofNat_zero,Int.natCast_zero];exact SR (l:=[]) (out:=out) (b:=1) rfl rfl (by decide) (show 2≤130 by decide)
 |cons t r =>
 have hlpos:(0:Int)<l.length:=by rw[hl0,List.length_cons];omega
 have hlne:l≠[]:=by rw[hl0];simp
 rw[←hl0];obtain⟨n,hn⟩:∃n,l.length=n+1:=⟨r.length,by rw[hl0];rfl⟩;rw[hn,gG hlne]at hR;have hl63:(out.map opR.enc).map bu=((out.map opR.enc).map bu):=rfl;have hK:List.take out.length ((out.map opR.enc).map bu)=(out.map opR.enc).map bu:=List.take_of_length_le (by simp);have m1:out.length+1≤maxLen:=by unfold maxLen;omega
 have m2:(out.length+1)*120≤140737488355328:=by omega
 rcases hc1:(if out=[] then(.ok l:Except Int (List Tok)) else mustR aA l) with e | l1
 ·
  have hs:stepR out l=.error e:=by unfold stepR;rw[hc1]
  rw[←hR,hs];have hne:¬out=[]:=fun he=>by rw[if_pos he]at hc1;cases hc1
  rw[if_neg hne]at hc1;have hpos:(0:Int)<out.length:=by have:=List.length_pos_iff.2 hne;omega
  simp only[go_sem,ah,opE,opD,opV,au,ar,cC,eJ,cK,dI,dH,dG,eY,length_map,hlpos,hpos,show mustR (⟨#[44]⟩:ByteArray) l=.error e from hc1]
 have k1:RdOk l1:=by
  split at hc1
  ·injection hc1 with hc1;subst hc1;exact hk
  ·exact(fG qo hk hc1).1
 by_cases h88:out.length=8
 ·have hne:¬out=[]:=fun he=>by rw[he]at h88;simp at h88
  have hs:stepR out l=.error 3:=by unfold stepR;rw[hc1];simp only[if_pos h88]
  rw[←hR,hs];rw[if_neg hne]at hc1;simp only[go_sem,ah,opE,opD,opV,au,ar,cC,eJ,cK,dI,dH,dG,eY,length_map,hlpos,h88,show mustR (⟨#[44]⟩:ByteArray) l=.ok l1 from hc1,Int.reduceLT,Int.ofNat_lt,Nat.reduceLT,Int.cast_ofNat_Int]
 have h88I:¬(out.length:Int)=8:=by omega
 rcases ho2:operR l1 with e | ⟨o,l2⟩
 ·have hs:stepR out l=.error e:=by unfold stepR;rw[hc1];simp only[if_neg h88,ho2]
  rw[←hR,hs];by_cases hne:out=[]
  ·rw[if_pos hne]at hc1;injection hc1 with hc1;subst hc1 hne;simp only[go_sem,ah,opE,opD,opV,au,ar,cC,eJ,cK,dI,dH,dG,eY,hlpos,hk,ho2,Int.lt_irrefl,Int.reduceEq]
  ·have hpos:(0:Int)<out.length:=by have:=List.length_pos_iff.2 hne;omega
   rw[if_neg hne]at hc1;simp only[go_sem,ah,opE,opD,opV,au,ar,cC,eJ,cK,dI,dH,dG,eY,length_map,hlpos,hpos,show mustR (⟨#[44]⟩:ByteArray) l=.ok l1 from hc1,h88I,k1,ho2]
 obtain⟨hoO,k2,hlt2⟩:=Fp k1 ho2;by_cases hch:fB o=0
 case neg =>
  have hs:stepR out l=.error (fB o):=by unfold stepR;rw[hc1];simp only[if_neg h88,ho2,if_pos hch]
  rw[←hR,hs];by_cases hne:out=[]
  ·rw[if_pos hne]at hc1;injection hc1 with hc1;subst hc1 hne;simp only[go_sem,ah,opE,opD,opV,au,ar,cC,eJ,cK,dI,dH,dG,eY,hlpos,hk,ho2,hoO,hch,Int.lt_irrefl,Int.reduceEq]
  ·have hpos:(0:Int)<out.length:=by have:=List.length_pos_iff.2 hne;omega
   rw[if_neg hne]at hc1;simp only[go_sem,ah,opE,opD,opV,au,ar,cC,eJ,cK,dI,dH,dG,eY,length_map,hlpos,hpos,show mustR (⟨#[44]⟩:ByteArray) l=.ok l1 from hc1,h88I,k1,ho2,hoO,hch]
 have hS:stepR out l=if tQ out o=true then .error 100 else .ok (out++[o],l2):=by unfold stepR;rw[hc1];simp only[if_neg h88,ho2,if_neg (not_not_intro hch)]
 have hlt:l2.length≤n:=by
  have:l1.length≤l.length:=by
   split at hc1
   ·injection hc1 with hc1;subst hc1;exact Nat.le_refl _
   ·have:=(fG qo hk hc1).2.1;omega
  omega
 have hnext:tQ out o=false→vR (out++[o])∧gF l2.length (out++[o]) l2=listF l0:=fun hg=>by
  rw[if_neg (by rw[hg];simp)]at hS;obtain⟨g1,-⟩:=Ad hk ho hS;refine⟨g1,?_⟩;rw[←hR,hS];exact(pF k2 g1 hlt).symm
 by_cases hne:out=[]
 ·rw[if_pos hne]at hc1;injection hc1 with hc1;subst hc1 hne;have hg:tQ [] o=false:=rfl;obtain⟨g1,g2⟩:=hnext hg;simp only[go_sem,ah,opE,opD,opV,au,ar,cC,eJ,cK,dI,dH,dG,hlpos,hk,ho2,hoO,eq_true hch,Int.lt_irrefl,Int.reduceEq,List.take_nil];exact⟨by decide,([o],l2),⟨k2,g1,g2⟩,by show l2.length<l.length;omega,Ck (b:=562) rfl rfl (by decide) (show 2≤594 by decide) rfl⟩
 have hpos:(0:Int)<out.length:=by have:=List.length_pos_iff.2 hne;omega
 rw[if_neg hne]at hc1;have hc1':mustR (⟨#[44]⟩:ByteArray) l=.ok l1:=hc1
 obtain⟨q,hq⟩:∃q,out.getLast? = some q:=by
  cases hg:out.getLast? with
  |none=>exact absurd (List.getLast?_eq_none_iff.1 hg) hne
  |some q=>exact⟨q,rfl⟩
 obtain⟨m,hm⟩:∃m,out.length=m+1:=⟨out.length-1,by have:=List.length_pos_iff.2 hne;omega⟩
 have hqm:out[m]? = some q:=by
  rw[List.getLast?_eq_getElem?,hm]at hq;simpa using hq
 have em:IntKind.i64.wrap ((out.length:Int)-1)=(m:Int):=by rw[IntKind.wrap_i64];omega
 have hmI:(m:Int)<(out.length:Int):=by omega
 have hmN:m<out.length:=by omega
 obtain⟨qO,qc⟩:=ho.all q (List.mem_of_getElem? hqm);have hU:hdU (⟨#[44]⟩:ByteArray)=44:=rfl;have hU1:(⟨#[44]⟩:ByteArray).size=1:=rfl;have hG:tQ out o=fy q o:=Hk hq;have hp1:bS (aS o) ⟨#[35]⟩=bS (aS o) aU:=rfl
 have fin:fy q o=false→∃j:List OpV×List Tok,j=(out++[o],l2)∧(RdOk j.2∧vR j.1∧gF j.2.length j.1 j.2=listF l0)∧j.2.length<l.length:=fun hb=>by
  obtain⟨g1,g2⟩:=hnext (by rw[hG];exact hb);exact⟨_,rfl,⟨k2,g1,g2⟩,by show l2.length<l.length;omega⟩
 have el:(out++[o]).length=out.length+1:=by rw[List.length_append];rfl
 cases h1:bS (aS o) aU
 ·obtain⟨j,rfl,j1,j2⟩:=fin (by unfold fy;rw[h1];rfl);simp only[go_sem,ah,opE,opD,opV,au,ar,cC,eJ,cK,dI,dH,dG,hlpos,hpos,hc1',h88I,k1,ho2,hoO,eq_true hch,hp1,h1,hK,m1,m2];exact⟨_,j1,j2,Ck (b:=642) rfl (congrArg (fun r=>some (⟨true,79,15,r⟩:Blk)) zx) (by decide) (show 2≤674 by decide) (by rw[el];rfl)⟩
 by_cases h2:q.kind=5
 case neg =>
  obtain⟨j,rfl,j1,j2⟩:=fin (by unfold fy;rw[beq_eq_false_iff_ne.2 h2];simp);simp only[go_sem,ah,opE,opD,opV,au,ar,cC,eJ,cK,dI,dH,dG,hlpos,hpos,hc1',h88I,k1,ho2,hoO,eq_true hch,hp1,h1,em,hmI,hmN,hqm,h2,hK,m1,m2];exact⟨_,j1,j2,Ck (b:=754) rfl (congrArg (fun r=>some (⟨true,79,15,r⟩:Blk)) zx) (by decide) (show 2≤786 by decide) (by rw[el];rfl)⟩
 cases h3:(decide (0≤Lib.indexByte (aS q).data.toList 44))
 ·have hb:fy q o=true:=by unfold fy fC;rw[h1,h3,h2];rfl
  rw[hG,if_pos hb]at hS;rw[←hR,hS];simp only[go_sem,ah,opE,opD,opV,au,ar,cC,eJ,cK,dI,dH,dG,eY,hlpos,hpos,hc1',h88I,k1,ho2,hoO,eq_true hch,hp1,h1,em,hmI,hmN,hqm,eq_true h2,qO,qc,hU1,hU,h3]
 ·obtain⟨j,rfl,j1,j2⟩:=fin (by unfold fy fC;rw[h3];simp);simp only[go_sem,ah,opE,opD,opV,au,ar,cC,eJ,cK,dI,dH,dG,hlpos,hpos,hc1',h88I,k1,ho2,hoO,eq_true hch,hp1,h1,em,hmI,hmN,hqm,eq_true h2,qO,qc,hU1,hU,h3,hK,m1,m2];exact⟨_,j1,j2,Ck (b:=882) rfl (congrArg (fun r=>some (⟨true,79,15,r⟩:Blk)) zx) (by decide) (show 2≤914 by decide) (by rw[el];rfl)⟩
end
section
open Ex (Xs xs0)
def zH:ap prog 111 :=
 Zp 1 1 (by decide) _ _ _ func111 rfl (fun _ _=>by go_simp) (jT xs0 fun _ l=>RdOk l) (fun _=>[pv 0 0 0]) (fun x=>[rdK x.2]) (fun x=>vr (listF x.2)) (by rw[ntmps111];decide)
  (by
   intro h h' args r hs hd;unfold jT at hd ⊢;split at hd
   ·split at hd
    ·rename_i h1 h2;rw[ye hs h1,h2];exact hd
    ·cases hd
   ·cases hd)
  (by
   intro h zs q' bs x hd hq;unfold jT at hd;split at hd
   case h_2=>cases hd
   rename_i A zs';split at hd
   case h_2=>cases hd
   rename_i b l x' h1 h2;injection hd with hd;injection hd with e1 hd;injection hd with e2 e3;subst e2;subst e3;obtain⟨rfl,hb1⟩:=El h1;refine⟨by rw[ntmps111];decide,rfl,rfl,by simp,fun d=>⟨?_,?_⟩⟩
   ·intro j b' k hj hk
    match j,hj,hk with
    |0,hj,hk =>
     simp at hj hk;subst hj;subst hk;exact⟨rfl,by rw[hb1];rfl⟩
   ·intro ρ al vals hA
    match vals,hA with
    |v::vs,⟨a,r⟩=>exact⟨a,xs0.ok (al:=al) h2 (Mem.le_refl _) r⟩)
  (by
   intro h zs q' bs x hd hq;unfold jT at hd;split at hd
   case h_2=>cases hd
   split at hd
   case h_2=>cases hd
   injection hd with hd;injection hd with e1 hd;injection hd with e2 e3;subst e1;subst e3;exact U6 _ hq)
theorem wG {id:Nat}{h:ai}{args:List AV}:zH.run id h args=MJ 1 (jT xs0 fun _ l=>RdOk l) (fun x=>vr (listF x.2)) id h args:=rfl
theorem wF {id:Nat}{h:ai}{args:List AV}:zH.pan id h args=kb (jT xs0 fun _ l=>RdOk l) (fun x=>vr (listF x.2)) h args:=rfl
def lQ (l:List Tok):PO :=
 match listF l with
 |.ok out=>.ret (.tup [.l (.d (.sd 15 (out.map opR.enc))),.l (.v (.int .i64 0))])
 |.error e=>.ret (.tup [.l (.v (.slice none 0 0)),.l (.v (.int .i64 e))])
def c2K (a:LV)(c:Int):List Blk:=[⟨true,35,1,[[a]]⟩,⟨true,27,1,[[.v (.int .i64 c)]]⟩]
structure Nr (s:St)(a:LV)(c:Int):Prop where
 h0:hget s.h 0=some ⟨true,35,1,[[a]]⟩
 h1:hget s.h 1=some ⟨true,27,1,[[.v (.int .i64 c)]]⟩
def UT (s:St):Prop:=bR s.t 2=pv 0 0 0∧bR s.t 3=pv 1 0 0
theorem LB (l:List Tok)(hl:RdOk l):Nt prog 49 f49 ⟨0,aB 0 [(tSl 4 lq).enc l],[]⟩ (lQ l):=by
 intro B w ρ al vals R hpl hds H hret _
 refine qh (K:=2) (js:=[1,0]) (cells:=[(2,0),(3,1)]) (s1:=⟨2,[(0,(tSl 4 lq).enc l),(2,pv 0 0 0),(3,pv 1 0 0)],aL 0 (c2K (.v (.slice none 0 0)) 0)⟩)
  (post:=fun s=>UT s∧∃out,listF l=.ok out∧∃b,Nr s (.sl b 0 out.length) 0∧2≤b∧hget s.h b=some (dI out))
  (pp:=fun x s=>UT s∧∃e,listF l=.error e∧x=tA e∧Nr s (.v (.slice none 0 0)) 0)
  (post2:=fun s=>AP s.h (lQ l) (np prog f49.results.toList ⟨s.nx,[(2,pv 0 0 0),(3,pv 1 0 0)],s.h⟩))
  func49 rfl func110 rfl rfl rfl rfl rfl (by decide) (by decide) (by decide) (by decide) hpl hds H ?_
  (Hu rfl rfl rfl (fun _=>rfl) (fun _ _=>by go_simp) rfl) ?_ ?_ ?_ ?_ ?_ ?_ ?_
 ·refine aw [] ?_;rw[ntmps49];simp only[go_sem];exact Wk.renL [0,16] (by simp) (by simp) (by decide) rfl rfl
 ·intro j hj
  match j,hj with
  |0,_=>exact⟨_,rfl⟩
  |1,_=>exact⟨_,rfl⟩
 ·refine aw [⟨_,zH⟩] ?_;rw[ntmps49];rcases hr:listF l with e | out
  ·simp only[go_sem,c2K,wG,wF,MJ,hl,hr,vt,eY];exact⟨⟨rfl,rfl⟩,e,rfl,rfl,⟨rfl,rfl⟩⟩
  ·simp only[go_sem,c2K,wG,wF,MJ,hl,hr,vt,eY,dI];exact⟨⟨rfl,rfl⟩,out,rfl,82,⟨rfl,rfl⟩,by decide,rfl⟩
 ·rintro s ⟨⟨e1,e2⟩,_⟩ p hp;simp only[mem_cons,List.not_mem_nil,or_false]at hp;rcases hp with rfl | rfl
  ·exact e1
  ·exact e2
 ·rintro x s ⟨⟨e1,e2⟩,_⟩ p hp;simp only[mem_cons,List.not_mem_nil,or_false]at hp;rcases hp with rfl | rfl
  ·exact e1
  ·exact e2
 ·rintro s ⟨-,out,hr,b,hc,h3,ht⟩;refine aw [] ?_;rw[ntmps110,results49]
  have hm:dx (dx (LV.toD s.h 3)) ((dI out).els.take out.length)=some (True,[],out.map opR.enc):=by
   rw[List.take_of_length_le (by simp[dI])];exact gk
  have ho:(dI out).own=true:=rfl;have hz:(dI out).sz=15:=rfl;have hlen:out.length≤(dI out).els.length:=by simp[dI]
  have hb:=@pD prog 20 .nilIface (.tmp 7) yR;simp only[go_sem,pvs,↓hb,hc.h0,hc.h1,lQ,hr,ht,ho,hz,hm,hlen]
 ·rintro x s ⟨-,e,hr,rfl,hc⟩
  have hwk:Wk ⟨none,2⟩ ⟨s.nx,(7,.s (.l (.v (tA e))))::aB 0 (pvs [1,0]),s.h⟩ ⟨2,(7,.s (.l (.v (tA e))))::aB 0 (pvs [1,0]),aL 0 (c2K (.v (.slice none 0 0)) 0)⟩:=by
   refine Wk.renL [0,1] (by decide) (Nat.le_refl 2) (by decide) rfl ?_;simp only[c2K,aL,List.map_cons,List.map_nil,List.getD_eq_getElem?_getD,List.getElem?_cons_zero,List.getElem?_cons_succ,getD_some,hc.h0,hc.h1];rfl
  refine SW.wk ?_ hwk;refine aw [] ?_;rw[ntmps110,results49];have hb:∀u v,_:=fun u v=>@mC prog 20 u v .nilIface (.tmp 7) yR;have hs:Gh (.agg #[.int .i64 e])=some (.agg [.v (.int .i64 e)]):=rfl;simp only[go_sem,pvs,↓hb,hs,tA,rh,c2K];refine bT (ctx:=[]) mixed ⟨[],[(5,[0]),(7,[1])],[(0,[0]),(1,[0]),(2,[0]),(3,[0])]⟩ (by kernel_rfl) ?_;simp only[go_sem,lQ,hr]
 ·intro s ρ al a w1 h2 H2;exact hret _ ρ al a w1 h2 H2
def JU:ap prog 49:=VI _ _ (fun _ _=>by go_simp) (tSl 4 lq) RdOk lQ (by rw[ntmps49];decide) fun l hl=>LB l hl
theorem EY {id:Nat}{h:ai}{args:List AV}:JU.run id h args=iN (dV (tSl 4 lq) RdOk) lQ h args:=rfl
theorem EX {h:ai}{id:Nat}{args:List AV}:JU.pan id h args=iK (dV (tSl 4 lq) RdOk) lQ h args:=rfl
end
end Go.Proofs.YtnhbidpdadkcjaaGreatDoor
