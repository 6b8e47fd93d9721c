import Derived.Test.YtnhbidpdadkcjaaGreatDoorG36
open Go.RowKit
set_option linter.unusedVariables false
set_option linter.unusedSimpArgs false
set_option maxRecDepth 100000
set_option maxHeartbeats 8000000
open List (mem_cons length_map)
open Option (getD_some)
open Int (toNat_zero)
namespace Go.Proofs.YtnhbidpdadkcjaaGreatDoor
open Tryz
section
open Ex (Xs xs0)
section
variable {l l1 l2 l3:List Tok}{rn va:Int}{rx rs:Bool}{vp vm:ByteArray}{e:Int}{w:gO}
abbrev oU (l:List Tok)(r:RdR OpV):Prop:=Sw f152 1 ⟨1,ax 0 [pv 0 0 0],aC 0 [rdK l]⟩ (oR f152 1 (fg (r.map fun p=>(opV p.1,p.2))))
theorem Lm (h0:RdOk l1)(h1:aj l=((⟨rn,rx,rs⟩,true),l1)):oU l (aR ⟨1,⟨rn,rx,rs⟩,⟨0,false,false⟩,0,0,0,0,⟨#[]⟩,⟨#[]⟩,false,0⟩ 12 0 l1):=by
 refine aq [⟨_,gq⟩,⟨_,ml⟩] rfl ?_;rcases h2:aR ⟨1,⟨rn,rx,rs⟩,⟨0,false,false⟩,0,0,0,0,⟨#[]⟩,⟨#[]⟩,false,0⟩ 12 0 l1 with e | ⟨o,l2⟩
 ·simp only[go_sem,ap,opE,opD,opV,aO,aN,bN,bK,fH,d5,d9,cN,cM,d7,d8,h0,h1,h2]
 ·simp only[go_sem,ap,opE,opD,opV,aO,aN,bN,bK,fH,d5,d9,cN,cM,d7,d8,h0,h1,h2];exact bk rfl rfl
theorem Ll (h0:RdOk l2)(h1:aj l=((w,false),l1))(h2:bd ⟨#[91]⟩ l1=(true,l2)):oU l (gK l2):=by
 refine aq [⟨_,gq⟩,⟨_,atS⟩,⟨_,gF⟩,⟨_,UF⟩] rfl ?_;rcases h3:gK l2 with e | ⟨o,l3⟩
 ·simp only[go_sem,ap,opE,opD,opV,aO,aN,bN,bK,fH,d5,d9,cN,cM,d7,d8,h0,h1,h2,h3,toNat_zero]
 ·simp only[go_sem,ap,opE,opD,opV,aO,aN,bN,bK,fH,d5,d9,cN,cM,d7,d8,h0,h1,h2,h3,toNat_zero];exact bk rfl rfl
theorem Ie (h0:RdOk l2)(h1:aj l=((w,false),l1))(h2:bd ⟨#[91]⟩ l1=(false,l1))(h3:bd ⟨#[35]⟩ l1=(true,l2)):oU l (xX l2):=by
 refine aq [⟨_,gq⟩,⟨_,atS⟩,⟨_,gF⟩,⟨_,lm⟩,⟨_,ml⟩] rfl ?_;unfold xX;rcases hv:aP l2 with e | ⟨⟨va,vp,vm⟩,l3⟩
 ·simp only[go_sem,ap,opE,opD,opV,aO,aN,bN,bK,fH,d5,d9,cN,cM,d7,d8,h0,h1,h2,h3,hv,toNat_zero]
 ·obtain⟨-,h4,-⟩:=eN h0 hv;have e5:aR (oP ⟨va,vp,vm⟩ false) 1 0 l3=aR ⟨2,⟨0,false,false⟩,⟨0,false,false⟩,0,0,0,va,vp,vm,false,0⟩ 1 0 l3:=rfl;simp only[e5];rcases h5:aR ⟨2,⟨0,false,false⟩,⟨0,false,false⟩,0,0,0,va,vp,vm,false,0⟩ 1 0 l3 with e | ⟨o,l4⟩
  ·simp only[go_sem,ap,opE,opD,opV,aO,aN,bN,bK,fH,d5,d9,cN,cM,d7,d8,h0,h1,h2,h3,h4,h5,hv,toNat_zero]
  ·simp only[go_sem,ap,opE,opD,opV,aO,aN,bN,bK,fH,d5,d9,cN,cM,d7,d8,h0,h1,h2,h3,h4,h5,hv,toNat_zero];exact bk rfl rfl
theorem Lk (h1:aj l=((w,false),l1))(h2:bd ⟨#[91]⟩ l1=(false,l1))(h3:bd ⟨#[35]⟩ l1=(false,l1))(h4:loR l1=.error e):oU l (.error e):=by
 refine aq [⟨_,gq⟩,⟨_,atS⟩,⟨_,gF⟩,⟨_,xi⟩] rfl ?_;simp only[go_sem,ap,opE,opD,opV,aO,aN,bN,bK,fH,d5,d9,cN,cM,d7,d8,h1,h2,h3,h4,toNat_zero]
theorem Oc (h0:RdOk l2)(h1:aj l=((w,false),l1))(h2:bd ⟨#[91]⟩ l1=(false,l1))(h3:bd ⟨#[35]⟩ l1=(false,l1))(h4:loR l1=.ok (true,l2)) :
  oU l (match aP l2 with | .error e=>.error e | .ok (v,l)=>.ok (oP v true,l)):=by
 refine aq [⟨_,gq⟩,⟨_,atS⟩,⟨_,gF⟩,⟨_,xi⟩,⟨_,lm⟩] rfl ?_;rcases hv:aP l2 with e | ⟨⟨va,vp,vm⟩,l3⟩
 ·simp only[go_sem,ap,opE,opD,opV,aO,aN,bN,bK,fH,d5,d9,cN,cM,d7,d8,h0,h1,h2,h3,h4,hv,toNat_zero]
 ·simp only[go_sem,ap,opE,opD,opV,aO,aN,bN,bK,fH,d5,d9,cN,cM,d7,d8,h0,h1,h2,h3,h4,hv,toNat_zero,oP,r0];exact bk rfl rfl
theorem If (h0:RdOk l1)(h1:aj l=((w,false),l1))(h2:bd ⟨#[91]⟩ l1=(false,l1))(h3:bd ⟨#[35]⟩ l1=(false,l1))(h4:loR l1=.ok (false,l1))(h5:¬atF l1 1 0=⟨#[]⟩)(h6:ke 3 (atF l1 1 0)=true) :
  oU l (dP (atF l1 1 0) l1):=by
 refine aq [⟨_,gq⟩,⟨_,atS⟩,⟨_,gF⟩,⟨_,xi⟩,⟨_,My⟩,⟨_,TJ⟩] rfl ?_;have hz:(atF l1 1 0).size≤1099511627776:=by have:=uP h0 0;omega
 have hl:1≤l1.length:=by have:=gQ (l:=l1) (k:=1) (n:=0) h5;omega
 rcases h7:dP (atF l1 1 0) l1 with e | ⟨o,l3⟩
 ·simp only[go_sem,ap,opE,opD,opV,aO,aN,bN,bK,fH,d5,d9,cN,cM,d7,d8,h1,h2,h3,h4,h5,h6,h7,hz,hl,toNat_zero]
 ·simp only[go_sem,ap,opE,opD,opV,aO,aN,bN,bK,fH,d5,d9,cN,cM,d7,d8,h1,h2,h3,h4,h5,h6,h7,hz,hl,toNat_zero];exact bk rfl rfl
theorem Ln (h0:RdOk l1)(h1:aj l=((w,false),l1))(h2:bd ⟨#[91]⟩ l1=(false,l1))(h3:bd ⟨#[35]⟩ l1=(false,l1))(h4:loR l1=.ok (false,l1))(h5:¬(¬atF l1 1 0=⟨#[]⟩∧ke 3 (atF l1 1 0)=true)) :
  oU l (match aP l1 with | .error e=>.error e | .ok (v,l)=>.ok (if v.plus=emp∧v.minus=emp then oP v false else toV v,l)):=by
 refine aq [⟨_,gq⟩,⟨_,atS⟩,⟨_,gF⟩,⟨_,xi⟩,⟨_,My⟩,⟨_,lm⟩] rfl ?_;have hz:(atF l1 1 0).size≤1099511627776:=by have:=uP h0 0;omega
 by_cases h6:atF l1 1 0=⟨#[]⟩
 ·rcases hv:aP l1 with e | ⟨⟨va,vp,vm⟩,l3⟩
  ·simp only[go_sem,ap,opE,opD,opV,aO,aN,bN,bK,fH,d5,d9,cN,cM,d7,d8,h0,h1,h2,h3,h4,h6,hv,hz,toNat_zero]
  ·by_cases hp:vp=⟨#[]⟩
   ·by_cases hm:vm=⟨#[]⟩
    ·have hX:(if vp=emp∧vm=emp then oP ⟨va,vp,vm⟩ false else toV ⟨va,vp,vm⟩)=oP ⟨va,vp,vm⟩ false:=if_pos ⟨hp,hm⟩;simp only[go_sem,ap,opE,opD,opV,aO,aN,bN,bK,fH,d5,d9,cN,cM,d7,d8,h0,h1,h2,h3,h4,h6,hv,hz,↓hX,hp,hm,toNat_zero,oP,r0];exact bk rfl rfl
    ·have hX:(if vp=emp∧vm=emp then oP ⟨va,vp,vm⟩ false else toV ⟨va,vp,vm⟩)=toV ⟨va,vp,vm⟩:=if_neg fun h=>hm h.2;simp only[go_sem,ap,opE,opD,opV,aO,aN,bN,bK,fH,d5,d9,cN,cM,d7,d8,h0,h1,h2,h3,h4,h6,hv,hz,↓hX,hp,hm,toNat_zero,toV,r0];exact bk rfl rfl
   ·have hX:(if vp=emp∧vm=emp then oP ⟨va,vp,vm⟩ false else toV ⟨va,vp,vm⟩)=toV ⟨va,vp,vm⟩:=if_neg fun h=>hp h.1;simp only[go_sem,ap,opE,opD,opV,aO,aN,bN,bK,fH,d5,d9,cN,cM,d7,d8,h0,h1,h2,h3,h4,h6,hv,hz,↓hX,hp,toNat_zero,toV,r0];exact bk rfl rfl
 ·have h7:ke 3 (atF l1 1 0)=false:=by
   cases hw:ke 3 (atF l1 1 0) with
   |false=>rfl
   |true=>exact absurd ⟨h6,hw⟩ h5
  rcases hv:aP l1 with e | ⟨⟨va,vp,vm⟩,l3⟩
  ·simp only[go_sem,ap,opE,opD,opV,aO,aN,bN,bK,fH,d5,d9,cN,cM,d7,d8,h0,h1,h2,h3,h4,h6,h7,hv,hz,toNat_zero]
  ·by_cases hp:vp=⟨#[]⟩
   ·by_cases hm:vm=⟨#[]⟩
    ·have hX:(if vp=emp∧vm=emp then oP ⟨va,vp,vm⟩ false else toV ⟨va,vp,vm⟩)=oP ⟨va,vp,vm⟩ false:=if_pos ⟨hp,hm⟩;simp only[go_sem,ap,opE,opD,opV,aO,aN,bN,bK,fH,d5,d9,cN,cM,d7,d8,h0,h1,h2,h3,h4,h6,h7,hv,hz,↓hX,hp,hm,toNat_zero,oP,r0];exact bk rfl rfl
    ·have hX:(if vp=emp∧vm=emp then oP ⟨va,vp,vm⟩ false else toV ⟨va,vp,vm⟩)=toV ⟨va,vp,vm⟩:=if_neg fun h=>hm h.2;simp only[go_sem,ap,opE,opD,opV,aO,aN,bN,bK,fH,d5,d9,cN,cM,d7,d8,h0,h1,h2,h3,h4,h6,h7,hv,hz,↓hX,hp,hm,toNat_zero,toV,r0];exact bk rfl rfl
   ·have hX:(if vp=emp∧vm=emp then oP ⟨va,vp,vm⟩ false else toV ⟨va,vp,vm⟩)=toV ⟨va,vp,vm⟩:=if_neg fun h=>hp h.1;simp only[go_sem,ap,opE,opD,opV,aO,aN,bN,bK,fH,d5,d9,cN,cM,d7,d8,h0,h1,h2,h3,h4,h6,h7,hv,hz,↓hX,hp,toNat_zero,toV,r0];exact bk rfl rfl
end
theorem Od (l:List Tok)(h:RdOk l):oU l (kV l):=by
 rcases h1:aj l with ⟨⟨⟨rn,rx,rs⟩,b⟩,l1⟩;obtain⟨e1,e2⟩:=nD h1;have k1:=nE h h1;unfold kV;rw[e1];cases b with
 |true =>
  rw[if_pos rfl]at e2;rw[if_pos rfl,←e2];exact Lm k1 h1
 |false =>
 rw[if_neg (by simp)]at e2;rw[if_neg (by simp)];subst e2;have sg:∀s:ByteArray,¬atF l1 4 0=s→bd s l1=(false,l1):=fun s hs=>by unfold bd;rw[if_neg hs]
 by_cases h2:atF l1 4 0=⟨#[91]⟩
 ·rw[if_pos (show atF l1 4 0=Dg from h2)];exact Ll (k1.drop 1) h1 (by unfold bd;rw[if_pos h2])
 rw[if_neg (show ¬atF l1 4 0=Dg from h2)];by_cases h3:atF l1 4 0=⟨#[35]⟩
 ·rw[if_pos (show atF l1 4 0=cL from h3)];exact Ie (k1.drop 1) h1 (sg _ h2) (by unfold bd;rw[if_pos h3])
 rw[if_neg (show ¬atF l1 4 0=cL from h3)];rcases h4:loR l1 with e | ⟨b,l2⟩
 ·exact Lk h1 (sg _ h2) (sg _ h3) h4
 have k2:=Kv k1 h4;cases b with
 |true=>exact Oc k2 h1 (sg _ h2) (sg _ h3) h4
 |false =>
  have hl:l2=l1:=by
   unfold loR at h4;split at h4
   ·injection h4 with h4;injection h4 with _ h4;exact h4.symm
   ·split at h4
    ·cases h4
    ·injection h4 with h4;injection h4 with h4;cases h4
  subst hl;simp only;by_cases h5:¬atF l2 1 0=⟨#[]⟩∧ke 3 (atF l2 1 0)=true
  ·rw[if_pos (show ¬atF l2 1 0=emp∧ke 3 (atF l2 1 0)=true from h5)];exact If k1 h1 (sg _ h2) (sg _ h3) h4 h5.1 h5.2
  ·rw[if_neg (show ¬(¬atF l2 1 0=emp∧ke 3 (atF l2 1 0)=true) from h5)];exact Ln k1 h1 (sg _ h2) (sg _ h3) h4 h5
abbrev QO:am prog 152 :=
 qw _ _ _ func152 (asP rfl) (asP fun _ _=>by go_simp) (xs0) ((fun _ l=>RdOk l)) ((fun _ l=>(kV l).map fun(p:OpV×List Tok)=>(opV p.1,p.2))) (asP (by rw[ntmps152];decide)) (asP fun _ l h=>Od l h)
end
section
open Ex (Xs xs0)
def dU (l:List OpV):Blk:=⟨true,79,15,(l.map opR.enc).map bp⟩
def sV (r:Except Int (List OpV)):RO:=match r with
 |.ok out=>.ret (.s (.l (.sl 1 0 out.length))) [some (rdK [])] [dU out]
 |.error e=>.pan (qU e)
theorem sW {out:List OpV}:sV (.ok out)=.ret (.s (.l (.sl 1 0 out.length))) [some (rdK [])] [dU out]:=rfl
theorem dz {e:Int}:sV (.error e)=.pan (qU e):=rfl
theorem yH {st:St}{l:List Tok}{out:List OpV}{X:cK}{b:Nat}(h1:ac st.h 0=some (rdK l))(h2:ac st.h b=some (dU out))(hn:b≠0)(hx:2≤st.nx)(hX:X.map (fun p=>bI st.t p.1)=X.map fun p=>p.2.ren fun j=>[0,b].getD j st.nx):Wk ⟨none,1⟩ st ⟨2,X,aC 0 [rdK l,dU out]⟩:=by
 refine Wk.ren [0,b] (by intro j hj;have:j=0:=(by simpa using hj);subst this;rfl) (Nat.le_refl _) (by simpa using fun h=>hn h.symm) (fun p hp=>List.map_inj_left.1 hX p hp) ?_;intro p hp k hk;simp only[aC,mem_cons,List.not_mem_nil,or_false]at hp;rcases hp with rfl | rfl
 ·simp only[Option.some.injEq]at hk;subst hk;simp only[List.getD_eq_getElem?_getD,List.getElem?_cons_zero,getD_some,h1];rfl
 ·simp only[Option.some.injEq]at hk;subst hk;simp only[List.getD_eq_getElem?_getD,List.getElem?_cons_succ,List.getElem?_cons_zero,getD_some,h2];simp only[dU,Blk.ren,fS]
theorem NV {st:St}{l:List Tok}{out:List OpV}{b:Nat}(h1:ac st.h 0=some (rdK l))(h2:ac st.h b=some (dU out))(hn:b≠0)(hx:2≤st.nx) :
  vM 1 st (.ret (.s (.l (.sl 1 0 out.length))) [some (rdK l)] [dU out]) (some (.s (.l (.sl b 0 out.length)))):=by
 refine⟨_,_,_,rfl,rfl,by simp,by simp[rdK],by simp[dU],?_⟩;exact yH (st:=⟨st.nx,(0,.s (.l (.sl b 0 out.length)))::st.t,st.h⟩) h1 h2 hn hx rfl
theorem DL {out:List OpV}{q o:OpV}(h:out.getLast? = some q):tK out o=mg q o:=by unfold tK;rw[h]
theorem wh {l:List OpV}{o:OpV}:(l.map opR.enc).map bp++[[.v (.int .i64 o.kind),.v (.int .i64 o.r.n),.v (.bool o.r.x),.v (.bool o.r.sp),.v (.int .i64 o.m.n),.v (.bool o.m.x),.v (.bool o.m.sp),.v (.int .i64 o.md),.v (.int .i64 o.amt),.v (.int .i64 o.n),.v (.int .i64 o.add),.v (.string o.plus),.v (.string o.minus),.v (.bool o.lo),.v (.int .i64 o.mode)]]=((l++[o]).map opR.enc).map bp:=by
 rw[List.map_append,List.map_append];rfl
section
variable {out:List OpV}{l l1 l2:List Tok}{o q:OpV}{e:Int}
def SE (i:List OpV×List Tok):St:=⟨2,[(0,pv 0 0 0),(3,.s (.l (.sl 1 0 i.1.length)))],aC 0 [rdK i.2,dU i.1]⟩
end
theorem P0 (l0:List Tok)(h:RdOk l0):Sw f111 1 ⟨1,ax 0 [pv 0 0 0],aC 0 [rdK l0]⟩ (wj prog f111.results.toList 1 (sV (fP l0))):=by
 refine aq [] rfl ?_;simp only[go_sem];refine bF (ι:=List OpV×List Tok) (fun i=>RdOk i.2∧me i.1∧eZ i.2.length i.1 i.2=fP l0) SE (fun i=>i.2.length) ([],l0) ⟨h,mD,rfl⟩ ?_ ?_
 ·exact(Wk.nil 3 79 15 rfl).trans (yH (b:=33) rfl rfl (by decide) (show 2≤33+1 by decide) rfl)
 rintro⟨out,l⟩ ⟨hk,ho,hR⟩;simp only at hk ho hR;have hlm:l.length≤maxLen:=by have:=hk.few;unfold maxLen;omega
 have h8:=ho.few;unfold SE;refine aw [⟨_,mB⟩,⟨_,dx⟩,⟨_,QO⟩,⟨_,Ux⟩,⟨_,U0⟩,⟨_,vA⟩,⟨_,Gy⟩] ?_;cases hl0:l with
 |nil =>
  subst hl0;rw[←hR,c9];simp only[go_sem,ap,opE,opD,opV,aO,aN,bQ,dl,cf,dU,cN,cM,sW,Int.lt_irrefl,Int.ofNat_zero,Int.natCast_zero];exact NV (l:=[]) (out:=out) (b:=1) rfl rfl (by decide) (show 2≤130 by decide)
 |cons t r =>
 have hlpos:(0:Int)<l.length:=by rw[hl0,List.length_cons];omega
 have hlne:l≠[]:=by rw[hl0];simp
 rw[←hl0];obtain⟨n,hn⟩:∃n,l.length=n+1:=⟨r.length,by rw[hl0];rfl⟩;rw[hn,dX hlne]at hR;have hl63:(out.map opR.enc).map bp=((out.map opR.enc).map bp):=rfl;have hK:List.take out.length ((out.map opR.enc).map bp)=(out.map opR.enc).map bp:=List.take_of_length_le (by simp);have m1:out.length+1≤maxLen:=by unfold maxLen;omega
 have m2:(out.length+1)*120≤140737488355328:=by omega
 rcases hc1:(if out=[] then(.ok l:Except Int (List Tok)) else aY cQ l) with e | l1
 ·
  have hs:fo out l=.error e:=by unfold fo;rw[hc1]
  rw[←hR,hs];have hne:¬out=[]:=fun he=>by rw[if_pos he]at hc1;cases hc1
  rw[if_neg hne]at hc1;have hpos:(0:Int)<out.length:=by have:=List.length_pos_iff.2 hne;omega
  simp only[go_sem,ap,opE,opD,opV,aO,aN,bQ,dl,cf,dU,cN,cM,dz,length_map,hlpos,hpos,show aY (⟨#[44]⟩:ByteArray) l=.error e from hc1]
 have k1:RdOk l1:=by
  split at hc1
  ·injection hc1 with hc1;subst hc1;exact hk
  ·exact(dq kK hk hc1).1
 by_cases h88:out.length=8
 ·have hne:¬out=[]:=fun he=>by rw[he]at h88;simp at h88
  have hs:fo out l=.error 3:=by unfold fo;rw[hc1];simp only[if_pos h88]
  rw[←hR,hs];rw[if_neg hne]at hc1;simp only[go_sem,ap,opE,opD,opV,aO,aN,bQ,dl,cf,dU,cN,cM,dz,length_map,hlpos,h88,show aY (⟨#[44]⟩:ByteArray) l=.ok l1 from hc1,Int.reduceLT,Int.ofNat_lt,Nat.reduceLT,Int.cast_ofNat_Int]
 have h88I:¬(out.length:Int)=8:=by omega
 rcases ho2:kV l1 with e | ⟨o,l2⟩
 ·have hs:fo out l=.error e:=by unfold fo;rw[hc1];simp only[if_neg h88,ho2]
  rw[←hR,hs];by_cases hne:out=[]
  ·rw[if_pos hne]at hc1;injection hc1 with hc1;subst hc1 hne;simp only[go_sem,ap,opE,opD,opV,aO,aN,bQ,dl,cf,dU,cN,cM,dz,hlpos,hk,ho2,Int.lt_irrefl,Int.reduceEq]
  ·have hpos:(0:Int)<out.length:=by have:=List.length_pos_iff.2 hne;omega
   rw[if_neg hne]at hc1;simp only[go_sem,ap,opE,opD,opV,aO,aN,bQ,dl,cf,dU,cN,cM,dz,length_map,hlpos,hpos,show aY (⟨#[44]⟩:ByteArray) l=.ok l1 from hc1,h88I,k1,ho2]
 obtain⟨hoO,k2,hlt2⟩:=BK k1 ho2;by_cases hch:gT o=0
 case neg =>
  have hs:fo out l=.error (gT o):=by unfold fo;rw[hc1];simp only[if_neg h88,ho2,if_pos hch]
  rw[←hR,hs];by_cases hne:out=[]
  ·rw[if_pos hne]at hc1;injection hc1 with hc1;subst hc1 hne;simp only[go_sem,ap,opE,opD,opV,aO,aN,bQ,dl,cf,dU,cN,cM,dz,hlpos,hk,ho2,hoO,hch,Int.lt_irrefl,Int.reduceEq]
  ·have hpos:(0:Int)<out.length:=by have:=List.length_pos_iff.2 hne;omega
   rw[if_neg hne]at hc1;simp only[go_sem,ap,opE,opD,opV,aO,aN,bQ,dl,cf,dU,cN,cM,dz,length_map,hlpos,hpos,show aY (⟨#[44]⟩:ByteArray) l=.ok l1 from hc1,h88I,k1,ho2,hoO,hch]
 have hS:fo out l=if tK out o=true then .error 100 else .ok (out++[o],l2):=by unfold fo;rw[hc1];simp only[if_neg h88,ho2,if_neg (not_not_intro hch)]
 have hlt:l2.length≤n:=by
  have:l1.length≤l.length:=by
   split at hc1
   ·injection hc1 with hc1;subst hc1;exact Nat.le_refl _
   ·have:=(dq kK hk hc1).2.1;omega
  omega
 have hnext:tK out o=false→me (out++[o])∧eZ l2.length (out++[o]) l2=fP l0:=fun hg=>by
  rw[if_neg (by rw[hg];simp)]at hS;obtain⟨g1,-⟩:=lj hk ho hS;refine⟨g1,?_⟩;rw[←hR,hS];exact(nB k2 g1 hlt).symm
 by_cases hne:out=[]
 ·rw[if_pos hne]at hc1;injection hc1 with hc1;subst hc1 hne;have hg:tK [] o=false:=rfl;obtain⟨g1,g2⟩:=hnext hg;simp only[go_sem,ap,opE,opD,opV,aO,aN,bQ,dl,cf,dU,cN,cM,hlpos,hk,ho2,hoO,eq_true hch,Int.lt_irrefl,Int.reduceEq,List.take_nil];exact⟨by decide,([o],l2),⟨k2,g1,g2⟩,by show l2.length<l.length;omega,yH (b:=562) rfl rfl (by decide) (show 2≤594 by decide) rfl⟩
 have hpos:(0:Int)<out.length:=by have:=List.length_pos_iff.2 hne;omega
 rw[if_neg hne]at hc1;have hc1':aY (⟨#[44]⟩:ByteArray) l=.ok l1:=hc1
 obtain⟨q,hq⟩:∃q,out.getLast? = some q:=by
  cases hg:out.getLast? with
  |none=>exact absurd (List.getLast?_eq_none_iff.1 hg) hne
  |some q=>exact⟨q,rfl⟩
 obtain⟨m,hm⟩:∃m,out.length=m+1:=⟨out.length-1,by have:=List.length_pos_iff.2 hne;omega⟩
 have hqm:out[m]? = some q:=by
  rw[List.getLast?_eq_getElem?,hm]at hq;simpa using hq
 have em:IntKind.i64.wrap ((out.length:Int)-1)=(m:Int):=by rw[IntKind.wrap_i64];omega
 have hmI:(m:Int)<(out.length:Int):=by omega
 have hmN:m<out.length:=by omega
 obtain⟨qO,qc⟩:=ho.all q (List.mem_of_getElem? hqm);have hU:hdU (⟨#[44]⟩:ByteArray)=44:=rfl;have hU1:(⟨#[44]⟩:ByteArray).size=1:=rfl;have hG:tK out o=mg q o:=DL hq;have hp1:bY (bG o) ⟨#[35]⟩=bY (bG o) cL:=rfl
 have fin:mg q o=false→∃j:List OpV×List Tok,j=(out++[o],l2)∧(RdOk j.2∧me j.1∧eZ j.2.length j.1 j.2=fP l0)∧j.2.length<l.length:=fun hb=>by
  obtain⟨g1,g2⟩:=hnext (by rw[hG];exact hb);exact⟨_,rfl,⟨k2,g1,g2⟩,by show l2.length<l.length;omega⟩
 have el:(out++[o]).length=out.length+1:=by rw[List.length_append];rfl
 cases h1:bY (bG o) cL
 ·obtain⟨j,rfl,j1,j2⟩:=fin (by unfold mg;rw[h1];rfl);simp only[go_sem,ap,opE,opD,opV,aO,aN,bQ,dl,cf,dU,cN,cM,hlpos,hpos,hc1',h88I,k1,ho2,hoO,eq_true hch,hp1,h1,hK,m1,m2];exact⟨_,j1,j2,yH (b:=642) rfl (congrArg (fun r=>some (⟨true,79,15,r⟩:Blk)) wh) (by decide) (show 2≤674 by decide) (by rw[el];rfl)⟩
 by_cases h2:q.kind=5
 case neg =>
  obtain⟨j,rfl,j1,j2⟩:=fin (by unfold mg;rw[beq_eq_false_iff_ne.2 h2];simp);simp only[go_sem,ap,opE,opD,opV,aO,aN,bQ,dl,cf,dU,cN,cM,hlpos,hpos,hc1',h88I,k1,ho2,hoO,eq_true hch,hp1,h1,em,hmI,hmN,hqm,h2,hK,m1,m2];exact⟨_,j1,j2,yH (b:=754) rfl (congrArg (fun r=>some (⟨true,79,15,r⟩:Blk)) wh) (by decide) (show 2≤786 by decide) (by rw[el];rfl)⟩
 cases h3:(decide (0≤Lib.indexByte (bG q).data.toList 44))
 ·have hb:mg q o=true:=by unfold mg uz;rw[h1,h3,h2];rfl
  rw[hG,if_pos hb]at hS;rw[←hR,hS];simp only[go_sem,ap,opE,opD,opV,aO,aN,bQ,dl,cf,dU,cN,cM,dz,hlpos,hpos,hc1',h88I,k1,ho2,hoO,eq_true hch,hp1,h1,em,hmI,hmN,hqm,eq_true h2,qO,qc,hU1,hU,h3]
 ·obtain⟨j,rfl,j1,j2⟩:=fin (by unfold mg uz;rw[h3];simp);simp only[go_sem,ap,opE,opD,opV,aO,aN,bQ,dl,cf,dU,cN,cM,hlpos,hpos,hc1',h88I,k1,ho2,hoO,eq_true hch,hp1,h1,em,hmI,hmN,hqm,eq_true h2,qO,qc,hU1,hU,h3,hK,m1,m2];exact⟨_,j1,j2,yH (b:=882) rfl (congrArg (fun r=>some (⟨true,79,15,r⟩:Blk)) wh) (by decide) (show 2≤914 by decide) (by rw[el];rfl)⟩
end
section
open Ex (Xs xs0)
def ws:am prog 111 :=
 UE 1 1 (by decide) _ _ _ func111 rfl (fun _ _=>by go_simp) (iD xs0 fun _ l=>RdOk l) (fun _=>[pv 0 0 0]) (fun x=>[rdK x.2]) (fun x=>sV (fP x.2)) (by rw[ntmps111];decide)
  (by
   intro h h' args r hs hd;unfold iD at hd ⊢;split at hd
   ·split at hd
    ·rename_i h1 h2;rw[vd hs h1,h2];exact hd
    ·cases hd
   ·cases hd)
  (by
   intro h zs q' bs x hd hq;unfold iD at hd;split at hd
   case h_2=>cases hd
   rename_i A zs';split at hd
   case h_2=>cases hd
   rename_i b l x' h1 h2;injection hd with hd;injection hd with e1 hd;injection hd with e2 e3;subst e2;subst e3;obtain⟨rfl,hb1⟩:=AI h1;refine⟨by rw[ntmps111];decide,rfl,rfl,by simp,fun d=>⟨?_,?_⟩⟩
   ·intro j b' k hj hk
    match j,hj,hk with
    |0,hj,hk =>
     simp at hj hk;subst hj;subst hk;exact⟨rfl,by rw[hb1];rfl⟩
   ·intro ρ al vals hA
    match vals,hA with
    |v::vs,⟨a,r⟩=>exact⟨a,xs0.ok (al:=al) h2 (Mem.le_refl _) r⟩)
  (by
   intro h zs q' bs x hd hq;unfold iD at hd;split at hd
   case h_2=>cases hd
   split at hd
   case h_2=>cases hd
   injection hd with hd;injection hd with e1 hd;injection hd with e2 e3;subst e1;subst e3;exact P0 _ hq)
theorem t7 {id:Nat}{h:ag}{args:List AV}:ws.run id h args=IH 1 (iD xs0 fun _ l=>RdOk l) (fun x=>sV (fP x.2)) id h args:=rfl
theorem tZ {id:Nat}{h:ag}{args:List AV}:ws.pan id h args=iT (iD xs0 fun _ l=>RdOk l) (fun x=>sV (fP x.2)) h args:=rfl
def kp (l:List Tok):PO :=
 match fP l with
 |.ok out=>.ret (.tup [.l (.d (.sd 15 (out.map opR.enc))),.l (.v (.int .i64 0))])
 |.error e=>.ret (.tup [.l (.v (.slice none 0 0)),.l (.v (.int .i64 e))])
def c2K (a:LV)(c:Int):List Blk:=[⟨true,35,1,[[a]]⟩,⟨true,27,1,[[.v (.int .i64 c)]]⟩]
structure Jh (s:St)(a:LV)(c:Int):Prop where
 h0:ac s.h 0=some ⟨true,35,1,[[a]]⟩
 h1:ac s.h 1=some ⟨true,27,1,[[.v (.int .i64 c)]]⟩
def PK (s:St):Prop:=bI s.t 2=pv 0 0 0∧bI s.t 3=pv 1 0 0
theorem Hg (l:List Tok)(hl:RdOk l):Jj prog 49 f49 ⟨0,ax 0 [(tSl 4 jX).enc l],[]⟩ (kp l):=by
 intro B w ρ al vals R hpl hds H hret _
 refine oj (K:=2) (js:=[1,0]) (cells:=[(2,0),(3,1)]) (s1:=⟨2,[(0,(tSl 4 jX).enc l),(2,pv 0 0 0),(3,pv 1 0 0)],aC 0 (c2K (.v (.slice none 0 0)) 0)⟩)
  (post:=fun s=>PK s∧∃out,fP l=.ok out∧∃b,Jh s (.sl b 0 out.length) 0∧2≤b∧ac s.h b=some (dU out))
  (pp:=fun x s=>PK s∧∃e,fP l=.error e∧x=qU e∧Jh s (.v (.slice none 0 0)) 0)
  (post2:=fun s=>xv s.h (kp l) (kf prog f49.results.toList ⟨s.nx,[(2,pv 0 0 0),(3,pv 1 0 0)],s.h⟩))
  func49 rfl func110 rfl rfl rfl rfl rfl (by decide) (by decide) (by decide) (by decide) hpl hds H ?_
  (DQ rfl rfl rfl (fun _=>rfl) (fun _ _=>by go_simp) rfl) ?_ ?_ ?_ ?_ ?_ ?_ ?_
 ·refine aw [] ?_;rw[ntmps49];simp only[go_sem];exact Wk.renL [0,16] (by simp) (by simp) (by decide) rfl rfl
 ·intro j hj
  match j,hj with
  |0,_=>exact⟨_,rfl⟩
  |1,_=>exact⟨_,rfl⟩
 ·refine aw [⟨_,ws⟩] ?_;rw[ntmps49];rcases hr:fP l with e | out
  ·simp only[go_sem,c2K,t7,tZ,IH,hl,hr,sW,dz];exact⟨⟨rfl,rfl⟩,e,rfl,rfl,⟨rfl,rfl⟩⟩
  ·simp only[go_sem,c2K,t7,tZ,IH,hl,hr,sW,dz,dU];exact⟨⟨rfl,rfl⟩,out,rfl,82,⟨rfl,rfl⟩,by decide,rfl⟩
 ·rintro s ⟨⟨e1,e2⟩,_⟩ p hp;simp only[mem_cons,List.not_mem_nil,or_false]at hp;rcases hp with rfl | rfl
  ·exact e1
  ·exact e2
 ·rintro x s ⟨⟨e1,e2⟩,_⟩ p hp;simp only[mem_cons,List.not_mem_nil,or_false]at hp;rcases hp with rfl | rfl
  ·exact e1
  ·exact e2
 ·rintro s ⟨-,out,hr,b,hc,h3,ht⟩;refine aw [] ?_;rw[ntmps110,results49]
  have hm:cZ (cZ (LV.toD s.h 3)) ((dU out).els.take out.length)=some (True,[],out.map opR.enc):=by
   rw[List.take_of_length_le (by simp[dU])];exact gl
  have ho:(dU out).own=true:=rfl;have hz:(dU out).sz=15:=rfl;have hlen:out.length≤(dU out).els.length:=by simp[dU]
  have hb:=@ny prog 20 .nilIface (.tmp 7) vH;simp only[go_sem,pvs,↓hb,hc.h0,hc.h1,kp,hr,ht,ho,hz,hm,hlen]
 ·rintro x s ⟨-,e,hr,rfl,hc⟩
  have hwk:Wk ⟨none,2⟩ ⟨s.nx,(7,.s (.l (.v (qU e))))::ax 0 (pvs [1,0]),s.h⟩ ⟨2,(7,.s (.l (.v (qU e))))::ax 0 (pvs [1,0]),aC 0 (c2K (.v (.slice none 0 0)) 0)⟩:=by
   refine Wk.renL [0,1] (by decide) (Nat.le_refl 2) (by decide) rfl ?_;simp only[c2K,aC,List.map_cons,List.map_nil,List.getD_eq_getElem?_getD,List.getElem?_cons_zero,List.getElem?_cons_succ,getD_some,hc.h0,hc.h1];rfl
  refine SW.wk ?_ hwk;refine aw [] ?_;rw[ntmps110,results49];have hb:∀u v,_:=fun u v=>@kZ prog 20 u v .nilIface (.tmp 7) vH;have hs:CD (.agg #[.int .i64 e])=some (.agg [.v (.int .i64 e)]):=rfl;simp only[go_sem,pvs,↓hb,hs,qU,pw,c2K];refine bu (ctx:=[]) mixed ⟨[],[(5,[0]),(7,[1])],[(0,[0]),(1,[0]),(2,[0]),(3,[0])]⟩ (by kernel_rfl) ?_;simp only[go_sem,kp,hr]
 ·intro s ρ al a w1 h2 H2;exact hret _ ρ al a w1 h2 H2
def FC:am prog 49:=QA _ _ (fun _ _=>by go_simp) (tSl 4 jX) RdOk kp (by rw[ntmps49];decide) fun l hl=>Hg l hl
theorem Bm {id:Nat}{h:ag}{args:List AV}:FC.run id h args=fT (cE (tSl 4 jX) RdOk) kp h args:=rfl
theorem Bl {h:ag}{id:Nat}{args:List AV}:FC.pan id h args=gh (cE (tSl 4 jX) RdOk) kp h args:=rfl
end
end Go.Proofs.YtnhbidpdadkcjaaGreatDoor
