/- The statement of StmtRead: called with any arguments the law returns true, and the arguments read aS0 before. No condition; its card is tied to the program's text. -/
import Derived.Test.YtnhbidpdadkcjaaGreatDoorJ53
import Derived.Test.YtnhbidpdadkcjaaGreatDoorJ52
import Derived.Lib.SmallJoins
open Go.RowKit
set_option linter.unusedVariables false
set_option linter.unusedSimpArgs false
set_option maxRecDepth 100000
set_option maxHeartbeats 8000000
open List (map_append)
namespace Go.Proofs.YtnhbidpdadkcjaaGreatDoor
open Go.Proofs.Tryz
theorem wj (o:OpV)(m:Int):dD o m=(decide (0≤o.md)&&(decide (o.md≤m)&&lL o 0)):=by
 unfold dD lL;rw[Bool.eq_iff_iff];simp only[Bool.and_eq_true,decide_eq_true_eq];omega
theorem G9 (o:OpV):eA o=kE o:=by
 unfold eA kE;by_cases h1:eO o.m=false
 ·rw[if_pos (.inl h1),if_pos (.inl h1)]
 by_cases h2:o.m.sp=true
 ·rw[if_pos (.inr (.inl h2)),if_pos (.inr (.inl h2))]
 by_cases h3 : -1≤o.amt∧o.amt≤63
 ·have c1:¬(eO o.m=false∨o.m.sp=true∨o.amt < -1∨63<o.amt):=by
   simp only[not_or];exact⟨h1,h2,by omega,by omega⟩
  rw[if_neg c1];by_cases h4:o.md=0
  ·have d1:¬(o.md=1∨o.md=12):=by omega
   have d2:¬(o.md=7∨o.md=11):=by omega
   rw[if_neg d1,if_neg d2];split<;>rfl
  ·have:lL o (-1)=true:=by unfold lL;rw[decide_eq_true_eq];exact⟨h3.1,h3.2,.inl h4⟩
   have c2:¬(eO o.m=false∨o.m.sp=true∨lL o (-1)=false):=by
    simp only[not_or];exact⟨h1,h2,by rw[this];simp⟩
   rw[if_neg c2]
 ·rw[if_pos (show eO o.m=false∨o.m.sp=true∨o.amt < -1∨63<o.amt by omega)];have:lL o (-1)=false:=by unfold lL;rw[decide_eq_false_iff_not];omega
  rw[if_pos (show eO o.m=false∨o.m.sp=true∨lL o (-1)=false from .inr (.inr this))]
theorem zd {o:OpV}(h:¬(o.mode=1∨o.mode=2)∨o.lo=false):fj o=lF o:=by
 unfold fj lF;cases h1:eO o.r
 ·rw[if_pos (.inl rfl)];rfl
 cases h2:o.r.x
 ·rw[if_pos (.inr (.inl rfl))];rfl
 cases h3:((o.r.n==31)==o.r.sp)
 ·rw[if_pos (.inr (.inr (.inl (by rw[bne,h3];rfl))))];rfl
 by_cases h4:o.mode<0
 ·rw[if_pos (.inr (.inr (.inr (.inl h4)))),decide_eq_false (show ¬0≤o.mode by omega)];rfl
 by_cases h5:3<o.mode
 ·rw[if_pos (.inr (.inr (.inr (.inr h5)))),decide_eq_false (show ¬o.mode≤3 by omega)];simp
 have h3':((o.r.n==31) !=o.r.sp)=false:=by rw[bne,h3];rfl
 rw[if_neg (by simp[h3',h4,h5]),decide_eq_true (show 0≤o.mode by omega),decide_eq_true (show o.mode≤3 by omega)];by_cases h6:o.mode=3
 ·rw[if_pos h6,decide_eq_false (by simp[h6]),G9];rfl
 ·rw[if_neg h6,decide_eq_true h6];rcases h with h | h
  ·have:o.mode=0:=by omega
   rw[this];cases o.lo<;>rfl
  ·rw[h];rfl
theorem Ey (o:OpV):iO o=(im o&&decide (cC o=o)):=by
 unfold iO im;by_cases h1:o.kind=1
 ·have e:cM o=cC o:=by unfold cM cC;rw[if_pos h1,if_pos h1]
  rw[e,if_pos h1,if_pos h1,wj];by_cases hb:cC o=o
  ·rw[if_neg (by simp[hb]),decide_eq_true hb,Bool.and_true]
  ·rw[if_pos hb,decide_eq_false hb,Bool.and_false]
 rw[if_neg h1,if_neg h1];by_cases h2:o.kind=2
 ·rw[if_pos h2,if_pos h2,wj];cases hl:o.lo
  ·have e:cM o=cC o:=by unfold cM cC;rw[if_neg h1,if_pos h2,if_neg (by rw[hl];simp),if_neg h1,if_pos h2]
   rw[e];by_cases hb:cC o=o
   ·rw[if_neg (by simp[hb]),decide_eq_true hb,Bool.and_true,Bool.eq_iff_iff];simp only[Bool.and_eq_true,Bool.or_eq_true,decide_eq_true_eq,Bool.not_false,and_true];unfold lL;simp only[decide_eq_true_eq];omega
   ·rw[if_pos hb,decide_eq_false hb,Bool.and_false]
  ·have e1:cM o=⟨o.kind,r0,r0,0,0,0,o.add,o.plus,o.minus,o.lo,0⟩:=by unfold cM;rw[if_neg h1,if_pos h2,if_pos hl]
   have e2:cC o=⟨o.kind,r0,r0,o.md,o.amt,0,o.add,o.plus,o.minus,o.lo,0⟩:=by unfold cC;rw[if_neg h1,if_pos h2]
   rw[e1,e2];by_cases hb:(⟨o.kind,r0,r0,0,0,0,o.add,o.plus,o.minus,o.lo,0⟩:OpV)=o
   ·have g1:o.md=0:=(congrArg OpV.md hb).symm;have g2:o.amt=0:=(congrArg OpV.amt hb).symm;have hb2:(⟨o.kind,r0,r0,o.md,o.amt,0,o.add,o.plus,o.minus,o.lo,0⟩:OpV)=o:=by rw[g1,g2];exact hb
    rw[if_neg (by simp[hb]),decide_eq_true hb2];unfold lL;rw[g1,g2];rfl
   ·rw[if_pos hb];by_cases hb2:(⟨o.kind,r0,r0,o.md,o.amt,0,o.add,o.plus,o.minus,o.lo,0⟩:OpV)=o
    ·have:((decide (o.md=0)||(decide (o.md=1)&&!true))&&lL o 0)=false:=by
      rw[Bool.not_true,Bool.and_false,Bool.or_false];by_cases g1:o.md=0
      ·have g2:¬o.amt=0:=by
        intro g2;rw[g1,g2]at hb2;exact hb hb2
       rw[decide_eq_true g1];unfold lL;rw[decide_eq_false (by omega)];rfl
      ·rw[decide_eq_false g1];rfl
     rw[this];rfl
    ·rw[decide_eq_false hb2,Bool.and_false]
 rw[if_neg h2,if_neg h2];by_cases h3:o.kind=3
 ·have e:cM o=cC o:=by unfold cM cC;rw[if_neg h1,if_neg h2,if_pos h3,if_neg h1,if_neg h2,if_pos h3]
  rw[e,if_pos h3,if_pos h3];by_cases hb:cC o=o
  ·rw[if_neg (by simp[hb]),decide_eq_true hb];rfl
  ·rw[if_pos hb,decide_eq_false hb];rfl
 rw[if_neg h3,if_neg h3];by_cases h5:o.kind=5
 ·rw[if_neg (show ¬(o.kind=4∨o.kind=6∨o.kind=7∨o.kind=8∨o.kind=9) by omega),if_pos h5,if_pos h5];by_cases m3:o.mode=3
  ·have e:cM o=cC o:=by unfold cM cC;rw[if_neg h1,if_neg h2,if_neg h3,if_pos h5,nG,if_pos m3,if_neg h1,if_neg h2,if_neg h3,if_pos h5,if_pos m3]
   rw[e,zd (.inl (by omega))];by_cases hb:cC o=o
   ·rw[if_neg (by simp[hb]),decide_eq_true hb,Bool.and_true]
   ·rw[if_pos hb,decide_eq_false hb,Bool.and_false]
  ·have e2:cC o=⟨o.kind,o.r,r0,0,0,0,o.add,o.plus,o.minus,o.lo,o.mode⟩:=by unfold cC;rw[if_neg h1,if_neg h2,if_neg h3,if_pos h5,if_neg m3]
   by_cases m0:o.mode=0
   ·have e:cM o=cC o:=by unfold cM;rw[e2,if_neg h1,if_neg h2,if_neg h3,if_pos h5,if_pos m0]
    rw[e,zd (.inl (by omega))];by_cases hb:cC o=o
    ·rw[if_neg (by simp[hb]),decide_eq_true hb,Bool.and_true]
    ·rw[if_pos hb,decide_eq_false hb,Bool.and_false]
   ·have e1:cM o=⟨o.kind,o.r,r0,0,0,0,o.add,o.plus,o.minus,false,o.mode⟩:=by unfold cM;rw[if_neg h1,if_neg h2,if_neg h3,if_pos h5,if_neg m0,if_neg m3]
    rw[e1,e2];cases hl:o.lo
    ·rw[zd (.inr hl)];by_cases hb:(⟨o.kind,o.r,r0,0,0,0,o.add,o.plus,o.minus,false,o.mode⟩:OpV)=o
     ·rw[if_neg (by simp[hb]),decide_eq_true hb,Bool.and_true]
     ·rw[if_pos hb,decide_eq_false hb,Bool.and_false]
    ·rw[if_pos (by intro hb;have:=congrArg OpV.lo hb;rw[hl]at this;cases this)]
     have:lF o=false:=by
      have z:(!o.lo||(o.mode==0))=false:=by rw[hl,beq_eq_false_iff_ne.2 m0];rfl
      unfold lF;rw[if_neg m3,z];split<;>rfl
     rw[this];rfl
 rw[if_neg h5,if_neg h5];by_cases hk:o.kind=4∨o.kind=6∨o.kind=7∨o.kind=8∨o.kind=9
 ·have e:cM o=cC o:=by unfold cM cC;rw[if_neg h1,if_neg h2,if_neg h3,if_neg h5,if_pos hk,if_neg h1,if_neg h2,if_neg h3,if_neg h5]
  have em:ka o.kind=oE o.kind:=by
   rcases hk with h | h | h | h | h<;>rw[h]<;>rfl
  rw[e,if_pos hk,em];by_cases hb:cC o=o
  ·rw[if_neg (by simp[hb]),decide_eq_true hb,Bool.and_true]
  ·rw[if_pos hb,decide_eq_false hb,Bool.and_false]
 ·rw[if_neg hk]
  have em:oE o.kind = -1:=by
   unfold oE;rw[nG,nG,nG,nG]
  have:(decide (0≤o.n)&&decide (o.n≤oE o.kind))=false:=by
   rw[em,Bool.and_eq_false_iff,decide_eq_false_iff_not,decide_eq_false_iff_not];omega
  rw[this];split<;>rfl
theorem NT (o:OpV):tN o=fh o:=by
 unfold tN fh;rw[Ey];by_cases h:im o=true∧cC o=o
 ·have e1:(im o&&decide (cC o=o))=true:=by rw[h.1,decide_eq_true h.2];rfl
  have c:¬(im o=false∨¬cC o=o):=by rw[h.1];simp[h.2]
  rw[if_neg c,e1,if_neg (show ¬(true=false) by decide)]
 ·have h1:im o=false∨¬cC o=o:=by
   cases ho:im o
   ·exact .inl rfl
   ·exact .inr fun hb=>h ⟨ho,hb⟩
  rw[if_pos h1,if_pos];rcases h1 with h1 | h1
  ·rw[h1];rfl
  ·rw[decide_eq_false h1,Bool.and_false]
theorem Bo:∀k:Fin 6,(k.val=0→ag 3 6 (dF 8 (k.val:Int))=((ag 3 6 ⟨#[115,112,115,101,108]⟩).1,0))∧(k.val≠0→¬(ag 3 6 (dF 8 (k.val:Int))).2=0):=by decide +kernel
theorem Eu {o:OpV}(h:o.kind=9):aO o=dF 8 o.n:=by
 unfold aO;rw[nG,nG,nG,nG,nG,nG,nG,if_pos h]
theorem K2 {o:OpV}(h:o.kind=9)(hc:fh o=0):0≤o.n∧o.n≤5:=by
 obtain⟨hf,-,-⟩:=cY hc;obtain⟨-,hk⟩:=cI hf;rcases hk with h1 | h1 | h1 | h1 | h1
 ·omega
 ·omega
 ·omega
 ·have h2:=h1.2.2;rw[h]at h2;have:ka 9=5:=rfl;omega
 ·omega
theorem K0 {o:OpV}(h:o.kind=9)(hc:fh o=0)(h0:o.n=0):ag 3 6 (aO o)=((ag 3 6 ⟨#[115,112,115,101,108]⟩).1,0):=by
 rw[Eu h,h0];exact(Bo 0).1 rfl
theorem K1 {o:OpV}(h:o.kind=9)(hc:fh o=0)(h0:¬o.n=0):¬(ag 3 6 (aO o)).2=0:=by
 have hr:=K2 h hc;rw[Eu h];have:=(Bo ⟨o.n.toNat,by omega⟩).2 (by simp only;omega)
 rwa [show(((⟨o.n.toNat,by omega⟩:Fin 6).val:Nat):Int)=o.n by simp only;omega]at this
theorem MA (o:OpV)(hO:okO o):Sw f52 0 ⟨0,aA 0 [tOp.enc o],[]⟩ (oQ f52 (.ret (opV (aB o)))):=by
 refine aq [⟨_,Yg⟩,⟨_,Qk⟩,⟨_,VF⟩,⟨_,zx⟩] rfl ?_;have hcs:=NT o;by_cases hc:fh o=0
 case neg=>simp only[go_sem,ah,opE,opD,ar,ap,opV,hO,hcs,hc,aB]
 by_cases k3:o.kind=3
 ·cases hA:ly o
  ·have hA':(decide (o.val.plus=emp)&&decide (o.val.minus=emp))=false:=hA;simp only[go_sem,ah,opE,opD,ar,ap,fW,bZ,opV,hO,hcs,eq_true hc,eq_true k3,hA,hA',aB]
  ·have hA':(decide (o.val.plus=emp)&&decide (o.val.minus=emp))=true:=hA;simp only[go_sem,ah,opE,opD,ar,ap,fW,bZ,opV,hO,hcs,eq_true hc,eq_true k3,hA,hA',aB,r0,ac]
 by_cases k7:o.kind=7
 ·have k8:¬o.kind=8:=by omega
  by_cases hn:(ak 4 o.n).2=0
  ·simp only[go_sem,ah,opE,opD,ar,ap,opV,hO,hcs,eq_true hc,k3,eq_true k7,k8,cu,eq_true hn,aB]
  ·simp only[go_sem,ah,opE,opD,ar,ap,opV,hO,hcs,eq_true hc,k3,eq_true k7,k8,cu,hn,aB,qT,r0,ac]
 by_cases k8:o.kind=8
 ·by_cases hn:(ak 7 o.n).2=0
  ·simp only[go_sem,ah,opE,opD,ar,ap,opV,hO,hcs,eq_true hc,k3,k7,eq_true k8,cu,eq_true hn,aB]
  ·simp only[go_sem,ah,opE,opD,ar,ap,opV,hO,hcs,eq_true hc,k3,k7,eq_true k8,cu,hn,aB,qT,r0,ac]
 by_cases k9:o.kind=9
 ·have hs:(⟨#[115,112,115,101,108]⟩:ByteArray).size≤1099511627776:=by decide
  by_cases h0:o.n=0
  ·have e:=K0 k9 hc h0;have e2:(ag 3 6 (aO o)).2=0:=by rw[e]
   have e1:(ag 3 6 (aO o)).1=(ag 3 6 ⟨#[115,112,115,101,108]⟩).1:=by rw[e]
   simp only[go_sem,ah,opE,opD,ar,ap,opV,hO,hcs,eq_true hc,k3,k7,k8,eq_true k9,eq_true h0,bz,hs,aB,eq_true e2,e1,r0,ac]
  ·have e:=K1 k9 hc h0;simp only[go_sem,ah,opE,opD,ar,ap,opV,hO,hcs,eq_true hc,k3,k7,k8,eq_true k9,h0,aB,e]
 ·simp only[go_sem,ah,opE,opD,ar,ap,opV,hO,hcs,eq_true hc,k3,k7,k8,k9,aB]
abbrev Qq:ao prog 52 :=
 mz1 func52 (tOp) (okO) ((fun o=>.ret (opV (aB o)))) (asP fun o h=>MA o h)
def zrB:Blk:=⟨true,41,8,[zs8]⟩
def Yd (s:StV)(i:Nat):St:=⟨3,[(1,pv 0 0 0),(2,pv 1 0 0),(3,.s (.l (.sl 2 0 i))),(4,iv i)],aN 0 [dv s,zrB,dM ((s.opers.map aB).take i)]⟩
theorem L6 (l:List OpV)(g:Nat→Nat):(dM l).ren g=dM l:=by
 unfold dM Blk.ren;simp only[Blk.mk.injEq,true_and];exact gZ
theorem QZ {a b c d e f:Option Blk}(h1:a=b)(h2:c=d)(h3:e=f):[a,c,e]=[b,d,f]:=by rw[h1,h2,h3]
theorem TL (s:StV)(h6:s.opers.length≤1000000)(hO:∀o∈s.opers,okO o):Sw f21 0 ⟨0,aA 0 [rm.enc s],[]⟩ (oQ f21 (.ret (.s (.agg (bw (aW (pM s))))))):=by
 refine aq [] rfl ?_;have x3:maxLen=9223372036854775807:=rfl;simp only[go_sem,cD,aW];refine bm (ι:=Nat) (fun i=>i≤s.opers.length) (Yd s) (fun i=>s.opers.length-i) 0 (Nat.zero_le _) ?_ ?_
 ·exact(Wk.nil 3 79 15 rfl).trans (Wk.renL [0,16,64] (by simp) (Nat.le_add_left _ _) (by simp) rfl rfl)
 intro i hi;unfold Yd;refine aw [⟨_,Qq⟩] ?_;have hlen:((s.opers.map aB).take i).length=i:=by rw[List.length_take,List.length_map];omega
 by_cases hlt:i<s.opers.length
 ·have hltI:(i:Int)<s.opers.length:=by omega
  obtain⟨o,ho⟩:∃o,s.opers[i]? = some o:=⟨_,List.getElem?_eq_getElem hlt⟩;have hok:=hO o (List.mem_of_getElem? ho);have ei:=wI i;have hT:(s.opers.map aB).take (i+1)=(s.opers.map aB).take i++[aB o]:=by rw[List.take_add_one,List.getElem?_map,ho];rfl
  obtain⟨T,hTT⟩:∃T,(s.opers.map aB).take i=T:=⟨_,rfl⟩;obtain⟨p,hp⟩:∃p,aB o=p:=⟨_,rfl⟩;rw[hTT]at hT hlen;rw[hp]at hT;have hK:List.take i ((T.map opR.enc).map bw)=(T.map opR.enc).map bw:=List.take_of_length_le (by simp[hlen]);have hK2:(T.map opR.enc).map bw++[bw (opE p)]=((T++[p]).map opR.enc).map bw:=by rw[map_append,map_append];rfl
  simp only[opE,bw,ofD,List.map_cons,List.map_nil]at hK2;have m1:i+1≤maxLen:=by omega
  have m2:(i+1)*120≤140737488355328:=by omega
  simp only[go_sem,dv,aW,hltI,hlt,ho,ah,opE,opD,ar,ap,hok,hp,opV,hTT,dM,hK,hlen,m1,ei];have hB:(⟨true,79,15,(T.map opR.enc).map bw++[bw (opE p)]⟩:Blk)=dM (T++[p]):=by unfold dM;rw[map_append,map_append];rfl
  exact⟨m2,i+1,hlt,by omega,Wk.renL [0,1,243] (by simp) (Nat.le_add_left 3 _) (by simp) rfl (by rw[hT];exact QZ rfl rfl ((congrArg some hB).trans (congrArg some (L6 _ _).symm)))⟩
 obtain rfl:i=s.opers.length:=by omega
 have hI:¬(s.opers.length:Int)<s.opers.length:=by omega
 have hfull:(s.opers.map aB).take s.opers.length=s.opers.map aB:=List.take_of_length_le (by simp)
 have hm:∀h:ai,dA (dA (LV.toD h 3)) (((((s.opers.map aB).map opR.enc).map bw)).take s.opers.length)=some (True,[],(s.opers.map aB).map opR.enc):=fun h=>by
  rw[List.take_of_length_le (by simp)];exact gy
 rw[hfull];simp only[go_sem,dv,aW,zrB,zs8,dM,hI,hm,pM]
abbrev UT:ao prog 21 :=
 mz1 func21 (rm) ((fun s=>s.opers.length≤1000000∧∀o∈s.opers,okO o)) ((fun s=>.ret (.s (.agg (bw (aW (pM s))))))) (asP fun s h=>TL s h.1 h.2)
theorem HN {l:List Tok}{x:Int}(h:RdOk l)(e:kg l=.error x):x≠0:=by
 unfold kg at e;rcases hl:labelsF l.length [] l with y | ⟨ls,r⟩
 ·rw[hl]at e;injection e with e;subst e;exact wG hl
 rw[hl]at e;simp only at e;obtain⟨hr,-⟩:=pB h (by simp) hl;split at e
 ·cases e
 rcases hq:restR ⟨r,{ st0 with labels:=ls }⟩ with y | q
 case ok=>rw[hq]at e;cases e
 rw[hq]at e;injection e with e;subst e;unfold restR at hq;rcases hn:nextF 1 110 r with z | ⟨name,l1⟩
 ·simp only[hn]at hq;injection hq with hq;have:=vz hn;omega
 simp only[hn]at hq;obtain⟨g1,g2,g3,g4,g5⟩:=qR hr hn;split at hq
 ·injection hq with hq;omega
 split at hq
 ·unfold ve at hq;rcases hd:readR name ⟨l1,{ st0 with labels:=ls }⟩ with z | q1
  ·rw[hd]at hq;injection hq with hq;subst hq;exact Mo (p:=⟨l1,{ st0 with labels:=ls }⟩) ⟨g1,Nat.le_refl _,Nat.le_refl _,fun v hv=>(by cases hv)⟩ hd
  ·rw[hd]at hq;simp only at hq;split at hq
   ·cases hq
   ·injection hq with hq;omega
 rcases ho:listF l1 with z | o
 ·rw[ho]at hq;injection hq with hq;subst hq;exact BC g1 ho
 ·rw[ho]at hq;cases hq
theorem MR {t:ByteArray}{x:Int}(e:dU (aa t)=.error x):x≠0:=by
 unfold dU at e;rcases hl:fy (aa t) with ⟨ts,n,z⟩;rw[hl]at e;simp only at e;split at e
 ·rename_i h0;subst h0;exact HN (Hk hl) e
 ·rename_i h0;injection e with e;rw[←e];exact h0
theorem read_again {t:ByteArray}{s:StV}(e:dU (aa t)=.ok s):iB s=(emp,3)∨∃u,iB s=(u,0)∧dU (aa u)=.ok s:=by
 have hr:=vT e;by_cases h5:512<(qg s).size
 ·left;unfold iB;rw[if_neg (by rw[hr.chk];simp),if_pos h5]
 ·right;have hp:iB s=(qg s,0):=by unfold iB;rw[if_neg (by rw[hr.chk];simp),if_neg h5]
  have:=MS hr.good hp;rw[hr.plain]at this;exact⟨_,hp,this⟩
theorem QE (line:ByteArray):Sw f5 0 ⟨0,aA 0 [bu.enc line],[]⟩ (oQ f5 (.ret (bv true))):=by
 refine aq [⟨_,WA⟩,⟨_,uK⟩,⟨_,UU⟩,⟨_,J0⟩,⟨_,Yq⟩,⟨_,UT⟩] rfl ?_;by_cases hl:(2000:Int)<line.size
 ·simp only[go_sem,hl]
 rcases hF:dU (aa line) with x | s
 ·have hx:=MR hF;have hS:mC line=.ret (.tup [.agg (bw (aW st0)),.l (.v (.int .i64 x))]):=by unfold mC;rw[hF]
  simp only[go_sem,hl,nu,nt,hS,aW,hx]
 have hS:mC line=.ret (.tup [.agg (bw (aW s)),.l (.v (.int .i64 0))]):=by unfold mC;rw[hF]
 have hok:=I2 hF;have hsm:=hok.sm;have hr:=vT hF;have hch:=hr.chk;have hpl:=hr.plain;have hO:=hok.operT;have hO2:=hok.opers;have hSt:=Du.back s;simp only[cD,aW,dZ,gw]at hSt;have hss:decide (s=s)=true:=decide_eq_true rfl;rcases read_again hF with hp | ⟨u,hp,hb⟩
 ·simp only[go_sem,hl,nu,nt,hS,aW,hSt,hok,hch,hp,Fo]
 ·have hS2:mC u=.ret (.tup [.agg (bw (aW s)),.l (.v (.int .i64 0))]):=by unfold mC;rw[hb]
  simp only[go_sem,hl,nu,nt,hS,aW,hSt,hok,hch,hp,Fo,hS2];refine sD mixed [⟨_,Yq⟩,⟨_,UT⟩] [] ?_;simp only[go_sem,hSt,hO2,hpl,aW,hsm];exact hO
section
open Go.ChangeShapes Go.WideShapes Go.ChangeAt Go.RowKit Go.Joins
theorem lawStmtRead.lifted (os:Os)(started:os.Started)(H:Type)(enc:TypeId×Value→H) :
  ReturnsInHanded {} Tryz.checked os 5 .any (fun w args=>(Rows.stmtReadSpec.pre enc prog f5 [] false w args∧laidMetH prog t7 w)∧sizedMet enc prog f5 (OpenSpec.ofChange Rows.stmtReadSpec) false w args)
   (Rows.stmtReadSpec.post enc prog f5 false true false false):=by
 refine returnsInHanded_of_change_and (C:=Tryz.checked) (X:=fun w _=>laidMetH prog t7 w) (fun _ _ _ hh h=>h.of_heap hh) VB started (by kernel_rfl) func5
  (ChangeSpec.witness_shaped (enc:=enc) (C:=Tryz.checked) (os:=os) (X:=fun w _=>laidMetH prog t7 w) false (World.laidAll prog os t7) #[.string ⟨#[]⟩] 8 (World.laidAll_os _ _ _)
   (World.shaped_of_ZipB (by kernel_rfl) (by kernel_rfl)) (by kernel_rfl) (by kernel_rfl) (by kernel_rfl)
   (by rw[MakeChecks.laidMetH_plain _ _ _ (by kernel_rfl)];exact laidMet_laidAll _ (by kernel_rfl) (by kernel_rfl))) ?_
 intro W base args ds gs before hval0 hW _ hsz0 hL _;have hval:∀(j:Nat) t v,f5.params[j]? = some t→args[j]? = some v→Value.okWide prog W .any base t v:=hval0;have hW':=hW;obtain⟨p,q,hA0,hV,rfl,hfz,hnd⟩:=hW;have hA:DataW.TrodAll enc prog W 0 (fun _=>true) true f5.params.toList args.toList ds p:=hA0;have hsz:(DataW.weightsEach prog (f5.params.toList++Rows.stmtReadSpec.plain.varTypes prog) (ds++gs)).all (·≤reachBytes)=true:=hsz0;rw[params5]at hA hval hsz;obtain⟨v0,vs0,d0,ds0,p0,q0,hargs,rfl,rfl,h0,r0⟩:=trodAll_cons hA;obtain⟨rfl,rfl,rfl⟩:=trodAll_nil r0;obtain rfl:args = #[v0]:=by cases args;simp_all
 obtain⟨rfl,rfl⟩:=trodVars_none hV;have k0:=h0;have lt0:∀x∈p0,x.block<W.heap.size:=by obtain⟨m,hm⟩:=k0;exact DataW.trod_lt m _ _ _ hm
 obtain⟨s0,rfl,rfl,_,ws0⟩:=Go.ChangeMaps.open_string Tryz.underlying9 (hval 0 9 v0 rfl rfl) h0;clear hA0 hval0 hsz0;have hG:=EB hL
 have hC:Calls prog 5 #[.string s0] W fun e w'=>e=.returned (.bool true)∧Below W.heap.size W w' :=
  Ll (xs:=[bu.enc s0]) (vals:=[.string s0]) func5 rfl hG ⟨rfl,trivial⟩ (by rw[ntmps5];show 1≤_;decide) (QE s0)
 refine hC.mono fun e W' ⟨he,bel⟩=>?_;subst he;exact⟨_,rfl,_,_,_,[],_,[],hW',trodAll_mk1 (shut_bool Tryz.underlying4 _),(trodAll_cons_mk (Below.trod SN (by kernel_rfl) (of_decide_eq_true (by kernel_rfl)) k0 bel lt0) trodAll_mk0),rfl,bel.frame _,fun h=>by cases h⟩
theorem MP:Rows.StmtReadSaid :=
 OpenClaim.holds_of_wide 5 f5 rfl rfl rfl rfl rfl rfl rfl ⟨rfl,rfl,rfl,rfl,rfl⟩ rfl rfl rfl rfl rfl (by kernel_rfl) func5 (by kernel_rfl)
  (of_decide_eq_true (by kernel_rfl)) (by unfold Func.isWrapper;first | (rw[if_pos (by decide +kernel)];kernel_rfl) | (rw[if_neg (by decide +kernel)];exact⟨rfl,rfl⟩))
  (fun os started H enc _=>lawStmtRead.lifted os started H enc)
theorem sread_holds:Rows.StmtReadCardSaid :=
 Claim7.holds_tied_plain_at .later [] _ _ _ _
  MP (fun _ h=>by cases h) (by kernel_rfl) (fun _ h=>by cases h) stmtRead_row_tie rfl ⟨rfl,rfl⟩ (by kernel_rfl) rfl
  (fun f fn hf hfn=>by
   obtain rfl:f=5:=Option.some.inj ((show Tryz.prog.funcNamed "cooper/cooperlaw11.StmtRead" = some 5 by kernel_rfl).symm.trans hf) |>.symm
   obtain rfl:fn=f5:=(Option.some.inj (func5.symm.trans hfn)).symm
   exact⟨by kernel_rfl,fun j t ht=>by
    rw[params5]at ht;have hm:t∈[9]:=by simpa using Array.mem_of_getElem? ht
    have hall:([9].all fun u=>!Tryz.prog.wantsStandIn u)=true:=by kernel_rfl
    exact(show Tryz.prog.wantsStandIn t=false by simpa using List.all_eq_true.1 hall t hm)⟩)
  (by kernel_rfl)
#print axioms sread_holds
end
end Go.Proofs.YtnhbidpdadkcjaaGreatDoor
