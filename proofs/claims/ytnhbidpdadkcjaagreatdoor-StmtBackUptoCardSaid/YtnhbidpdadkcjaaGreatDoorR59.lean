import Derived.Test.YtnhbidpdadkcjaaGreatDoorR53
import Derived.Test.YtnhbidpdadkcjaaGreatDoorR52
import Derived.Deep.Slices
import Derived.Deep.Fields
import Derived.Lib.SmallJoins
open Go.RowKit
set_option linter.unusedVariables false
set_option linter.unusedSimpArgs false
set_option maxRecDepth 100000
set_option maxHeartbeats 8000000
open List (length_take length_map getElem?_eq_getElem map_append map_cons append_eq)
open Nat (zero_le)
namespace Go.Proofs.YtnhbidpdadkcjaaGreatDoor
open Go.Proofs.Tryz
theorem vV (o:OpV)(m:Int):dA o m=(decide (0≤o.md)&&(decide (o.md≤m)&&lJ o 0)):=by
 unfold dA lJ;rw[Bool.eq_iff_iff];simp only[Bool.and_eq_true,decide_eq_true_eq];omega
theorem Hn (o:OpV):dY o=kB o:=by
 unfold dY kB;by_cases h1:eD o.m=false
 ·rw[if_pos (.inl h1),if_pos (.inl h1)]
 by_cases h2:o.m.sp=true
 ·rw[if_pos (.inr (.inl h2)),if_pos (.inr (.inl h2))]
 by_cases h3 : -1≤o.amt∧o.amt≤63
 ·have c1:¬(eD o.m=false∨o.m.sp=true∨o.amt < -1∨63<o.amt):=by
   simp only[not_or];exact⟨h1,h2,by omega,by omega⟩
  rw[if_neg c1];by_cases h4:o.md=0
  ·have d1:¬(o.md=1∨o.md=12):=by omega
   have d2:¬(o.md=7∨o.md=11):=by omega
   rw[if_neg d1,if_neg d2];split<;>rfl
  ·have:lJ o (-1)=true:=by unfold lJ;rw[decide_eq_true_eq];exact⟨h3.1,h3.2,.inl h4⟩
   have c2:¬(eD o.m=false∨o.m.sp=true∨lJ o (-1)=false):=by
    simp only[not_or];exact⟨h1,h2,by rw[this];simp⟩
   rw[if_neg c2]
 ·rw[if_pos (show eD o.m=false∨o.m.sp=true∨o.amt < -1∨63<o.amt by omega)];have:lJ o (-1)=false:=by unfold lJ;rw[decide_eq_false_iff_not];omega
  rw[if_pos (show eD o.m=false∨o.m.sp=true∨lJ o (-1)=false from .inr (.inr this))]
theorem zd {o:OpV}(h:¬(o.mode=1∨o.mode=2)∨o.lo=false):ff o=lC o:=by
 unfold ff lC;cases h1:eD o.r
 ·rw[if_pos (.inl rfl)];rfl
 cases h2:o.r.x
 ·rw[if_pos (.inr (.inl rfl))];rfl
 cases h3:((o.r.n==31)==o.r.sp)
 ·rw[if_pos (.inr (.inr (.inl (by rw[bne,h3];rfl))))];rfl
 by_cases h4:o.mode<0
 ·rw[if_pos (.inr (.inr (.inr (.inl h4)))),decide_eq_false (show ¬0≤o.mode by omega)];rfl
 by_cases h5:3<o.mode
 ·rw[if_pos (.inr (.inr (.inr (.inr h5)))),decide_eq_false (show ¬o.mode≤3 by omega)];simp
 have h3':((o.r.n==31) !=o.r.sp)=false:=by rw[bne,h3];rfl
 rw[if_neg (by simp[h3',h4,h5]),decide_eq_true (show 0≤o.mode by omega),decide_eq_true (show o.mode≤3 by omega)];by_cases h6:o.mode=3
 ·rw[if_pos h6,decide_eq_false (by simp[h6]),Hn];rfl
 ·rw[if_neg h6,decide_eq_true h6];rcases h with h | h
  ·have:o.mode=0:=by omega
   rw[this];cases o.lo<;>rfl
  ·rw[h];rfl
theorem EL (o:OpV):iI o=(ib o&&decide (cE o=o)):=by
 unfold iI ib;by_cases h1:o.kind=1
 ·have e:cL o=cE o:=by unfold cL cE;rw[if_pos h1,if_pos h1]
  rw[e,if_pos h1,if_pos h1,vV];by_cases hb:cE o=o
  ·rw[if_neg (by simp[hb]),decide_eq_true hb,Bool.and_true]
  ·rw[if_pos hb,decide_eq_false hb,Bool.and_false]
 rw[if_neg h1,if_neg h1];by_cases h2:o.kind=2
 ·rw[if_pos h2,if_pos h2,vV];cases hl:o.lo
  ·have e:cL o=cE o:=by unfold cL cE;rw[if_neg h1,if_pos h2,if_neg (by rw[hl];simp),if_neg h1,if_pos h2]
   rw[e];by_cases hb:cE o=o
   ·rw[if_neg (by simp[hb]),decide_eq_true hb,Bool.and_true,Bool.eq_iff_iff];simp only[Bool.and_eq_true,Bool.or_eq_true,decide_eq_true_eq,Bool.not_false,and_true];unfold lJ;simp only[decide_eq_true_eq];omega
   ·rw[if_pos hb,decide_eq_false hb,Bool.and_false]
  ·have e1:cL o=⟨o.kind,r0,r0,0,0,0,o.add,o.plus,o.minus,o.lo,0⟩:=by unfold cL;rw[if_neg h1,if_pos h2,if_pos hl]
   have e2:cE o=⟨o.kind,r0,r0,o.md,o.amt,0,o.add,o.plus,o.minus,o.lo,0⟩:=by unfold cE;rw[if_neg h1,if_pos h2]
   rw[e1,e2];by_cases hb:(⟨o.kind,r0,r0,0,0,0,o.add,o.plus,o.minus,o.lo,0⟩:OpV)=o
   ·have g1:o.md=0:=(congrArg OpV.md hb).symm;have g2:o.amt=0:=(congrArg OpV.amt hb).symm;have hb2:(⟨o.kind,r0,r0,o.md,o.amt,0,o.add,o.plus,o.minus,o.lo,0⟩:OpV)=o:=by rw[g1,g2];exact hb
    rw[if_neg (by simp[hb]),decide_eq_true hb2];unfold lJ;rw[g1,g2];rfl
   ·rw[if_pos hb];by_cases hb2:(⟨o.kind,r0,r0,o.md,o.amt,0,o.add,o.plus,o.minus,o.lo,0⟩:OpV)=o
    ·have:((decide (o.md=0)||(decide (o.md=1)&&!true))&&lJ o 0)=false:=by
      rw[Bool.not_true,Bool.and_false,Bool.or_false];by_cases g1:o.md=0
      ·have g2:¬o.amt=0:=by
        intro g2;rw[g1,g2]at hb2;exact hb hb2
       rw[decide_eq_true g1];unfold lJ;rw[decide_eq_false (by omega)];rfl
      ·rw[decide_eq_false g1];rfl
     rw[this];rfl
    ·rw[decide_eq_false hb2,Bool.and_false]
 rw[if_neg h2,if_neg h2];by_cases h3:o.kind=3
 ·have e:cL o=cE o:=by unfold cL cE;rw[if_neg h1,if_neg h2,if_pos h3,if_neg h1,if_neg h2,if_pos h3]
  rw[e,if_pos h3,if_pos h3];by_cases hb:cE o=o
  ·rw[if_neg (by simp[hb]),decide_eq_true hb];rfl
  ·rw[if_pos hb,decide_eq_false hb];rfl
 rw[if_neg h3,if_neg h3];by_cases h5:o.kind=5
 ·rw[if_neg (show ¬(o.kind=4∨o.kind=6∨o.kind=7∨o.kind=8∨o.kind=9) by omega),if_pos h5,if_pos h5];by_cases m3:o.mode=3
  ·have e:cL o=cE o:=by unfold cL cE;rw[if_neg h1,if_neg h2,if_neg h3,if_pos h5,nG,if_pos m3,if_neg h1,if_neg h2,if_neg h3,if_pos h5,if_pos m3]
   rw[e,zd (.inl (by omega))];by_cases hb:cE o=o
   ·rw[if_neg (by simp[hb]),decide_eq_true hb,Bool.and_true]
   ·rw[if_pos hb,decide_eq_false hb,Bool.and_false]
  ·have e2:cE o=⟨o.kind,o.r,r0,0,0,0,o.add,o.plus,o.minus,o.lo,o.mode⟩:=by unfold cE;rw[if_neg h1,if_neg h2,if_neg h3,if_pos h5,if_neg m3]
   by_cases m0:o.mode=0
   ·have e:cL o=cE o:=by unfold cL;rw[e2,if_neg h1,if_neg h2,if_neg h3,if_pos h5,if_pos m0]
    rw[e,zd (.inl (by omega))];by_cases hb:cE o=o
    ·rw[if_neg (by simp[hb]),decide_eq_true hb,Bool.and_true]
    ·rw[if_pos hb,decide_eq_false hb,Bool.and_false]
   ·have e1:cL o=⟨o.kind,o.r,r0,0,0,0,o.add,o.plus,o.minus,false,o.mode⟩:=by unfold cL;rw[if_neg h1,if_neg h2,if_neg h3,if_pos h5,if_neg m0,if_neg m3]
    rw[e1,e2];cases hl:o.lo
    ·rw[zd (.inr hl)];by_cases hb:(⟨o.kind,o.r,r0,0,0,0,o.add,o.plus,o.minus,false,o.mode⟩:OpV)=o
     ·rw[if_neg (by simp[hb]),decide_eq_true hb,Bool.and_true]
     ·rw[if_pos hb,decide_eq_false hb,Bool.and_false]
    ·rw[if_pos (by intro hb;have:=congrArg OpV.lo hb;rw[hl]at this;cases this)]
     have:lC o=false:=by
      have z:(!o.lo||(o.mode==0))=false:=by rw[hl,beq_eq_false_iff_ne.2 m0];rfl
      unfold lC;rw[if_neg m3,z];split<;>rfl
     rw[this];rfl
 rw[if_neg h5,if_neg h5];by_cases hk:o.kind=4∨o.kind=6∨o.kind=7∨o.kind=8∨o.kind=9
 ·have e:cL o=cE o:=by unfold cL cE;rw[if_neg h1,if_neg h2,if_neg h3,if_neg h5,if_pos hk,if_neg h1,if_neg h2,if_neg h3,if_neg h5]
  have em:j7 o.kind=ou o.kind:=by
   rcases hk with h | h | h | h | h<;>rw[h]<;>rfl
  rw[e,if_pos hk,em];by_cases hb:cE o=o
  ·rw[if_neg (by simp[hb]),decide_eq_true hb,Bool.and_true]
  ·rw[if_pos hb,decide_eq_false hb,Bool.and_false]
 ·rw[if_neg hk]
  have em:ou o.kind = -1:=by
   unfold ou;rw[nG,nG,nG,nG]
  have:(decide (0≤o.n)&&decide (o.n≤ou o.kind))=false:=by
   rw[em,Bool.and_eq_false_iff,decide_eq_false_iff_not,decide_eq_false_iff_not];omega
  rw[this];split<;>rfl
theorem NT (o:OpV):tG o=fB o:=by
 unfold tG fB;rw[EL];by_cases h:ib o=true∧cE o=o
 ·have e1:(ib o&&decide (cE o=o))=true:=by rw[h.1,decide_eq_true h.2];rfl
  have c:¬(ib o=false∨¬cE o=o):=by rw[h.1];simp[h.2]
  rw[if_neg c,e1,if_neg (show ¬(true=false) by decide)]
 ·have h1:ib o=false∨¬cE o=o:=by
   cases ho:ib o
   ·exact .inl rfl
   ·exact .inr fun hb=>h ⟨ho,hb⟩
  rw[if_pos h1,if_pos];rcases h1 with h1 | h1
  ·rw[h1];rfl
  ·rw[decide_eq_false h1,Bool.and_false]
theorem Bq:∀k:Fin 6,(k.val=0→ag 3 6 (dS 8 (k.val:Int))=((ag 3 6 ⟨#[115,112,115,101,108]⟩).1,0))∧(k.val≠0→¬(ag 3 6 (dS 8 (k.val:Int))).2=0):=by decide +kernel
theorem EJ {o:OpV}(h:o.kind=9):aS o=dS 8 o.n:=by
 unfold aS;rw[nG,nG,nG,nG,nG,nG,nG,if_pos h]
theorem Ld {o:OpV}(h:o.kind=9)(hc:fB o=0):0≤o.n∧o.n≤5:=by
 obtain⟨hf,-,-⟩:=cW hc;obtain⟨-,hk⟩:=cJ hf;rcases hk with h1 | h1 | h1 | h1 | h1
 ·omega
 ·omega
 ·omega
 ·have h2:=h1.2.2;rw[h]at h2;have:j7 9=5:=rfl;omega
 ·omega
theorem Lb {o:OpV}(h:o.kind=9)(hc:fB o=0)(h0:o.n=0):ag 3 6 (aS o)=((ag 3 6 ⟨#[115,112,115,101,108]⟩).1,0):=by
 rw[EJ h,h0];exact(Bq 0).1 rfl
theorem Lc {o:OpV}(h:o.kind=9)(hc:fB o=0)(h0:¬o.n=0):¬(ag 3 6 (aS o)).2=0:=by
 have hr:=Ld h hc;rw[EJ h];have:=(Bq ⟨o.n.toNat,by omega⟩).2 (by simp only;omega)
 rwa [show(((⟨o.n.toNat,by omega⟩:Fin 6).val:Nat):Int)=o.n by simp only;omega]at this
theorem ME (o:OpV)(hO:okO o):Sw f52 0 ⟨0,aB 0 [tOp.enc o],[]⟩ (oQ f52 (.ret (opV (aF o)))):=by
 refine aq [⟨_,Yp⟩,⟨_,Qj⟩,⟨_,VK⟩,⟨_,zt⟩] rfl ?_;have hcs:=NT o;by_cases hc:fB o=0
 case neg=>simp only[go_sem,ah,opE,opD,au,ar,opV,hO,hcs,hc,aF]
 by_cases k3:o.kind=3
 ·cases hA:oZ o
  ·have hA':(decide (o.val.plus=emp)&&decide (o.val.minus=emp))=false:=hA;simp only[go_sem,ah,opE,opD,au,ar,fP,ce,opV,hO,hcs,eq_true hc,eq_true k3,hA,hA',aF]
  ·have hA':(decide (o.val.plus=emp)&&decide (o.val.minus=emp))=true:=hA;simp only[go_sem,ah,opE,opD,au,ar,fP,ce,opV,hO,hcs,eq_true hc,eq_true k3,hA,hA',aF,r0,ac]
 by_cases k7:o.kind=7
 ·have k8:¬o.kind=8:=by omega
  by_cases hn:(an 4 o.n).2=0
  ·simp only[go_sem,ah,opE,opD,au,ar,opV,hO,hcs,eq_true hc,k3,eq_true k7,k8,cx,eq_true hn,aF]
  ·simp only[go_sem,ah,opE,opD,au,ar,opV,hO,hcs,eq_true hc,k3,eq_true k7,k8,cx,hn,aF,qD,r0,ac]
 by_cases k8:o.kind=8
 ·by_cases hn:(an 7 o.n).2=0
  ·simp only[go_sem,ah,opE,opD,au,ar,opV,hO,hcs,eq_true hc,k3,k7,eq_true k8,cx,eq_true hn,aF]
  ·simp only[go_sem,ah,opE,opD,au,ar,opV,hO,hcs,eq_true hc,k3,k7,eq_true k8,cx,hn,aF,qD,r0,ac]
 by_cases k9:o.kind=9
 ·have hs:(⟨#[115,112,115,101,108]⟩:ByteArray).size≤1099511627776:=by decide
  by_cases h0:o.n=0
  ·have e:=Lb k9 hc h0;have e2:(ag 3 6 (aS o)).2=0:=by rw[e]
   have e1:(ag 3 6 (aS o)).1=(ag 3 6 ⟨#[115,112,115,101,108]⟩).1:=by rw[e]
   simp only[go_sem,ah,opE,opD,au,ar,opV,hO,hcs,eq_true hc,k3,k7,k8,eq_true k9,eq_true h0,bA,hs,aF,eq_true e2,e1,r0,ac]
  ·have e:=Lc k9 hc h0;simp only[go_sem,ah,opE,opD,au,ar,opV,hO,hcs,eq_true hc,k3,k7,k8,eq_true k9,h0,aF,e]
 ·simp only[go_sem,ah,opE,opD,au,ar,opV,hO,hcs,eq_true hc,k3,k7,k8,k9,aF]
abbrev Qn:ap prog 52 :=
 mz1 func52 (tOp) (okO) ((fun o=>.ret (opV (aF o)))) (asP fun o h=>ME o h)
def zrB:Blk:=⟨true,41,8,[zs8]⟩
def Ym (s:StV)(i:Nat):St:=⟨3,[(1,pv 0 0 0),(2,pv 1 0 0),(3,.s (.l (.sl 2 0 i))),(4,iv i)],aL 0 [dt s,zrB,dI ((s.opers.map aF).take i)]⟩
theorem Me (l:List OpV)(g:Nat→Nat):(dI l).ren g=dI l:=by
 unfold dI Blk.ren;simp only[Blk.mk.injEq,true_and];exact gS
theorem QX {a b c d e f:Option Blk}(h1:a=b)(h2:c=d)(h3:e=f):[a,c,e]=[b,d,f]:=by rw[h1,h2,h3]
theorem TN (s:StV)(h6:s.opers.length≤1000000)(hO:∀o∈s.opers,okO o):Sw f21 0 ⟨0,aB 0 [mS.enc s],[]⟩ (oQ f21 (.ret (.s (.agg (bu (aR (nh s))))))):=by
 refine aq [] rfl ?_;have x3:maxLen=9223372036854775807:=rfl;simp only[go_sem,bD,aR];refine ba (ι:=Nat) (fun i=>i≤s.opers.length) (Ym s) (fun i=>s.opers.length-i) 0 (zero_le _) ?_ ?_
 ·exact(Wk.nil 3 79 15 rfl).trans (Wk.renL [0,16,64] (by simp) (Nat.le_add_left _ _) (by simp) rfl rfl)
 intro i hi;unfold Ym;refine aw [⟨_,Qn⟩] ?_;have hlen:((s.opers.map aF).take i).length=i:=by rw[length_take,length_map];omega
 by_cases hlt:i<s.opers.length
 ·have hltI:(i:Int)<s.opers.length:=by omega
  obtain⟨o,ho⟩:∃o,s.opers[i]? = some o:=⟨_,getElem?_eq_getElem hlt⟩;have hok:=hO o (List.mem_of_getElem? ho);have ei:=wI i;have hT:(s.opers.map aF).take (i+1)=(s.opers.map aF).take i++[aF o]:=by rw[List.take_add_one,List.getElem?_map,ho];rfl
  obtain⟨T,hTT⟩:∃T,(s.opers.map aF).take i=T:=⟨_,rfl⟩;obtain⟨p,hp⟩:∃p,aF o=p:=⟨_,rfl⟩;rw[hTT]at hT hlen;rw[hp]at hT;have hK:List.take i ((T.map opR.enc).map bu)=(T.map opR.enc).map bu:=List.take_of_length_le (by simp[hlen]);have hK2:(T.map opR.enc).map bu++[bu (opE p)]=((T++[p]).map opR.enc).map bu:=by rw[map_append,map_append];rfl
  simp only[opE,bu,ofD,map_cons,List.map_nil]at hK2;have m1:i+1≤maxLen:=by omega
  have m2:(i+1)*120≤140737488355328:=by omega
  simp only[go_sem,dt,aR,hltI,hlt,ho,ah,opE,opD,au,ar,hok,hp,opV,hTT,dI,hK,hlen,m1,ei];have hB:(⟨true,79,15,(T.map opR.enc).map bu++[bu (opE p)]⟩:Blk)=dI (T++[p]):=by unfold dI;rw[map_append,map_append];rfl
  exact⟨m2,i+1,hlt,by omega,Wk.renL [0,1,243] (by simp) (Nat.le_add_left 3 _) (by simp) rfl (by rw[hT];exact QX rfl rfl ((congrArg some hB).trans (congrArg some (Me _ _).symm)))⟩
 obtain rfl:i=s.opers.length:=by omega
 have hI:¬(s.opers.length:Int)<s.opers.length:=by omega
 have hfull:(s.opers.map aF).take s.opers.length=s.opers.map aF:=List.take_of_length_le (by simp)
 have hm:∀h:ai,dx (dx (LV.toD h 3)) (((((s.opers.map aF).map opR.enc).map bu)).take s.opers.length)=some (True,[],(s.opers.map aF).map opR.enc):=fun h=>by
  rw[List.take_of_length_le (by simp)];exact gk
 rw[hfull];simp only[go_sem,dt,aR,zrB,zs8,dI,hI,hm,nh]
abbrev Yz:ap prog 21 :=
 mz1 func21 (mS) ((fun s=>s.opers.length≤1000000∧∀o∈s.opers,okO o)) ((fun s=>.ret (.s (.agg (bu (aR (nh s))))))) (asP fun s h=>TN s h.1 h.2)
section
open Go.ChangeShapes Go.WideShapes Go.ChangeAt Go.RowKit Go.Joins
section
variable {H:Type}{enc:TypeId×Value→H}{w:World}{held:Bool}
theorem NR (d:DataW H):1≤Rows.uptoBulk d:=by
 unfold Rows.uptoBulk;split<;>omega
theorem tD {d:DataW H}:∀{l:List (DataW H)},d∈l→Rows.uptoBulk d≤Rows.uptoBulkAll l
 |x::r,h=>by
  simp only[Rows.uptoBulkAll];rcases List.mem_cons.1 h with rfl | h
  ·omega
  ·have:=tD h;omega
theorem D8:∀l:List (DataW H),l.length≤Rows.uptoBulkAll l
 |[]=>zero_le _
 |x::r=>by
  have h1:=NR x;have h2:=D8 r;simp only[Rows.uptoBulkAll,List.length_cons];omega
theorem iW {d:DataW H}{l:List (DataW H)}(h:d∈l):Rows.uptoBulk d≤Rows.uptoBulk (.agg l):=by
 have:=tD h;simp only[Rows.uptoBulk];omega
theorem YF {a:Addr}{v:Value}(h:w.cell? a=some v):a=⟨a.block,a.off,none⟩:=by
 unfold World.cell? at h;split at h
 ·split at h
  ·cases h
  ·rename_i hs;obtain⟨b,o,s⟩:=a;cases s with
   |none=>rfl
   |some s=>exact absurd rfl hs
 ·cases h
theorem oy {α:Type}{t e:TypeId}{sz K:Nat}{C:α→List Value}{ok:α→Prop}(x0:α)(hu:Tryz.prog.underlying t=some (.slice e))(hc:Tryz.prog.cellsOf e=sz)(hz:0<sz)(hC:∀x,(C x).length=sz)
  (hE:∀{n:Nat} {cs:List Value} {y:DataW H×List MemPlace},DataW.trod enc prog w 0 (fun _=>true) held n e cs=some y→Rows.uptoBulk y.1≤K→∃x,cs=C x∧ok x)
  {n:Nat} {v:Value} {y:DataW H×List MemPlace} (h:DataW.trod enc prog w 0 (fun _=>true) held n t [v]=some y) (hK:Rows.uptoBulk y.1≤K) :
  ∃(A:Option Addr) (cap:Nat) (l:List α),v=.slice A l.length cap∧l.length≤cap∧l.length≤K∧(∀x∈l,ok x) ∧
   (l≠[]→∃b off,A=some ⟨b,off,none⟩∧∀(i j:Nat) (x:α) (u:Value),l[i]? = some x→(C x)[j]? = some u→w.cell? ⟨b,off+i*sz+j,none⟩=some u):=by
 rcases Go.Deep.open_slice hu h with ⟨e,hd⟩ | ⟨a,l0,cap,mm,n,D,Pl,e,-,hl,hcm,hmm,hx,hi⟩
 ·injection e with e;subst e;exact⟨none,0,[],rfl,Nat.le_refl _,zero_le _,(fun _ h=>by cases h),fun h=>(h rfl).elim⟩
 ·injection e with e;subst e;rw[if_pos rfl]at hmm;subst hmm;rw[hc]at hi;rw[(Prod.ext_iff.1 hx).1]at hK;simp only[Rows.uptoBulk]at hK;have hlK:=D8 ((List.range l0).map D);rw[length_map,List.length_range]at hlK
  have key:∀i,∃x:α,i<l0→(ok x∧∀j,j<sz→w.cell? (a.add (i*sz+j))=(C x)[j]?):=by
   intro i;by_cases him:i<l0
   ·obtain⟨cs,hcl,ht⟩:=hi i (by omega);have hb:Rows.uptoBulk (D i)≤Rows.uptoBulkAll ((List.range l0).map D):=tD (List.mem_map.2 ⟨i,List.mem_range.2 him,rfl⟩);obtain⟨x,rfl,hA⟩:=hE ht (by show Rows.uptoBulk (D i)≤K;omega);obtain⟨-,-,hcs⟩:=World.cells?_some hcl;exact⟨x,fun _=>⟨hA,fun j hj=>by rw[←hcs j hj,Go.Deep.add_add]⟩⟩
   ·exact⟨x0,fun h=>absurd h him⟩
  obtain⟨T,hT⟩:=Classical.axiomOfChoice key;have hlen:((List.range l0).map T).length=l0:=by simp
  refine⟨some a,mm,(List.range l0).map T,by rw[hlen],by rw[hlen];exact hl,by rw[hlen];omega,fun o ho=>?_,fun hne=>?_⟩
  ·obtain⟨i,hi',rfl⟩:=List.mem_map.1 ho;exact(hT i (List.mem_range.1 hi')).1
  have hl0:0<l0:=by
   rcases Nat.eq_zero_or_pos l0 with h | h
   ·subst h;exact(hne rfl).elim
   ·exact h
  have h0:=(hT 0 (by omega)).2 0 hz;have hg:(C (T 0))[0]? = some ((C (T 0))[0]'(by rw[hC];exact hz)):=getElem?_eq_getElem _;have ha:=YF (h0.trans hg);rw[show a.add (0*sz+0)=a by rw[Nat.zero_mul];rfl]at ha;refine⟨a.block,a.off,by rw[←ha],fun i j x u hx hu=>?_⟩
  have hil:i<l0:=by
   have:=(List.getElem?_eq_some_iff.1 hx).1
   rwa [hlen]at this
  have hti:x=T i:=by
   rw[List.getElem?_map,List.getElem?_range hil]at hx;injection hx with hx;exact hx.symm
  subst hti
  have hj:j<sz:=by
   have:=(List.getElem?_eq_some_iff.1 hu).1
   rwa [hC]at this
  have c:=(hT i (by omega)).2 j hj;rw[hu]at c;rw[←c];congr 1;rw[ha];unfold Addr.add;split
  ·rename_i h;simp only[Nat.add_assoc];congr 1;omega
  ·simp only[Nat.add_assoc]
theorem qV {α:Type}{R:mT α}{C:α→List Value}{sz:Nat}(hR:∀x,R.enc x=(C x).map .v)(hC:∀x,(C x).length=sz∧∀u∈C x,u.oneCell'=true){A:Option Addr}{cap:Nat}{l:List α}(hc:l.length≤cap)
  (hT:l≠[]→∃b off,A=some ⟨b,off,none⟩∧∀(i j:Nat) (x:α) (u:Value),l[i]? = some x→(C x)[j]? = some u→w.cell? ⟨b,off+i*sz+j,none⟩=some u) :
  DRep (fun b o=>w.cell? ⟨b,o,none⟩) (.sd sz (l.map R.enc)) (.slice A l.length cap):=by
 have e:l.map R.enc=(l.map C).map fun e=>e.map .v:=by
  rw[List.map_map];exact List.map_congr_left fun t _=>hR t
 simp only[DRep];refine⟨A,cap,by rw[length_map],by rw[length_map];exact hc,fun hne=>?_⟩;obtain⟨b,off,rfl,hcl⟩:=hT (fun h=>by subst h;exact hne rfl);refine⟨b,off,rfl,?_⟩;rw[e];refine Ew (fun x hx=>?_) fun i j x u hx hu=>?_
 ·obtain⟨t,_,rfl⟩:=List.mem_map.1 hx;exact(hC t).1
 ·rw[List.getElem?_map,Option.map_eq_some_iff]at hx;obtain⟨t,ht,rfl⟩:=hx;exact⟨hcl i j t u ht hu,(hC t).2 u (List.mem_of_getElem? hu)⟩
def wT (s:ByteArray):List Value:=[.string s]
def JA (z:Int):List Value:=[.int .u8 z]
def Q1 (v:Val):List Value:=[.int .i64 v.add,.string v.plus,.string v.minus]
theorem xl:Tryz.prog.cellsOf 9=1:=by kernel_rfl
theorem CJ:Tryz.prog.cellsOf 3=1:=by kernel_rfl
theorem JC:Tryz.prog.cellsOf 2=1:=by kernel_rfl
theorem JB:Tryz.prog.cellsOf 4=1:=by kernel_rfl
theorem Sr:Tryz.prog.cellsOf 5=1:=by kernel_rfl
theorem CK:Tryz.prog.cellsOf 75=3:=by kernel_rfl
theorem JE:Tryz.prog.cellsOf 77=3:=by kernel_rfl
theorem JD:Tryz.prog.cellsOf 79=15:=by kernel_rfl
theorem Sn:Tryz.prog.cellsOf 37=2:=by kernel_rfl
theorem Sp:Tryz.prog.cellsOf 41=8:=by kernel_rfl
theorem Sq:Tryz.prog.cellsOf 34=1:=by kernel_rfl
theorem So:Tryz.prog.cellsOf 35=1:=by kernel_rfl
theorem Ss:Tryz.prog.cellsOf 38=1:=by kernel_rfl
theorem Sm:Tryz.prog.cellsOf 39=1:=by kernel_rfl
variable {K n:Nat}
theorem mz {cs:List Value}{y:DataW H×List MemPlace}(h:DataW.trod enc prog w 0 (fun _=>true) held n 9 cs=some y)(hK:Rows.uptoBulk y.1≤K):∃s,cs=wT s∧s.size≤K:=by
 obtain⟨s,rfl,rfl,-⟩:=DataW.trod_string Tryz.underlying9 h;have e:s.data.toList.length=s.size:=by simp
 simp only[Rows.uptoBulk]at hK;exact⟨s,rfl,by omega⟩
theorem HY {cs:List Value}{y:DataW H×List MemPlace}(h:DataW.trod enc prog w 0 (fun _=>true) held n 5 cs=some y)(hK:Rows.uptoBulk y.1≤K):∃z,cs=JA z∧0≤z∧z≤255:=by
 obtain⟨z,rfl,-,hwf⟩:=DataW.trod_int Tryz.underlying5 h;have:(Lit.int IntKind.u8 z).wf=true:=hwf;simp[Lit.wf]at this;have e1:IntKind.u8.min=0:=rfl;have e2:IntKind.u8.max=255:=rfl;exact⟨z,rfl,by omega,by omega⟩
theorem Dm {α:Type}{l:List α}(h:l.length=3):∃a b c,l=[a,b,c]:=by
 match l,h with
 |[a,b,c],_=>exact⟨a,b,c,rfl⟩
theorem V3 {α:Type}{l:List α}(h:l.length=2):∃a b,l=[a,b]:=by
 match l,h with
 |[a,b],_=>exact⟨a,b,rfl⟩
theorem V4 {α:Type}{l:List α}(h:l.length=7):∃a b c d e f g,l=[a,b,c,d,e,f,g]:=by
 match l,h with
 |[a,b,c,d,e,f,g],_=>exact⟨a,b,c,d,e,f,g,rfl⟩
theorem V5 {α:Type}{l:List α}(h:l.length=8):∃a b c d e f g i,l=[a,b,c,d,e,f,g,i]:=by
 match l,h with
 |[a,b,c,d,e,f,g,i],_=>exact⟨a,b,c,d,e,f,g,i,rfl⟩
theorem V6 {α:Type}{l:List α}(h:l.length=9):∃a b c d e f g i j,l=[a,b,c,d,e,f,g,i,j]:=by
 match l,h with
 |[a,b,c,d,e,f,g,i,j],_=>exact⟨a,b,c,d,e,f,g,i,j,rfl⟩
theorem To {α:Type}{l:List α}(h:l.length=15):∃a b c d e f g i j k m n o p q,l=[a,b,c,d,e,f,g,i,j,k,m,n,o,p,q]:=by
 match l,h with
 |[a,b,c,d,e,f,g,i,j,k,m,n,o,p,q],_=>exact⟨a,b,c,d,e,f,g,i,j,k,m,n,o,p,q,rfl⟩
theorem BN {cs:List Value}{y:DataW H×List MemPlace}(h:DataW.trod enc prog w 0 (fun _=>true) held n 75 cs=some y)(hK:Rows.uptoBulk y.1≤K):∃v:Val,cs=Q1 v∧(v.plus.size≤K∧v.minus.size≤K) ∧ -9223372036854775808≤v.add∧v.add≤9223372036854775807:=by
 obtain⟨xs,m,rfl,hD,hl,hx,hf⟩:=DataW.trod_struct Tryz.underlying75 h;rw[CK]at hl;obtain⟨c0,c1,c2,rfl⟩:=Dm hl;obtain⟨y0,y1,y2,rfl⟩:=Dm (l:=xs) hx;have f0:DataW.trod enc prog w 0 (fun _=>true) held m 2 (([c0,c1,c2].drop 0).take (Tryz.prog.cellsOf 2))=some y0:=hf 0 _ rfl;have f1:DataW.trod enc prog w 0 (fun _=>true) held m 9 (([c0,c1,c2].drop 1).take (Tryz.prog.cellsOf 9))=some y1:=hf 1 _ rfl;have f2:DataW.trod enc prog w 0 (fun _=>true) held m 9 (([c0,c1,c2].drop 2).take (Tryz.prog.cellsOf 9))=some y2:=hf 2 _ rfl;clear hf;rw[JC]at f0;rw[xl]at f1 f2;rw[(Prod.ext_iff.1 hD).1]at hK;have b1:Rows.uptoBulk y1.1≤K:=Nat.le_trans (iW (by simp)) hK;have b2:Rows.uptoBulk y2.1≤K:=Nat.le_trans (iW (by simp)) hK;obtain⟨q,e0,-,wq⟩:=DataW.trod_int Tryz.underlying2 (show DataW.trod enc prog w 0 (fun _=>true) held m 2 [c0]=some y0 from f0);obtain⟨s,e1,z1⟩:=mz (show DataW.trod enc prog w 0 (fun _=>true) held m 9 [c1]=some y1 from f1) b1;obtain⟨t,e2,z2⟩:=mz (show DataW.trod enc prog w 0 (fun _=>true) held m 9 [c2]=some y2 from f2) b2;injection e0 with e0;injection e1 with e1;injection e2 with e2;subst e0 e1 e2;have wq:(Lit.int IntKind.i64 q).wf=true:=wq;simp[Lit.wf]at wq;have m1:IntKind.i64.min = -9223372036854775808:=rfl;have m2:IntKind.i64.max=9223372036854775807:=rfl;exact⟨⟨q,s,t⟩,rfl,⟨z1,z2⟩,by simp only;omega,by simp only;omega⟩
theorem BM {cs:List Value}{y:DataW H×List MemPlace}(h:DataW.trod enc prog w 0 (fun _=>true) held n 77 cs=some y):∃r:gu,cs=[.int .i64 r.n,.bool r.x,.bool r.sp]:=by
 obtain⟨xs,m,rfl,hD,hl,hx,hf⟩:=DataW.trod_struct Tryz.underlying77 h;rw[JE]at hl;obtain⟨c0,c1,c2,rfl⟩:=Dm hl;obtain⟨y0,y1,y2,rfl⟩:=Dm (l:=xs) hx;have f0:DataW.trod enc prog w 0 (fun _=>true) held m 3 (([c0,c1,c2].drop 0).take (Tryz.prog.cellsOf 3))=some y0:=hf 0 _ rfl;have f1:DataW.trod enc prog w 0 (fun _=>true) held m 4 (([c0,c1,c2].drop 1).take (Tryz.prog.cellsOf 4))=some y1:=hf 1 _ rfl;have f2:DataW.trod enc prog w 0 (fun _=>true) held m 4 (([c0,c1,c2].drop 2).take (Tryz.prog.cellsOf 4))=some y2:=hf 2 _ rfl;clear hf;rw[CJ]at f0;rw[JB]at f1 f2;obtain⟨a,e0,-⟩:=DataW.trod_int Tryz.underlying3 (show DataW.trod enc prog w 0 (fun _=>true) held m 3 [c0]=some y0 from f0);obtain⟨b,e1,-⟩:=DataW.trod_bool Tryz.underlying4 (show DataW.trod enc prog w 0 (fun _=>true) held m 4 [c1]=some y1 from f1);obtain⟨c,e2,-⟩:=DataW.trod_bool Tryz.underlying4 (show DataW.trod enc prog w 0 (fun _=>true) held m 4 [c2]=some y2 from f2);injection e0 with e0;injection e1 with e1;injection e2 with e2;subst e0 e1 e2;exact⟨⟨a,b,c⟩,rfl⟩
theorem H6 {cs:List Value}{y:DataW H×List MemPlace}(hk:K≤1099511627776)(h:DataW.trod enc prog w 0 (fun _=>true) held n 79 cs=some y)(hK:Rows.uptoBulk y.1≤K):∃o:OpV,cs=opC o∧okO o:=by
 obtain⟨xs,m,rfl,hD,hl,hx,hf⟩:=DataW.trod_struct Tryz.underlying79 h;rw[JD]at hl;obtain⟨c0,c1,c2,c3,c4,c5,c6,c7,c8,c9,c10,c11,c12,c13,c14,rfl⟩:=To hl;obtain⟨y0,y1,y2,y3,y4,y5,y6,y7,y8,rfl⟩:=V6 (l:=xs) hx;have f0:DataW.trod enc prog w 0 (fun _=>true) held m 3 (([c0,c1,c2,c3,c4,c5,c6,c7,c8,c9,c10,c11,c12,c13,c14].drop 0).take (Tryz.prog.cellsOf 3))=some y0:=hf 0 _ rfl;have f1:DataW.trod enc prog w 0 (fun _=>true) held m 77 (([c0,c1,c2,c3,c4,c5,c6,c7,c8,c9,c10,c11,c12,c13,c14].drop 1).take (Tryz.prog.cellsOf 77))=some y1:=hf 1 _ rfl;have f2:DataW.trod enc prog w 0 (fun _=>true) held m 77 (([c0,c1,c2,c3,c4,c5,c6,c7,c8,c9,c10,c11,c12,c13,c14].drop 4).take (Tryz.prog.cellsOf 77))=some y2:=hf 2 _ rfl;have f3:DataW.trod enc prog w 0 (fun _=>true) held m 3 (([c0,c1,c2,c3,c4,c5,c6,c7,c8,c9,c10,c11,c12,c13,c14].drop 7).take (Tryz.prog.cellsOf 3))=some y3:=hf 3 _ rfl;have f4:DataW.trod enc prog w 0 (fun _=>true) held m 3 (([c0,c1,c2,c3,c4,c5,c6,c7,c8,c9,c10,c11,c12,c13,c14].drop 8).take (Tryz.prog.cellsOf 3))=some y4:=hf 4 _ rfl;have f5:DataW.trod enc prog w 0 (fun _=>true) held m 2 (([c0,c1,c2,c3,c4,c5,c6,c7,c8,c9,c10,c11,c12,c13,c14].drop 9).take (Tryz.prog.cellsOf 2))=some y5:=hf 5 _ rfl;have f6:DataW.trod enc prog w 0 (fun _=>true) held m 75 (([c0,c1,c2,c3,c4,c5,c6,c7,c8,c9,c10,c11,c12,c13,c14].drop 10).take (Tryz.prog.cellsOf 75))=some y6:=hf 6 _ rfl;have f7:DataW.trod enc prog w 0 (fun _=>true) held m 4 (([c0,c1,c2,c3,c4,c5,c6,c7,c8,c9,c10,c11,c12,c13,c14].drop 13).take (Tryz.prog.cellsOf 4))=some y7:=hf 7 _ rfl;have f8:DataW.trod enc prog w 0 (fun _=>true) held m 3 (([c0,c1,c2,c3,c4,c5,c6,c7,c8,c9,c10,c11,c12,c13,c14].drop 14).take (Tryz.prog.cellsOf 3))=some y8:=hf 8 _ rfl;clear hf;rw[CJ]at f0 f3 f4 f8;rw[JC]at f5;rw[JB]at f7;rw[JE]at f1 f2;rw[CK]at f6;rw[(Prod.ext_iff.1 hD).1]at hK;have b6:Rows.uptoBulk y6.1≤K:=Nat.le_trans (iW (by simp)) hK
 obtain⟨k,e0,-⟩:=DataW.trod_int Tryz.underlying3 (show DataW.trod enc prog w 0 (fun _=>true) held m 3 [c0]=some y0 from f0);obtain⟨r,e1⟩:=BM (show DataW.trod enc prog w 0 (fun _=>true) held m 77 [c1,c2,c3]=some y1 from f1);obtain⟨r2,e2⟩:=BM (show DataW.trod enc prog w 0 (fun _=>true) held m 77 [c4,c5,c6]=some y2 from f2);obtain⟨md,e3,-⟩:=DataW.trod_int Tryz.underlying3 (show DataW.trod enc prog w 0 (fun _=>true) held m 3 [c7]=some y3 from f3);obtain⟨am,e4,-⟩:=DataW.trod_int Tryz.underlying3 (show DataW.trod enc prog w 0 (fun _=>true) held m 3 [c8]=some y4 from f4);obtain⟨nn,e5,-⟩:=DataW.trod_int Tryz.underlying2 (show DataW.trod enc prog w 0 (fun _=>true) held m 2 [c9]=some y5 from f5);obtain⟨⟨ad,s,t⟩,e6,⟨z1,z2⟩,z3⟩:=BN (show DataW.trod enc prog w 0 (fun _=>true) held m 75 [c10,c11,c12]=some y6 from f6) b6;obtain⟨lo,e7,-⟩:=DataW.trod_bool Tryz.underlying4 (show DataW.trod enc prog w 0 (fun _=>true) held m 4 [c13]=some y7 from f7);obtain⟨mo,e8,-⟩:=DataW.trod_int Tryz.underlying3 (show DataW.trod enc prog w 0 (fun _=>true) held m 3 [c14]=some y8 from f8);injection e0 with e0;injection e3 with e3;injection e4 with e4;injection e5 with e5;injection e7 with e7;injection e8 with e8;simp only[Q1,List.cons.injEq,and_true]at e1 e2 e6;obtain⟨a1,a2,a3⟩:=e1;obtain⟨b1,b2,b3⟩:=e2;obtain⟨d1,d2,d3⟩:=e6;subst e0 a1 a2 a3 b1 b2 b3 e3 e4 e5 d1 d2 d3 e7 e8;simp only at z1 z2 z3;exact⟨⟨k,r,r2,md,am,nn,ad,s,t,lo,mo⟩,rfl,⟨by simp only;omega,by simp only;omega⟩,z3⟩
structure Nz (s:StV):Prop where
 labels:s.labels.length≤1048576
 labelT:∀n∈s.labels,n.size≤1048576
 name:s.name.size≤1048576
 opers:s.opers.length≤1048576
 operT:∀o∈s.opers,okO o
 names:s.names.length≤1048576
 nameT:∀n∈s.names,n.size≤1048576
 vals:s.vals.length≤1048576
 valT:∀v∈s.vals,(v.plus.size≤1048576∧v.minus.size≤1048576) ∧ -9223372036854775808≤v.add∧v.add≤9223372036854775807
 bytes:∀z∈s.bytes,0≤z∧z≤255
 byteT:s.bytes.length≤1048576
theorem Ma {v:Value}{y:DataW H}{p:List MemPlace}{r:Reach}{b0:Nat}(hv:Value.okWide prog w r b0 41 v)(h:DataW.Trod enc prog w 0 (fun _=>true) held 41 v y p)(hK:Rows.uptoBulk y≤1048576) :
  ∃s:StV,ARep ρ0 (al0 fun b o=>w.cell? ⟨b,o,none⟩) (mS.enc s) v∧Nz s:=by
 obtain⟨cs,rfl,hsz⟩:=okWide_struct Tryz.underlying41 hv;obtain⟨fuel,hf0⟩:=h;have hf1:DataW.trod enc prog w 0 (fun _=>true) held fuel 41 cs.toList=some (y,p):=hf0;clear hf0;obtain⟨xs,m,rfl,hD,hl,hx,hf⟩:=DataW.trod_struct Tryz.underlying41 hf1;rw[Sp]at hl;obtain⟨c0,c1,c2,c3,c4,c5,c6,c7,hcs⟩:=V5 hl;obtain⟨y0,y1,y2,y3,y4,y5,y6,rfl⟩:=V4 (l:=xs) hx;have hcs2:cs = #[c0,c1,c2,c3,c4,c5,c6,c7]:=by cases cs;simp only at hcs;rw[hcs]
 subst hcs2;have f0:DataW.trod enc prog w 0 (fun _=>true) held m 34 (([c0,c1,c2,c3,c4,c5,c6,c7].drop 0).take (Tryz.prog.cellsOf 34))=some y0:=hf 0 _ rfl;have f1:DataW.trod enc prog w 0 (fun _=>true) held m 3 (([c0,c1,c2,c3,c4,c5,c6,c7].drop 1).take (Tryz.prog.cellsOf 3))=some y1:=hf 1 _ rfl;have f2:DataW.trod enc prog w 0 (fun _=>true) held m 37 (([c0,c1,c2,c3,c4,c5,c6,c7].drop 2).take (Tryz.prog.cellsOf 37))=some y2:=hf 2 _ rfl;have f3:DataW.trod enc prog w 0 (fun _=>true) held m 34 (([c0,c1,c2,c3,c4,c5,c6,c7].drop 4).take (Tryz.prog.cellsOf 34))=some y3:=hf 3 _ rfl;have f4:DataW.trod enc prog w 0 (fun _=>true) held m 3 (([c0,c1,c2,c3,c4,c5,c6,c7].drop 5).take (Tryz.prog.cellsOf 3))=some y4:=hf 4 _ rfl;have f5:DataW.trod enc prog w 0 (fun _=>true) held m 38 (([c0,c1,c2,c3,c4,c5,c6,c7].drop 6).take (Tryz.prog.cellsOf 38))=some y5:=hf 5 _ rfl;have f6:DataW.trod enc prog w 0 (fun _=>true) held m 39 (([c0,c1,c2,c3,c4,c5,c6,c7].drop 7).take (Tryz.prog.cellsOf 39))=some y6:=hf 6 _ rfl;clear hf;rw[Sq]at f0 f3;rw[CJ]at f1 f4;rw[Sn]at f2;rw[Ss]at f5;rw[Sm]at f6;have hDy:=(Prod.ext_iff.1 hD).1;simp only at hDy;rw[hDy]at hK;have b0:Rows.uptoBulk y0.1≤1048576:=Nat.le_trans (iW (by simp)) hK;have b2:Rows.uptoBulk y2.1≤1048576:=Nat.le_trans (iW (by simp)) hK;have b3:Rows.uptoBulk y3.1≤1048576:=Nat.le_trans (iW (by simp)) hK;have b5:Rows.uptoBulk y5.1≤1048576:=Nat.le_trans (iW (by simp)) hK;have b6:Rows.uptoBulk y6.1≤1048576:=Nat.le_trans (iW (by simp)) hK;obtain⟨zs,m2,rfl,hD2,-,hx2,hf2⟩:=DataW.trod_struct Tryz.underlying37 (show DataW.trod enc prog w 0 (fun _=>true) held m 37 [c2,c3]=some y2 from f2);obtain⟨z0,z1,rfl⟩:=V3 (l:=zs) hx2;have g0:DataW.trod enc prog w 0 (fun _=>true) held m2 9 (([c2,c3].drop 0).take (Tryz.prog.cellsOf 9))=some z0:=hf2 0 _ rfl
 have g1:DataW.trod enc prog w 0 (fun _=>true) held m2 35 (([c2,c3].drop 1).take (Tryz.prog.cellsOf 35))=some z1:=hf2 1 _ rfl;clear hf2;rw[xl]at g0;rw[So]at g1;rw[(Prod.ext_iff.1 hD2).1]at b2;have d0:Rows.uptoBulk z0.1≤1048576:=Nat.le_trans (iW (by simp)) b2;have d1:Rows.uptoBulk z1.1≤1048576:=Nat.le_trans (iW (by simp)) b2;obtain⟨A0,p0,l0,rfl,o0,n0,k0,q0⟩:=oy (C:=wT) (ok:=fun s=>s.size≤1048576) emp Tryz.underlying34 xl (by decide) (fun _=>rfl) mz (show DataW.trod enc prog w 0 (fun _=>true) held _ 34 [c0]=some y0 from f0) b0;obtain⟨kd,e1,-⟩:=DataW.trod_int Tryz.underlying3 (show DataW.trod enc prog w 0 (fun _=>true) held _ 3 [c1]=some y1 from f1);obtain⟨nm,e2,n2⟩:=mz (show DataW.trod enc prog w 0 (fun _=>true) held _ 9 [c2]=some z0 from g0) d0;obtain⟨A3,p3,l3,rfl,o3,n3,k3,q3⟩:=oy (C:=opC) (ok:=okO) ⟨0,r0,r0,0,0,0,0,emp,emp,false,0⟩ Tryz.underlying35 JD (by decide) (fun _=>rfl) (H6 (by decide)) (show DataW.trod enc prog w 0 (fun _=>true) held _ 35 [c3]=some z1 from g1) d1;obtain⟨A4,p4,l4,rfl,o4,n4,k4,q4⟩:=oy (C:=wT) (ok:=fun s=>s.size≤1048576) emp Tryz.underlying34 xl (by decide) (fun _=>rfl) mz (show DataW.trod enc prog w 0 (fun _=>true) held _ 34 [c4]=some y3 from f3) b3;obtain⟨sz,e5,-⟩:=DataW.trod_int Tryz.underlying3 (show DataW.trod enc prog w 0 (fun _=>true) held _ 3 [c5]=some y4 from f4);obtain⟨A6,p6,l6,rfl,o6,n6,k6,q6⟩:=oy (C:=Q1) (ok:=fun v=>(v.plus.size≤1048576∧v.minus.size≤1048576) ∧ -9223372036854775808≤v.add∧v.add≤9223372036854775807) ⟨0,emp,emp⟩ Tryz.underlying38 CK (by decide) (fun _=>rfl) BN (show DataW.trod enc prog w 0 (fun _=>true) held _ 38 [c6]=some y5 from f5) b5
 obtain⟨A7,p7,l7,rfl,o7,n7,k7,q7⟩:=oy (C:=JA) (ok:=fun z=>0≤z∧z≤255) 0 Tryz.underlying39 Sr (by decide) (fun _=>rfl) HY (show DataW.trod enc prog w 0 (fun _=>true) held _ 39 [c7]=some y6 from f6) b6;injection e1 with e1;injection e2 with e2;injection e5 with e5;subst e1 e2 e5;have hS:∀x:ByteArray,(wT x).length=1∧∀u∈wT x,u.oneCell'=true:=fun x=>⟨rfl,by intro u hu;simp only[wT,List.mem_singleton]at hu;rw[hu];rfl⟩;refine⟨⟨l0,kd,nm,l3,l4,sz,l6,l7⟩,⟨[.slice A0 l0.length p0,.int .i64 kd,.string nm,.slice A3 l3.length p3,.slice A4 l4.length p4,.int .i64 sz,.slice A6 l6.length p6,.slice A7 l7.length p7],rfl,rfl,qV (R:=dr) (C:=wT) (fun _=>rfl) hS o0 q0,rfl,rfl,rfl,rfl,rfl,qV (R:=opR) (C:=opC) (fun _=>rfl) (fun x=>⟨rfl,by intro u hu;simp only[opC,List.mem_cons,List.not_mem_nil,or_false]at hu;rcases hu with rfl | rfl | rfl | rfl | rfl | rfl | rfl | rfl | rfl | rfl | rfl | rfl | rfl | rfl | rfl<;>rfl⟩) o3 q3,rfl,qV (R:=dr) (C:=wT) (fun _=>rfl) hS o4 q4,rfl,rfl,rfl,qV (R:=kl) (C:=Q1) (fun _=>rfl) (fun x=>⟨rfl,by intro u hu;simp only[Q1,List.mem_cons,List.not_mem_nil,or_false]at hu;rcases hu with rfl | rfl | rfl<;>rfl⟩) o6 q6,rfl,qV (R:=fU .u8) (C:=JA) (fun _=>rfl) (fun x=>⟨rfl,by intro u hu;simp only[JA,List.mem_singleton]at hu;rw[hu];rfl⟩) o7 q7,trivial⟩,?_⟩;exact⟨n0,k0,n2,n3,k3,n4,k4,n6,k6,k7,n7⟩
end
end
def rW (l:List ByteArray):Nat:=(l.map fun x=>min x.size 2000).sum
def Gd (l:List Val):Nat:=(l.map fun v=>min v.plus.size 2000+min v.minus.size 2000).sum
def DH (l:List OpV):Nat:=(l.map fun v=>min v.plus.size 2000+min v.minus.size 2000).sum
def XZ (s:StV):Nat:=rW s.labels+rW s.names+Gd (s.vals.take 100)+DH (s.opers.take 40)
def yz (s:StV):Bool:=decide (s.labels.length≤100)&&decide (s.names.length≤100)&&(decide (XZ s≤3000)&&decide (s.vals.length≤100)&&decide (s.opers.length≤40)&&decide (s.bytes.length≤2000)&&decide (s.name.size≤2000))
theorem K9 {s:StV}(h:yz s=true):s.labels.length≤100∧s.names.length≤100∧s.vals.length≤100∧s.opers.length≤40∧s.bytes.length≤2000:=by
 unfold yz at h;simp only[Bool.and_eq_true,decide_eq_true_eq]at h;obtain⟨⟨h1,h2⟩,⟨⟨⟨-,h3⟩,h4⟩,h5⟩,-⟩:=h;exact⟨h1,h2,h3,h4,h5⟩
theorem xD {α:Type}{f:α→Nat}{k:Nat}(hf:∀x,f x≤k):∀l:List α,(l.map f).sum≤l.length*k
 |[]=>by simp
 |x::r=>by
  have h1:=hf x;have h2:=xD hf r;rw[map_cons,List.sum_cons,List.length_cons,Nat.add_mul];omega
theorem rL {α:Type}{f:α→Nat}{l:List α}{i:Nat}{x:α}(h:l[i]? = some x):((l.take (i+1)).map f).sum=((l.take i).map f).sum+f x:=by
 rw[List.take_add_one,h,map_append,List.sum_append];simp
theorem x8 (s:ByteArray):min s.size 2000≤2000:=Nat.min_le_right _ _
theorem xE (l:List ByteArray):rW l≤l.length*2000:=xD (fun _=>x8 _) l
theorem Ka (l:List Val):Gd l≤l.length*4000:=xD (fun v=>by have:=x8 v.plus;have:=x8 v.minus;omega) l
theorem T0 (l:List OpV):DH l≤l.length*4000:=xD (fun v=>by have:=x8 v.plus;have:=x8 v.minus;omega) l
theorem Vf (s:ByteArray):(if(2000:Int)<(s.size:Int) then(2000:Int) else(s.size:Int))=((min s.size 2000:Nat):Int):=by split<;>omega
def nH (L:List (List ByteArray)):Blk:=⟨true,34,1,L.map fun l=>[.d (.sd 1 (l.map dr.enc))]⟩
theorem sP (L:List (List ByteArray))(g:Nat→Nat):(nH L).ren g=nH L:=by
 unfold nH Blk.ren;simp only[Blk.mk.injEq,true_and,List.map_map];exact List.map_congr_left fun l _=>rfl
theorem ZS {a b c d:Option Blk}(h1:a=b)(h2:c=d):[a,c]=[b,d]:=by rw[h1,h2]
def p8 (s:StV):Blk:=⟨true,41,8,[bu (aR s)]⟩
theorem La {s:StV}{L:List (List ByteArray)}(hL:L=[s.labels,s.names]){l:List ByteArray}(hl:l∈L)(h:100<l.length):yz s=false:=by
 subst hL;have:l=s.labels∨l=s.names:=by simpa using hl
 unfold yz;rcases this with rfl | rfl
 ·rw[decide_eq_false (by omega:¬s.labels.length≤100)];rfl
 ·rw[decide_eq_false (by omega:¬s.names.length≤100),Bool.and_false];rfl
theorem Vw (s:StV)(h:Nz s):Sw f17 0 ⟨0,aB 0 [mS.enc s],[]⟩ (oQ f17 (.ret (bv (yz s)))):=by
 refine aq [] rfl ?_;obtain⟨L,hL⟩:∃L,L=[s.labels,s.names]:=⟨_,rfl⟩;have hL2:L.length=2:=by rw[hL];rfl
 have hsz:∀l∈L,l.length≤1048576:=by
  intro l hl;rw[hL]at hl;have:l=s.labels∨l=s.names:=by simpa using hl
  rcases this with rfl | rfl
  ·exact h.labels
  ·exact h.names
 simp only[go_sem,bD,aR,append_eq]
 refine ba (ι:=Nat) (fun i=>i≤2∧∀l∈L.take i,l.length≤100) (fun i=>⟨2,[(1,pv 0 0 0),(3,iv (((L.take i).map rW).sum:Nat)),(16,.s (.l (.sl 1 0 2))),(17,iv 2),(18,iv i)],aL 0 [p8 s,nH L]⟩) (fun i=>2-i) 0 ⟨by decide,fun l hl=>by cases hl⟩ (by
  rw[hL];exact Wk.renL [0,112] (by simp) (by simp) (by decide) rfl rfl) ?_
 rintro i ⟨hi,hl⟩
 have hS:((L.take i).map rW).sum≤400000:=by
  have h1:((L.take i).map rW).sum≤(L.take i).length*200000:=by
   clear hL hL2 hsz;generalize L.take i=M at hl
   induction M with
   |nil=>simp
   |cons x r ih =>
    have h1:=xE x;have h2:=hl x (by simp);have h3:=ih (fun l hl'=>hl l (by simp[hl']));rw[map_cons,List.sum_cons,List.length_cons,Nat.add_mul];omega
  rw[length_take]at h1;omega
 obtain⟨N,hN⟩:∃N,((L.take i).map rW).sum=N:=⟨_,rfl⟩;rw[hN]at hS ⊢;refine aw [] ?_;by_cases hlt:i<2
 ·have hltI:(i:Int)<2:=by omega
  have hltL:i<L.length:=by omega
  obtain⟨l,hg⟩:∃l,L[i]? = some l:=⟨_,getElem?_eq_getElem hltL⟩;have hlm:=List.mem_of_getElem? hg;have hlz:=hsz l hlm;have ei:=wI i;by_cases hc:100<l.length
  ·have hcI:(100:Int)<l.length:=by omega
   have hF:=La hL hlm hc;simp only[go_sem,bD,aR,append_eq,hltI,hlt,nH,p8,hg,hcI,hF]
  ·have hcI:¬(100:Int)<l.length:=by omega
   simp only[go_sem,bD,aR,append_eq,hltI,hlt,nH,p8,hg,hcI];refine ba (ι:=Nat) (fun j=>j≤l.length) (fun j=>⟨2,[(1,pv 0 0 0),(3,iv ((N+rW (l.take j):Nat))),(16,.s (.l (.sl 1 0 2))),(17,iv 2),(18,iv i),(25,oT.enc l),(26,iv l.length),(27,iv j)],aL 0 [p8 s,nH L]⟩) (fun j=>l.length-j) 0 (zero_le _) (Wk.renL [0,1] (by simp) (by simp) (by decide) rfl (ZS rfl (congrArg some (sP L _).symm))) ?_;intro j hj;refine aw [] ?_;by_cases hjl:j<l.length
   ·have hjI:(j:Int)<l.length:=by omega
    obtain⟨x,hx⟩:∃x,l[j]? = some x:=⟨_,getElem?_eq_getElem hjl⟩;have ej:=wI j;have hs1:rW (l.take (j+1))=rW (l.take j)+min x.size 2000:=rL hx;have hs2:=xE (l.take j);rw[length_take]at hs2;have en:IntKind.i64.wrap (((N+rW (l.take j):Nat):Int)+((min x.size 2000:Nat):Int))=((N+rW (l.take (j+1)):Nat):Int):=by rw[IntKind.wrap_i64,hs1];omega
    simp only[go_sem,hjI,hjl,hx,nH,p8,Vf,en,ej];exact⟨j+1,hjl,by omega,Wk.renL [0,1] (by simp) (by simp) (by decide) rfl (ZS rfl (congrArg some (sP L _).symm))⟩
   ·obtain rfl:j=l.length:=by omega
    have hjI:¬(l.length:Int)<l.length:=by omega
    simp only[go_sem,hjI,nH,p8,ei];refine⟨i+1,⟨hlt,fun y hy=>?_⟩,by omega,?_⟩
    ·rw[List.take_add_one,hg]at hy;rcases List.mem_append.1 hy with hy | hy
     ·exact hl y hy
     ·have:y=l:=by simpa using hy
      subst this;omega
    ·have e1:((L.take (i+1)).map rW).sum=N+rW l:=by rw[rL hg,hN]
     rw[e1];exact Wk.renL [0,1] (by simp) (by simp) (by decide) rfl (ZS rfl (congrArg some (sP L _).symm))
 ·obtain rfl:i=2:=by omega
  have hN2:N=rW s.labels+rW s.names:=by rw[←hN,hL];simp
  have hll:=hl s.labels (by rw[hL];simp);have hln:=hl s.names (by rw[hL];simp);have hb1:=xE s.labels;have hb2:=xE s.names;have hv:=h.vals;have hkV:(if(100:Int)<(s.vals.length:Int) then(100:Int) else(s.vals.length:Int))=((min s.vals.length 100:Nat):Int):=by split<;>omega
  have hkV2:((min s.vals.length 100:Nat):Int)≤(s.vals.length:Int):=by omega
  have hkV3:min s.vals.length 100≤s.vals.length:=Nat.min_le_left _ _;obtain⟨V,hV⟩:∃V,s.vals.take 100=V:=⟨_,rfl⟩
  have eV:List.take (min s.vals.length 100) (s.vals.map kl.enc)=V.map kl.enc:=by
   rw[←hV,←List.map_take];congr 1;rw[List.take_eq_take_iff];omega
  have hVl:V.length=min s.vals.length 100:=by rw[←hV,length_take,Nat.min_comm]
  simp only[go_sem,bD,aR,append_eq,nH,p8,hkV,hkV2,hkV3,eV,Nat.sub_zero];refine ba (ι:=Nat) (fun i=>i≤V.length) (fun i=>⟨1,[(1,pv 0 0 0),(3,iv ((N+Gd (V.take i):Nat))),(44,.s (.l (.d (.sd 3 (V.map kl.enc))))),(45,iv V.length),(46,iv i)],aL 0 [p8 s]⟩) (fun i=>V.length-i) 0 (zero_le _) (Wk.renL [0] (by simp) (by simp) (by decide) rfl rfl) ?_;intro i hi;refine aw [] ?_;by_cases hlt:i<V.length
  ·have hltI:(i:Int)<V.length:=by omega
   obtain⟨x,hx⟩:∃x,V[i]? = some x:=⟨_,getElem?_eq_getElem hlt⟩;have ei:=wI i;have hs1:Gd (V.take (i+1))=Gd (V.take i)+(min x.plus.size 2000+min x.minus.size 2000):=rL hx;have hs2:=Ka (V.take i);rw[length_take]at hs2;have e1:IntKind.i64.wrap (((min x.plus.size 2000:Nat):Int)+((min x.minus.size 2000:Nat):Int))=((min x.plus.size 2000+min x.minus.size 2000:Nat):Int):=by rw[IntKind.wrap_i64];omega
   have e2:IntKind.i64.wrap (((N+Gd (V.take i):Nat):Int)+((min x.plus.size 2000+min x.minus.size 2000:Nat):Int))=((N+Gd (V.take (i+1)):Nat):Int):=by rw[IntKind.wrap_i64,hs1];omega
   simp only[go_sem,hltI,hlt,hx,kl,p8,Vf,e1,e2,ei];exact⟨i+1,hlt,by omega,Wk.renL [0] (by simp) (by simp) (by decide) rfl rfl⟩
  ·obtain rfl:i=V.length:=by omega
   have hI:¬(V.length:Int)<V.length:=by omega
   have hb3:=Ka V;have ho:=h.opers;have hkO:(if(40:Int)<(s.opers.length:Int) then(40:Int) else(s.opers.length:Int))=((min s.opers.length 40:Nat):Int):=by split<;>omega
   have hkO2:((min s.opers.length 40:Nat):Int)≤(s.opers.length:Int):=by omega
   have hkO3:min s.opers.length 40≤s.opers.length:=Nat.min_le_left _ _;obtain⟨O,hO⟩:∃O,s.opers.take 40=O:=⟨_,rfl⟩
   have eO:List.take (min s.opers.length 40) (s.opers.map opR.enc)=O.map opR.enc:=by
    rw[←hO,←List.map_take];congr 1;rw[List.take_eq_take_iff];omega
   have hOl:O.length=min s.opers.length 40:=by rw[←hO,length_take,Nat.min_comm]
   obtain⟨N3,hN3⟩:∃N3,N+Gd V=N3:=⟨_,rfl⟩;simp only[List.take_length,hN3];simp only[go_sem,bD,aR,append_eq,hI,p8,hkO,hkO2,hkO3,eO,Nat.sub_zero];refine ba (ι:=Nat) (fun i=>i≤O.length) (fun i=>⟨1,[(1,pv 0 0 0),(3,iv ((N3+DH (O.take i):Nat))),(70,.s (.l (.d (.sd 15 (O.map opR.enc))))),(71,iv O.length),(72,iv i)],aL 0 [p8 s]⟩) (fun i=>O.length-i) 0 (zero_le _) (Wk.renL [0] (by simp) (by simp) (by decide) rfl rfl) ?_;intro i hi;refine aw [] ?_;by_cases hlt:i<O.length
   ·have hltI:(i:Int)<O.length:=by omega
    obtain⟨x,hx⟩:∃x,O[i]? = some x:=⟨_,getElem?_eq_getElem hlt⟩;have ei:=wI i;have hs1:DH (O.take (i+1))=DH (O.take i)+(min x.plus.size 2000+min x.minus.size 2000):=rL hx;have hs2:=T0 (O.take i);rw[length_take]at hs2;have e1:IntKind.i64.wrap (((min x.plus.size 2000:Nat):Int)+((min x.minus.size 2000:Nat):Int))=((min x.plus.size 2000+min x.minus.size 2000:Nat):Int):=by rw[IntKind.wrap_i64];omega
    have e2:IntKind.i64.wrap (((N3+DH (O.take i):Nat):Int)+((min x.plus.size 2000+min x.minus.size 2000:Nat):Int))=((N3+DH (O.take (i+1)):Nat):Int):=by rw[IntKind.wrap_i64,hs1];omega
    simp only[go_sem,hltI,hlt,hx,ah,opE,p8,Vf,e1,e2,ei];exact⟨i+1,hlt,by omega,Wk.renL [0] (by simp) (by simp) (by decide) rfl rfl⟩
   ·obtain rfl:i=O.length:=by omega
    have hI:¬(O.length:Int)<O.length:=by omega
    have hF:yz s=(decide (N3+DH O≤3000)&&decide (s.vals.length≤100)&&decide (s.opers.length≤40)&&decide (s.bytes.length≤2000)&&decide (s.name.size≤2000)):=by
     unfold yz XZ;rw[hV,hO,←hN2,hN3,decide_eq_true hll,decide_eq_true hln];rfl
    rw[hF];simp only[List.take_length];obtain⟨N4,hN4⟩:∃N4,N3+DH O=N4:=⟨_,rfl⟩;rw[hN4];by_cases c1:N4≤3000
    case neg =>
     have d1:¬(N4:Int)≤3000:=by omega
     simp only[go_sem,bD,aR,p8,hI,c1,d1,Bool.false_and]
    have d1:(N4:Int)≤3000:=by omega
    by_cases c2:s.vals.length≤100
    case neg =>
     have d2:¬(s.vals.length:Int)≤100:=by omega
     simp only[go_sem,bD,aR,p8,hI,c1,d1,Bool.false_and,c2,d2]
    have d2:(s.vals.length:Int)≤100:=by omega
    by_cases c3:s.opers.length≤40
    case neg =>
     have d3:¬(s.opers.length:Int)≤40:=by omega
     simp only[go_sem,bD,aR,p8,hI,c1,d1,Bool.false_and,c2,d2,c3,d3]
    have d3:(s.opers.length:Int)≤40:=by omega
    by_cases c4:s.bytes.length≤2000
    case neg =>
     have d4:¬(s.bytes.length:Int)≤2000:=by omega
     simp only[go_sem,bD,aR,p8,hI,c1,d1,Bool.false_and,c2,d2,c3,d3,c4,d4]
    have d4:(s.bytes.length:Int)≤2000:=by omega
    by_cases c5:s.name.size≤2000
    case neg =>
     have d5:¬(s.name.size:Int)≤2000:=by omega
     simp only[go_sem,bD,aR,p8,hI,c1,d1,Bool.false_and,c2,d2,c3,d3,c4,d4,c5,d5]
    have d5:(s.name.size:Int)≤2000:=by omega
    simp only[go_sem,bD,aR,p8,hI,c1,d1,Bool.false_and,c2,d2,c3,d3,c4,d4,c5,d5]
abbrev Zj:ap prog 17 :=
 mz1 func17 (mS) (Nz) ((fun s=>.ret (bv (yz s)))) (asP fun s h=>Vw s h)
theorem VU {s:StV}(h:Nz s)(hf:yz s=true):Au s:=by
 obtain⟨h1,h2,h3,h4,h5⟩:=K9 hf;refine⟨by omega,fun n hn=>?_,?_,by omega,h.operT,by omega,fun n hn=>?_,by omega,fun v hv=>?_,h.bytes,by omega⟩
 ·have:=h.labelT n hn;omega
 ·have:=h.name;omega
 ·have:=h.nameT n hn;omega
 ·obtain⟨⟨g1,g2⟩,g3⟩:=h.valT v hv;exact⟨yU (by omega),yU (by omega),g3⟩
theorem QC {s:StV}(h:Au s):Nx (nh s):=by
 refine⟨h.labels,h.names,?_,h.vals,h.bytes⟩;show(s.opers.map aF).length≤_;rw[length_map];exact h.opers
theorem Qu (s:StV)(h:Nz s):Sw f4 0 ⟨0,aB 0 [mS.enc s],[]⟩ (oQ f4 (.ret (bv true))):=by
 refine aq [⟨_,WI⟩,⟨_,Zj⟩,⟨_,J9⟩,⟨_,uE⟩] rfl ?_;have hSt:=AU.back s;simp only[bD,aR,dr,fU]at hSt;by_cases hf:yz s=true
 case neg =>
  have hf':yz s=false:=by simpa using hf
  simp only[go_sem,bD,aR,hSt,h,hf']
 have hok:=VU h hf;obtain⟨t,e,hp⟩:∃t e,kF s=(t,e):=⟨_,_,rfl⟩;by_cases he:e=0
 case neg=>simp only[go_sem,bD,aR,hSt,h,hf,hok,hp,FB,he]
 subst he;have hb:=MS ⟨hok.valT,hok.operT,hok.bytes⟩ hp;have hS:qJ t=.ret (.tup [.agg (bu (aR (nh s))),.l (.v (.int .i64 0))]):=by unfold qJ;rw[hb]
 have hsm:=QC hok;have hSp:=AU.back (nh s);simp only[bD,aR,dr,fU]at hSp;have hO:=hok.operT;have hO2:=hok.opers;simp only[go_sem,bD,aR,hSt,h,hf,hok,hp,FB,wQ,wP,hS];refine sD mixed [⟨_,Zz⟩,⟨_,Yz⟩] [] ?_;simp only[go_sem,hSt,hSp,hO2,bD,aR,hsm];exact hO
section
open Go.ChangeShapes Go.WideShapes Go.ChangeAt Go.RowKit Go.Joins
theorem AS (os:Os)(H:Type)(enc:TypeId×Value→H) :
  ∃(w:World) (tape:Tape) (i:Input),w.os=os∧(w.forCall tape i).Shaped prog∧i.vars=[]∧Input.okWide prog (w.forCall tape i) .any w.heap.size 4 i ∧
   (Rows.OpenSpec.upto Rows.stmtBackSpec).preRow enc prog f4 Rows.stmtBackUptoRow.domain false Rows.stmtBackUptoRow.laid (w.forCall tape i).memory i.args∧({}:Assume).holds prog (lone (Frame.enter prog 4 i.args .normal) [] (w.forCall tape i)):=by
 obtain⟨places,hx⟩:∃places,DataW.whole enc prog ((World.laidAll prog os tW).forCall (fun _ _=>0) ⟨#[],#[.agg #[.slice none 0 0,.int .i64 0,.string ⟨#[]⟩,.slice none 0 0,.slice none 0 0,.int .i64 0,.slice none 0 0,.slice none 0 0]],[]⟩).memory f4.params.toList Rows.stmtBackSpec.vars false (#[.agg #[.slice none 0 0,.int .i64 0,.string ⟨#[]⟩,.slice none 0 0,.slice none 0 0,.int .i64 0,.slice none 0 0,.slice none 0 0]]:Array Value).toList 8=some ([.agg [.nil,.lit (.int .i64 0),.agg [.lit (.string []),.nil],.nil,.lit (.int .i64 0),.nil,.nil]],[],places):=⟨[],by kernel_rfl⟩;have hok:Input.okWideB prog ((World.laidAll prog os tW).forCall (fun _ _=>0) ⟨#[],#[.agg #[.slice none 0 0,.int .i64 0,.string ⟨#[]⟩,.slice none 0 0,.slice none 0 0,.int .i64 0,.slice none 0 0,.slice none 0 0]],[]⟩) 4 ⟨#[],#[.agg #[.slice none 0 0,.int .i64 0,.string ⟨#[]⟩,.slice none 0 0,.slice none 0 0,.int .i64 0,.slice none 0 0,.slice none 0 0]],[]⟩=true:=by kernel_rfl
 exact⟨World.laidAll prog os tW,fun _ _=>0,⟨#[],#[.agg #[.slice none 0 0,.int .i64 0,.string ⟨#[]⟩,.slice none 0 0,.slice none 0 0,.int .i64 0,.slice none 0 0,.slice none 0 0]],[]⟩,World.laidAll_os _ _ _,World.shaped_of_ZipB (by kernel_rfl) (by kernel_rfl),(Input.okWide_of_okWideB (base:=0) hok).1,(Input.okWide_of_okWideB hok).2,
  OpenSpec.preRow_of_cond 8 hx (by kernel_rfl) (fun k hk=>by cases hk;kernel_rfl) (by kernel_rfl) (by
   show laidMetH prog tW _;rw[MakeChecks.laidMetH_plain _ _ _ (by kernel_rfl)];exact laidMet_laidAll _ (by kernel_rfl) (by kernel_rfl)),by
  simp only[Assume.holds];exact⟨by simp,by simp,fun _=>Modest.zero,by simp,by simp⟩⟩
theorem DD (os:Os)(started:os.Started)(H:Type)(enc:TypeId×Value→H)(F:Stop.Interp) :
  ReturnsInHanded {} Tryz.checked os 4 .any ((Rows.OpenSpec.upto Rows.stmtBackSpec).preRow enc prog f4 Rows.stmtBackUptoRow.domain false Rows.stmtBackUptoRow.laid) (((Rows.OpenSpec.upto Rows.stmtBackSpec).at F).post enc prog f4 false true false false):=by
 refine returnsInHanded_of_row (C:=Tryz.checked) (s:=Rows.OpenSpec.upto Rows.stmtBackSpec) VF started (by kernel_rfl) func4 (AS os H enc) ?_;intro W base args ds gs before hval0 hW _ hcond _ hlaid _ _;have hval:∀(j:Nat) t v,f4.params[j]? = some t→args[j]? = some v→Value.okWide prog W .any base t v:=hval0;have hW':=hW;obtain⟨p,q,hA0,hV,rfl,hfz,hnd⟩:=hW;have hA:DataW.TrodAll enc prog W 0 (fun _=>true) true f4.params.toList args.toList ds p:=hA0;rw[params4]at hA hval;obtain⟨v0,vs0,d0,ds0,p0,q0,hargs,rfl,rfl,h0,r0⟩:=trodAll_cons hA;obtain⟨rfl,rfl,rfl⟩:=trodAll_nil r0;obtain rfl:args = #[v0]:=by cases args;simp_all
 obtain⟨rfl,rfl⟩:=trodVars_none hV;have k0:=h0;have lt0:∀x∈p0,x.block<W.heap.size:=by obtain⟨m,hm⟩:=k0;exact DataW.trod_lt m _ _ _ hm
 have hb:Rows.uptoBulk d0≤1048576:=by
  have h1:Rows.uptoSmall H ([d0]++[])=true:=hcond _ rfl;have h2:Rows.uptoBulkAll ([d0]++[])≤1048576:=of_decide_eq_true h1;exact Nat.le_trans (tD (by simp)) h2
 obtain⟨s,hr,hs⟩:=Ma (hval 0 41 v0 rfl rfl) h0 hb;clear hA0 hval0
 have hC:Calls prog 4 #[v0] W fun e w'=>e=.returned (.bool true)∧Below W.heap.size W w' :=
  Lw (xs:=[mS.enc s]) (vals:=[v0]) func4 rfl (EO hlaid) ⟨hr,trivial⟩ (by rw[ntmps4];show 1≤_;decide) (Qu s hs)
 refine hC.mono fun e W' ⟨he,bel⟩=>?_;subst he;exact⟨_,rfl,_,_,_,[],_,[],hW',trodAll_mk1 (shut_bool Tryz.underlying4 _),(trodAll_cons_mk (Below.trod SQ (by kernel_rfl) (of_decide_eq_true (by kernel_rfl)) k0 bel lt0) trodAll_mk0),rfl,bel.frame _,fun h=>by cases h⟩
end
end Go.Proofs.YtnhbidpdadkcjaaGreatDoor
