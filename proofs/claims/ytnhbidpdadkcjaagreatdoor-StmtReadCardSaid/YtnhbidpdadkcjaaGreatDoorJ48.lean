import Derived.Test.YtnhbidpdadkcjaaGreatDoorJ46
import Derived.Test.YtnhbidpdadkcjaaGreatDoorJ45
import Derived.Test.YtnhbidpdadkcjaaGreatDoorJ41
open Go.RowKit
set_option linter.unusedVariables false
set_option linter.unusedSimpArgs false
set_option maxRecDepth 100000
set_option maxHeartbeats 8000000
open List (map_map)
namespace Go.Proofs.YtnhbidpdadkcjaaGreatDoor
open Tryz
section
open Ex (Xs xs0)
abbrev nlC:LV:=.v (.slice none 0 0)
def zs8:List LV:=[nlC,.v (.int .i64 0),.v (.string emp),nlC,nlC,.v (.int .i64 0),nlC,nlC]
def stL (r:StV)(lb nb vb bb:Nat):List LV:=[.sl lb 0 r.labels.length,.v (.int .i64 r.kind),.v (.string r.name),.d (.sd 15 (r.opers.map opR.enc)),.sl nb 0 r.names.length,.v (.int .i64 r.size),.sl vb 0 r.vals.length,.sl bb 0 r.bytes.length]
def c2P (xs:List LV)(c:Int):List Blk:=[⟨true,41,8,[xs]⟩,⟨true,27,1,[[.v (.int .i64 c)]]⟩]
structure Ch (s:St)(xs:List LV)(c:Int):Prop where
 h0:hget s.h 0=some ⟨true,41,8,[xs]⟩
 h1:hget s.h 1=some ⟨true,27,1,[[.v (.int .i64 c)]]⟩
def UR (s:St):Prop:=bQ s.t 2=pv 0 0 0∧bQ s.t 3=pv 1 0 0
structure Xo (s:St)(r:StV)(lb nb vb bb:Nat):Prop where
 cells:Ch s (stL r lb nb vb bb) 0
 l2:2≤lb∧2≤nb∧2≤vb∧2≤bb
 b1:hget s.h lb=some (stK r.labels)
 b2:hget s.h nb=some (stK r.names)
 b3:hget s.h vb=some (vlK r.vals)
 b4:hget s.h bb=some (byK r.bytes)
theorem Aw {s:ByteArray}{ts:List Tok}{n:Nat}(h:fy (aa s)=(ts,n,0)):∀t∈ts,t.text.size≤1000000:=by
 unfold fy at h;split at h
 ·cases h
 ·rename_i hz;have hr:∀z∈aa s,0≤z∧z≤255:=fun z hz=>ig hz;have h2:=rt hr (by omega) ts 0 n 0 (Nat.zero_le _) (by rw[List.drop_zero];exact h)
  have key:∀(ts:List Tok) (p:Nat),Rises (aa s).length p ts→∀t∈ts,t.text.size≤1000000:=by
   intro ts
   induction ts with
   |nil=>intro p _ t ht;cases ht
   |cons u ts ih =>
    rintro p ⟨⟨hc,hsz⟩,a,-,-,-,hrest⟩ t ht;rcases List.mem_cons.1 ht with rfl | ht
    ·omega
    ·exact ih _ hrest t ht
  exact key ts 0 h2
theorem nP {p:Tok→Prop}:∀{N:Nat} {out ls:List ByteArray} {l r:List Tok},(∀t∈l,p t)→labelsF N out l=.ok (ls,r)→∀t∈r,p t
 |0,out,ls,l,r,h,e=>by
  injection e with e;injection e with e1 e2;subst e2;exact h
 |N+1,out,ls,l,r,h,e=>by
  unfold labelsF at e;split at e
  ·split at e
   ·cases e
   ·split at e
    ·cases e
    ·exact nP (fun t ht=>h t (List.mem_of_mem_drop ht)) e
  ·injection e with e;injection e with e1 e2;subst e2;exact h
theorem EY {p:Tok→Prop}{k e:Int}{t:ByteArray}{l r:List Tok}(h:∀t∈l,p t)(hn:nextF k e l=.ok (t,r)):∀t∈r,p t:=by
 unfold nextF at hn;split at hn
 ·injection hn with hn;injection hn with h1 h2;subst h2;exact fun t ht=>h t (List.mem_of_mem_drop ht)
 ·cases hn
def Mj (l:List Tok):PsV:=⟨l,st0⟩
def UO (s:ByteArray)(u:St):Prop:=UR u∧((∃r lb nb vb bb,dU (aa s)=.ok r∧Xo u r lb nb vb bb)∨∃e,dU (aa s)=.error e∧Ch u zs8 e)
def UN (s:ByteArray)(x:Value)(u:St):Prop:=UR u∧∃e,dU (aa s)=.error e∧x=fi e∧Ch u zs8 0
def US:Code→Code
 |.seq _ (.seq _ c)=>c
 |c=>c
theorem Dw (s:ByteArray):SW prog ⟨none,2⟩ f19.ntmps (US (f19.body.getD .skip)) ⟨2,[(0,bu.enc s),(2,pv 0 0 0),(3,pv 1 0 0)],aN 0 (c2P zs8 0)⟩ (r5 (UO s) (UN s)):=by
 rw[ntmps19];simp only[f19,Option.getD_some,US];rcases hL:fy (aa s) with ⟨ts,n,e⟩;by_cases he:e=0
 case neg =>
  have hS:dU (aa s)=.error e:=by unfold dU;rw[hL];exact if_neg he
  refine aw [⟨_,Ly.lexS⟩] ?_;simp only[go_sem,c2P,zs8,hL,OL,E0,he];refine bR (ctx:=[]) mixed ⟨[],[(2,[0]),(3,[1])],[(1,[0])]⟩ (by kernel_rfl) ?_;simp only[go_sem,c2P];exact⟨⟨rfl,rfl⟩,.inr ⟨e,hS,⟨rfl,rfl⟩⟩⟩
 subst he;have hS:dU (aa s)=kg ts:=by unfold dU;rw[hL];exact if_pos rfl
 refine iG (bd (ctx:=[⟨_,Ly.lexS⟩]) 4000 ?_);simp only[go_sem,c2P,zs8,hL,OL,xe];refine iG (bd (ctx:=[]) 4000 ?_);simp only[go_sem];refine iG (bd (ctx:=[]) 4000 ?_);simp only[go_sem]
 refine SW.wk (s':=⟨246,[(6,pv 210 0 0),(2,pv 0 0 0),(3,pv 1 0 0)],(210,some (psK (Mj ts) 242 243 244 245))::(242,some (stK (Mj ts).s.labels))::(243,some (stK (Mj ts).s.names))::(244,some (vlK (Mj ts).s.vals))::(245,some (byK (Mj ts).s.bytes))::aN 0 (c2P zs8 0)⟩) ?_
  ((Wk.deepC 210 4 15 rfl rfl rfl).trans ((Wk.nilC 210 1 9 1 rfl rfl rfl).trans ((Wk.nilC 210 5 9 1 rfl rfl rfl).trans ((Wk.nilC 210 7 75 3 rfl rfl rfl).trans ((Wk.nilC 210 8 5 1 rfl rfl rfl).trans (Wk.sub (Nat.le_refl _) rfl rfl))))))
 have hR:=Hk hL;have hT:=Aw hL;obtain⟨p0,hp0⟩:∃p0,p0=Mj ts:=⟨_,rfl⟩;have hq:(RdOk p0.l∧p0.s.labels=[])=True:=eq_true (by rw[hp0];exact⟨hR,rfl⟩);rw[←hp0];rcases hl:labelsF ts.length [] ts with x | ⟨ls,l⟩
 ·have hP:dU (aa s)=.error x:=by rw[hS];unfold kg;rw[hl]
  have hl':y4 p0.s (labelsF p0.l.length [] p0.l)=.error x:=by rw[hp0];show y4 st0 (labelsF ts.length [] ts)=_;rw[hl];rfl
  refine aw [⟨_,li⟩] ?_;simp only[go_sem,c2P,hl',hq];exact⟨⟨rfl,rfl⟩,x,hP,rfl,⟨rfl,rfl⟩⟩
 obtain⟨p1,hp1⟩:∃p1:PsV,p1=⟨l,{ st0 with labels:=ls }⟩:=⟨_,rfl⟩;have hl':y4 p0.s (labelsF p0.l.length [] p0.l)=.ok (jI,p1):=by rw[hp0,hp1];show y4 st0 (labelsF ts.length [] ts)=_;rw[hl];rfl
 have hrl:=(pB hR (by simp) hl).1;have hsm:=nP hT hl
 have hX:dU (aa s)=if l=[] then .ok { st0 with labels:=ls } else match restR ⟨l,{ st0 with labels:=ls }⟩ with
  |.error e=>.error e
  |.ok p=>.ok p.s:=by rw[hS];unfold kg;rw[hl];rfl
 by_cases hnil:l=[]
 ·have hP:dU (aa s)=.ok p1.s:=by rw[hX,if_pos hnil,hp1]
  have hlen:((p1.l.length:Int)=0)=True:=eq_true (by rw[hp1];show(l.length:Int)=0;rw[hnil];rfl);refine aw [⟨_,li⟩] ?_;simp only[go_sem,c2P,hl',hq,hlen];exact⟨⟨rfl,rfl⟩,.inl ⟨p1.s,_,_,_,_,hP,⟨⟨rfl,rfl⟩,by decide,rfl,rfl,rfl,rfl⟩⟩⟩
 have hlen:¬(p1.l.length:Int)=0:=by rw[hp1];show ¬(l.length:Int)=0;have:=List.length_pos_iff.2 hnil;omega
 rw[if_neg hnil,←hp1]at hX;have hp1l:p1.l=l:=by rw[hp1]
 rcases hn:nextF 1 110 p1.l with x | ⟨name,l1⟩
 ·have hP:dU (aa s)=.error x:=by rw[hX];unfold restR;rw[hn]
  have hn':jF 1 110 p1=.error x:=by unfold jF;rw[hn]
  refine aw [⟨_,li⟩,⟨_,mB⟩] ?_;simp only[go_sem,c2P,hl',hq,hlen,hn'];exact⟨⟨rfl,rfl⟩,x,hP,rfl,⟨rfl,rfl⟩⟩
 obtain⟨p2,hp2⟩:∃p2:PsV,p2=⟨l1,p1.s⟩:=⟨_,rfl⟩;have hn':jF 1 110 p1=.ok (sv name,p2):=by unfold jF;rw[hn,hp2]
 have hn2:RdOk l1:=(qR (by rw[hp1l];exact hrl) hn).1;have hsm2:=EY (by rw[hp1l];exact hsm) hn
 have hD:DirOk p2:=by
  rw[hp2,hp1];exact⟨⟨hn2,Nat.le_refl _,Nat.le_refl _,fun v hv=>by cases hv⟩,hsm2⟩
 by_cases hdot:name=lO
 ·have hP:dU (aa s)=.error 110:=by rw[hX];unfold restR;rw[hn];simp only[if_pos hdot]
  have hdot':name=(⟨#[46]⟩:ByteArray):=hdot;refine aw [⟨_,li⟩,⟨_,mB⟩,⟨_,fk⟩] ?_;simp only[go_sem,c2P,hl',hq,hlen,hn',eq_true hdot'];exact⟨⟨rfl,rfl⟩,110,hP,rfl,⟨rfl,rfl⟩⟩
 have hdot':¬name=(⟨#[46]⟩:ByteArray):=hdot;cases hpf:bL name lO with
 |true =>
  have hpf':bL name (⟨#[46]⟩:ByteArray)=true:=hpf;rcases hd:ve name p2 with x | q
  ·have hP:dU (aa s)=.error x:=by rw[hX];unfold restR;rw[hn];simp only[if_neg hdot,hpf,if_true];rw[←hp2,hd]
   refine aw [⟨_,li⟩,⟨_,mB⟩,⟨_,nL⟩,⟨_,UG⟩] ?_;simp only[go_sem,c2P,hl',hq,hlen,hn',hdot',hpf',hD,hd,am];exact⟨⟨rfl,rfl⟩,x,hP,rfl,⟨rfl,rfl⟩⟩
  ·have hP:dU (aa s)=.ok q.s:=by rw[hX];unfold restR;rw[hn];simp only[if_neg hdot,hpf,if_true];rw[←hp2,hd]
   refine aw [⟨_,li⟩,⟨_,mB⟩,⟨_,nL⟩,⟨_,UG⟩] ?_;simp only[go_sem,c2P,hl',hq,hlen,hn',hdot',hpf',hD,hd,aF];exact⟨⟨rfl,rfl⟩,.inl ⟨q.s,_,_,_,_,hP,⟨⟨rfl,rfl⟩,by decide,rfl,rfl,rfl,rfl⟩⟩⟩
 |false =>
  have hpf':bL name (⟨#[46]⟩:ByteArray)=false:=hpf;have hn3:RdOk p2.l:=by rw[hp2];exact hn2
  rcases ho:listF p2.l with x | o
  ·have hP:dU (aa s)=.error x:=by rw[hX];unfold restR;rw[hn];simp only[if_neg hdot,hpf,Bool.false_eq_true,if_false];rw[show l1=p2.l by rw[hp2],ho]
   have hne:¬x=0:=BC hn3 ho;refine aw [⟨_,li⟩,⟨_,mB⟩,⟨_,nL⟩,⟨_,JL⟩,⟨_,fk⟩] ?_;simp only[go_sem,c2P,hl',hq,hlen,hn',hdot',hpf',EM,EL,lT,hn3,ho,hne];exact⟨⟨rfl,rfl⟩,x,hP,rfl,⟨rfl,rfl⟩⟩
  ·have hP:dU (aa s)=.ok { p2.s with kind:=1,name:=name,opers:=o }:=by rw[hX];unfold restR;rw[hn];simp only[if_neg hdot,hpf,Bool.false_eq_true,if_false];rw[show l1=p2.l by rw[hp2],ho,hp2]
   refine aw [⟨_,li⟩,⟨_,mB⟩,⟨_,nL⟩,⟨_,JL⟩,⟨_,fk⟩] ?_;simp only[go_sem,c2P,hl',hq,hlen,hn',hdot',hpf',EM,EL,lT,hn3,ho];exact⟨⟨rfl,rfl⟩,.inl ⟨{ p2.s with kind:=1,name:=name,opers:=o },_,_,_,_,hP,⟨⟨rfl,rfl⟩,by decide,rfl,rfl,rfl,rfl⟩⟩⟩
end
section
open Ex (Xs xs0)
theorem FL {h:ai}{f:Nat}(l:List ByteArray):dA (dA (LV.toD h f)) (l.map mM)=some (True,[],l.map dZ.enc):=by
 have e:l.map mM=(l.map dZ.enc).map bw:=by rw[map_map];rfl
 rw[e];exact gy
theorem Qp {h:ai}{f:Nat}(l:List Val):dA (dA (LV.toD h f)) (l.map uO)=some (True,[],l.map mQ.enc):=by
 have e:l.map uO=(l.map mQ.enc).map bw:=by rw[map_map];rfl
 rw[e];exact gy
theorem Qo {h:ai}{f:Nat}(l:List Int):dA (dA (LV.toD h f)) (l.map AH)=some (True,[],l.map (gw .u8).enc):=by
 have e:l.map AH=(l.map (gw .u8).enc).map bw:=by rw[map_map];rfl
 rw[e];exact gy
def rsP:dP:=[(2,pv 0 0 0),(3,pv 1 0 0)]
def Df (s:ByteArray)(u:St):Prop:=∃h',Wk ⟨none,0⟩ ⟨u.nx,rsP,u.h⟩ ⟨u.nx,rsP,h'⟩∧AW h' (mC s) (nz prog f19.results.toList ⟨u.nx,rsP,h'⟩)
theorem zI {s:ByteArray}{u:St}{e:Int}(hS:dU (aa s)=.error e)(hc:Ch u zs8 e):Df s u:=by
 let k:Blk:=⟨true,41,8,[zs8]⟩
 refine⟨_,(Wk.deepC (ro:=⟨none,0⟩) (s:=⟨u.nx,rsP,u.h⟩) 0 0 1 (k:=k) (xs:=zs8) hc.h0 rfl rfl).trans ((Wk.deepC 0 3 15 rfl rfl rfl).trans ((Wk.deepC 0 4 1 rfl rfl rfl).trans ((Wk.deepC 0 6 3 rfl rfl rfl).trans (Wk.deepC 0 7 1 rfl rfl rfl)))),?_⟩;rw[results19];simp only[go_sem,k,zs8,rsP,hc.h1,mC,hS,aW,st0]
theorem PV {s:ByteArray}{u:St}{r:StV}{lb nb vb bb:Nat}(hS:dU (aa s)=.ok r)(hc:Xo u r lb nb vb bb):Df s u:=by
 refine⟨u.h,Wk.refl _ _,?_⟩;rw[results19]
 have m1:dA (dA (LV.toD u.h 3)) ((stK r.labels).els.take r.labels.length)=some (True,[],r.labels.map dZ.enc):=by
  rw[List.take_of_length_le (by simp[stK])];exact FL _
 have m2:dA (dA (LV.toD u.h 3)) ((stK r.names).els.take r.names.length)=some (True,[],r.names.map dZ.enc):=by
  rw[List.take_of_length_le (by simp[stK])];exact FL _
 have m3:dA (dA (LV.toD u.h 3)) ((vlK r.vals).els.take r.vals.length)=some (True,[],r.vals.map mQ.enc):=by
  rw[List.take_of_length_le (by simp[vlK])];exact Qp _
 have m4:dA (dA (LV.toD u.h 3)) ((byK r.bytes).els.take r.bytes.length)=some (True,[],r.bytes.map (gw .u8).enc):=by
  rw[List.take_of_length_le (by simp[byK])];exact Qo _
 have o1:∀l,(stK l).own=true∧(stK l).sz=1∧l.length≤(stK l).els.length:=fun l=>⟨rfl,rfl,by simp[stK]⟩;have o2:∀l,(vlK l).own=true∧(vlK l).sz=3∧l.length≤(vlK l).els.length:=fun l=>⟨rfl,rfl,by simp[vlK]⟩;have o3:∀l,(byK l).own=true∧(byK l).sz=1∧l.length≤(byK l).els.length:=fun l=>⟨rfl,rfl,by simp[byK]⟩;simp only[go_sem,rsP,stL,hc.cells.h0,hc.cells.h1,hc.b1,hc.b2,hc.b3,hc.b4,mC,hS,aW,m1,m2,m3,m4,o1,o2,o3,FL,Qp,Qo]
theorem Dv (s:ByteArray):Nu prog 19 f19 ⟨0,aA 0 [bu.enc s],[]⟩ (mC s):=by
 intro B w ρ al vals R hpl hds H hret _
 refine qr (K:=2) (js:=[0,1]) (cells:=[(2,0),(3,1)]) (s1:=⟨2,[(0,bu.enc s),(2,pv 0 0 0),(3,pv 1 0 0)],aN 0 (c2P zs8 0)⟩)
  (post:=UO s) (pp:=UN s) (post2:=Df s)
  func19 rfl func42 rfl rfl rfl rfl rfl (by decide) (by decide) (by decide) (by decide) hpl hds H ?_
  (ua rfl rfl rfl rfl rfl rfl (by decide) (fun _ _=>by go_simp) rfl) ?_ ?_ ?_ ?_ ?_ ?_ ?_
 ·refine aw [] ?_;rw[ntmps19];simp only[go_sem];exact Wk.renL [0,16] (by simp) (by simp) (by decide) rfl rfl
 ·intro j hj
  match j,hj with
  |0,_=>exact⟨_,rfl⟩
  |1,_=>exact⟨_,rfl⟩
 ·refine SW.wk (s':=⟨2,[(0,bu.enc s),(2,pv 0 0 0),(3,pv 1 0 0)],aN 0 (c2P zs8 0)⟩) (Dw s) (Wk.sub (Nat.le_refl _) rfl rfl)
 ·rintro u ⟨⟨e1,e2⟩,_⟩ p hp;simp only[List.mem_cons,List.not_mem_nil,or_false]at hp;rcases hp with rfl | rfl
  ·exact e1
  ·exact e2
 ·rintro x u ⟨⟨e1,e2⟩,_⟩ p hp;simp only[List.mem_cons,List.not_mem_nil,or_false]at hp;rcases hp with rfl | rfl
  ·exact e1
  ·exact e2
 ·rintro u ⟨-,h⟩
  have hpost:∀v:St,v.h=u.h→Df s v:=by
   intro v hv;rcases h with ⟨r,lb,nb,vb,bb,hS,hc⟩ | ⟨e,hS,hc⟩
   ·exact PV hS ⟨⟨by rw[hv];exact hc.cells.h0,by rw[hv];exact hc.cells.h1⟩,hc.l2,by rw[hv];exact hc.b1,by rw[hv];exact hc.b2,by rw[hv];exact hc.b3,by rw[hv];exact hc.b4⟩
   ·exact zI hS ⟨by rw[hv];exact hc.h0,by rw[hv];exact hc.h1⟩
  refine SW.mono (Q:=r5 (fun v=>v.h=u.h∧v.nx=u.nx+32) fun _ _=>False) ?_ ?_
  ·refine aw [] ?_;rw[ntmps42];have hb:=@pN prog 20 .nilIface (.tmp 5) y3;simp only[go_sem,pvs,↓hb]
  ·intro e v hv;cases e with
   |normal=>exact hpost v hv.1
   |ret=>exact hpost v hv.1
   |panic c=>obtain⟨x,-,h⟩:=hv;exact h.elim
   |exit j=>exact hv.elim
   |goto j=>exact hv.elim
   |outgrown=>exact hv.elim
 ·rintro x u ⟨-,e,hr,rfl,hc⟩
  have hwk:Wk ⟨none,2⟩ ⟨u.nx,(5,.s (.l (.v (fi e))))::aA 0 (pvs [0,1]),u.h⟩ ⟨2,(5,.s (.l (.v (fi e))))::aA 0 (pvs [0,1]),aN 0 (c2P zs8 0)⟩:=by
   refine Wk.renL [0,1] (by decide) (Nat.le_refl 2) (by decide) rfl ?_;simp only[c2P,aN,List.map_cons,List.map_nil,List.getD_eq_getElem?_getD,List.getElem?_cons_zero,List.getElem?_cons_succ,Option.getD_some,hc.h0,hc.h1];rfl
  refine SW.wk ?_ hwk;refine aw [] ?_;rw[ntmps42];have hb:∀u v,_:=fun u v=>@mF prog 20 u v .nilIface (.tmp 5) y3;have hs:F2 (.agg #[.int .i64 e])=some (.agg [.v (.int .i64 e)]):=rfl;simp only[go_sem,pvs,↓hb,hs,fi,rz,c2P,zs8];refine bR (ctx:=[]) mixed ⟨[],[(3,[0]),(4,[1])],[(1,[0]),(2,[0])]⟩ (by kernel_rfl) ?_;simp only[go_sem];exact zI hr ⟨rfl,rfl⟩
 ·rintro u ρ al a w1 ⟨h',hw,hq⟩ H2;obtain⟨ρ',al',H3⟩:=hw _ B w ρ al a w1 (by rw[hpl];rfl) H2;exact hret _ ρ' al' a w1 hq H3
def uK:ao prog 19:=VD _ _ (fun _ _=>by go_simp) bu (fun _=>True) mC (by rw[ntmps19];decide) fun s _=>Dv s
theorem nu {id:Nat}{h:ai}{args:List AV}:uK.run id h args=iV (eg bu fun _=>True) mC h args:=rfl
theorem nt {h:ai}{id:Nat}{args:List AV}:uK.pan id h args=iR (eg bu fun _=>True) mC h args:=rfl
end
end Go.Proofs.YtnhbidpdadkcjaaGreatDoor
