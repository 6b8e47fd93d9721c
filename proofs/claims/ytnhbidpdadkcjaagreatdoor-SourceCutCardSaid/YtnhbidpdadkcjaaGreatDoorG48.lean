import Derived.Test.YtnhbidpdadkcjaaGreatDoorG46
import Derived.Test.YtnhbidpdadkcjaaGreatDoorG45
import Derived.Test.YtnhbidpdadkcjaaGreatDoorG41
open Go.RowKit
set_option linter.unusedVariables false
set_option linter.unusedSimpArgs false
set_option maxRecDepth 100000
set_option maxHeartbeats 8000000
open List (map_map)
namespace Go.Proofs.YtnhbidpdadkcjaaGreatDoor
open Tryz
section
open Ex (Xs xs0)
abbrev nlC:LV:=.v (.slice none 0 0)
def zs8:List LV:=[nlC,.v (.int .i64 0),.v (.string emp),nlC,nlC,.v (.int .i64 0),nlC,nlC]
def stL (r:StV)(lb nb vb bb:Nat):List LV:=[.sl lb 0 r.labels.length,.v (.int .i64 r.kind),.v (.string r.name),.d (.sd 15 (r.opers.map opR.enc)),.sl nb 0 r.names.length,.v (.int .i64 r.size),.sl vb 0 r.vals.length,.sl bb 0 r.bytes.length]
def c2P (xs:List LV)(c:Int):List Blk:=[⟨true,41,8,[xs]⟩,⟨true,27,1,[[.v (.int .i64 c)]]⟩]
structure yM (s:St)(xs:List LV)(c:Int):Prop where
 h0:ac s.h 0=some ⟨true,41,8,[xs]⟩
 h1:ac s.h 1=some ⟨true,27,1,[[.v (.int .i64 c)]]⟩
def PM (s:St):Prop:=bI s.t 2=pv 0 0 0∧bI s.t 3=pv 1 0 0
structure SD (s:St)(r:StV)(lb nb vb bb:Nat):Prop where
 cells:yM s (stL r lb nb vb bb) 0
 l2:2≤lb∧2≤nb∧2≤vb∧2≤bb
 b1:ac s.h lb=some (stK r.labels)
 b2:ac s.h nb=some (stK r.names)
 b3:ac s.h vb=some (vlK r.vals)
 b4:ac s.h bb=some (byK r.bytes)
theorem wW {s:ByteArray}{ts:List Tok}{n:Nat}(h:eF (aa s)=(ts,n,0)):∀t∈ts,t.text.size≤1000000:=by
 unfold eF at h;split at h
 ·cases h
 ·rename_i hz;have hr:∀z∈aa s,0≤z∧z≤255:=fun z hz=>fx hz;have h2:=po hr (by omega) ts 0 n 0 (Nat.zero_le _) (by rw[List.drop_zero];exact h)
  have key:∀(ts:List Tok) (p:Nat),Rises (aa s).length p ts→∀t∈ts,t.text.size≤1000000:=by
   intro ts
   induction ts with
   |nil=>intro p _ t ht;cases ht
   |cons u ts ih =>
    rintro p ⟨⟨hc,hsz⟩,a,-,-,-,hrest⟩ t ht;rcases List.mem_cons.1 ht with rfl | ht
    ·omega
    ·exact ih _ hrest t ht
  exact key ts 0 h2
theorem lV {p:Tok→Prop}:∀{N:Nat} {out ls:List ByteArray} {l r:List Tok},(∀t∈l,p t)→bm N out l=.ok (ls,r)→∀t∈r,p t
 |0,out,ls,l,r,h,e=>by
  injection e with e;injection e with e1 e2;subst e2;exact h
 |N+1,out,ls,l,r,h,e=>by
  unfold bm at e;split at e
  ·split at e
   ·cases e
   ·split at e
    ·cases e
    ·exact lV (fun t ht=>h t (List.mem_of_mem_drop ht)) e
  ·injection e with e;injection e with e1 e2;subst e2;exact h
theorem BA {p:Tok→Prop}{k e:Int}{t:ByteArray}{l r:List Tok}(h:∀t∈l,p t)(hn:aL k e l=.ok (t,r)):∀t∈r,p t:=by
 unfold aL at hn;split at hn
 ·injection hn with hn;injection hn with h1 h2;subst h2;exact fun t ht=>h t (List.mem_of_mem_drop ht)
 ·cases hn
def Ir (l:List Tok):PsV:=⟨l,st0⟩
def PJ (s:ByteArray)(u:St):Prop:=PM u∧((∃r lb nb vb bb,eh (aa s)=.ok r∧SD u r lb nb vb bb)∨∃e,eh (aa s)=.error e∧yM u zs8 e)
def PI (s:ByteArray)(x:Value)(u:St):Prop:=PM u∧∃e,eh (aa s)=.error e∧x=dE e∧yM u zs8 0
def PN:Code→Code
 |.seq _ (.seq _ c)=>c
 |c=>c
theorem zY (s:ByteArray):SW prog ⟨none,2⟩ f19.ntmps (PN (f19.body.getD .skip)) ⟨2,[(0,aT.enc s),(2,pv 0 0 0),(3,pv 1 0 0)],aC 0 (c2P zs8 0)⟩ (mX (PJ s) (PI s)):=by
 rw[ntmps19];simp only[f19,Option.getD_some,PN];rcases hL:eF (aa s) with ⟨ts,n,e⟩;by_cases he:e=0
 case neg =>
  have hS:eh (aa s)=.error e:=by unfold eh;rw[hL];exact if_neg he
  refine aw [⟨_,Ly.lexS⟩] ?_;simp only[go_sem,c2P,zs8,hL,Kt,BC,he];refine bu (ctx:=[]) mixed ⟨[],[(2,[0]),(3,[1])],[(1,[0])]⟩ (by kernel_rfl) ?_;simp only[go_sem,c2P];exact⟨⟨rfl,rfl⟩,.inr ⟨e,hS,⟨rfl,rfl⟩⟩⟩
 subst he;have hS:eh (aa s)=lW ts:=by unfold eh;rw[hL];exact if_pos rfl
 refine zZ (jh (ctx:=[⟨_,Ly.lexS⟩]) 4000 ?_);simp only[go_sem,c2P,zs8,hL,Kt,uh];refine zZ (jh (ctx:=[]) 4000 ?_);simp only[go_sem];refine zZ (jh (ctx:=[]) 4000 ?_);simp only[go_sem]
 refine SW.wk (s':=⟨246,[(6,pv 210 0 0),(2,pv 0 0 0),(3,pv 1 0 0)],(210,some (psK (Ir ts) 242 243 244 245))::(242,some (stK (Ir ts).s.labels))::(243,some (stK (Ir ts).s.names))::(244,some (vlK (Ir ts).s.vals))::(245,some (byK (Ir ts).s.bytes))::aC 0 (c2P zs8 0)⟩) ?_
  ((Wk.deepC 210 4 15 rfl rfl rfl).trans ((Wk.nilC 210 1 9 1 rfl rfl rfl).trans ((Wk.nilC 210 5 9 1 rfl rfl rfl).trans ((Wk.nilC 210 7 75 3 rfl rfl rfl).trans ((Wk.nilC 210 8 5 1 rfl rfl rfl).trans (Wk.sub (Nat.le_refl _) rfl rfl))))))
 have hR:=DU hL;have hT:=wW hL;obtain⟨p0,hp0⟩:∃p0,p0=Ir ts:=⟨_,rfl⟩;have hq:(RdOk p0.l∧p0.s.labels=[])=True:=eq_true (by rw[hp0];exact⟨hR,rfl⟩);rw[←hp0];rcases hl:bm ts.length [] ts with x | ⟨ls,l⟩
 ·have hP:eh (aa s)=.error x:=by rw[hS];unfold lW;rw[hl]
  have hl':vI p0.s (bm p0.l.length [] p0.l)=.error x:=by rw[hp0];show vI st0 (bm ts.length [] ts)=_;rw[hl];rfl
  refine aw [⟨_,jM⟩] ?_;simp only[go_sem,c2P,hl',hq];exact⟨⟨rfl,rfl⟩,x,hP,rfl,⟨rfl,rfl⟩⟩
 obtain⟨p1,hp1⟩:∃p1:PsV,p1=⟨l,{ st0 with labels:=ls }⟩:=⟨_,rfl⟩;have hl':vI p0.s (bm p0.l.length [] p0.l)=.ok (im,p1):=by rw[hp0,hp1];show vI st0 (bm ts.length [] ts)=_;rw[hl];rfl
 have hrl:=(ni hR (by simp) hl).1;have hsm:=lV hT hl
 have hX:eh (aa s)=if l=[] then .ok { st0 with labels:=ls } else match lF ⟨l,{ st0 with labels:=ls }⟩ with
  |.error e=>.error e
  |.ok p=>.ok p.s:=by rw[hS];unfold lW;rw[hl];rfl
 by_cases hnil:l=[]
 ·have hP:eh (aa s)=.ok p1.s:=by rw[hX,if_pos hnil,hp1]
  have hlen:((p1.l.length:Int)=0)=True:=eq_true (by rw[hp1];show(l.length:Int)=0;rw[hnil];rfl);refine aw [⟨_,jM⟩] ?_;simp only[go_sem,c2P,hl',hq,hlen];exact⟨⟨rfl,rfl⟩,.inl ⟨p1.s,_,_,_,_,hP,⟨⟨rfl,rfl⟩,by decide,rfl,rfl,rfl,rfl⟩⟩⟩
 have hlen:¬(p1.l.length:Int)=0:=by rw[hp1];show ¬(l.length:Int)=0;have:=List.length_pos_iff.2 hnil;omega
 rw[if_neg hnil,←hp1]at hX;have hp1l:p1.l=l:=by rw[hp1]
 rcases hn:aL 1 110 p1.l with x | ⟨name,l1⟩
 ·have hP:eh (aa s)=.error x:=by rw[hX];unfold lF;rw[hn]
  have hn':ij 1 110 p1=.error x:=by unfold ij;rw[hn]
  refine aw [⟨_,jM⟩,⟨_,kU⟩] ?_;simp only[go_sem,c2P,hl',hq,hlen,hn'];exact⟨⟨rfl,rfl⟩,x,hP,rfl,⟨rfl,rfl⟩⟩
 obtain⟨p2,hp2⟩:∃p2:PsV,p2=⟨l1,p1.s⟩:=⟨_,rfl⟩;have hn':ij 1 110 p1=.ok (sv name,p2):=by unfold ij;rw[hn,hp2]
 have hn2:RdOk l1:=(oN (by rw[hp1l];exact hrl) hn).1;have hsm2:=BA (by rw[hp1l];exact hsm) hn
 have hD:DirOk p2:=by
  rw[hp2,hp1];exact⟨⟨hn2,Nat.le_refl _,Nat.le_refl _,fun v hv=>by cases hv⟩,hsm2⟩
 by_cases hdot:name=sx
 ·have hP:eh (aa s)=.error 110:=by rw[hX];unfold lF;rw[hn];simp only[if_pos hdot]
  have hdot':name=(⟨#[46]⟩:ByteArray):=hdot;refine aw [⟨_,jM⟩,⟨_,kU⟩,⟨_,dG⟩] ?_;simp only[go_sem,c2P,hl',hq,hlen,hn',eq_true hdot'];exact⟨⟨rfl,rfl⟩,110,hP,rfl,⟨rfl,rfl⟩⟩
 have hdot':¬name=(⟨#[46]⟩:ByteArray):=hdot;cases hpf:bY name sx with
 |true =>
  have hpf':bY name (⟨#[46]⟩:ByteArray)=true:=hpf;rcases hd:Dz name p2 with x | q
  ·have hP:eh (aa s)=.error x:=by rw[hX];unfold lF;rw[hn];simp only[if_neg hdot,hpf,if_true];rw[←hp2,hd]
   refine aw [⟨_,jM⟩,⟨_,kU⟩,⟨_,vA⟩,⟨_,PB⟩] ?_;simp only[go_sem,c2P,hl',hq,hlen,hn',hdot',hpf',hD,hd,ah];exact⟨⟨rfl,rfl⟩,x,hP,rfl,⟨rfl,rfl⟩⟩
  ·have hP:eh (aa s)=.ok q.s:=by rw[hX];unfold lF;rw[hn];simp only[if_neg hdot,hpf,if_true];rw[←hp2,hd]
   refine aw [⟨_,jM⟩,⟨_,kU⟩,⟨_,vA⟩,⟨_,PB⟩] ?_;simp only[go_sem,c2P,hl',hq,hlen,hn',hdot',hpf',hD,hd,az];exact⟨⟨rfl,rfl⟩,.inl ⟨q.s,_,_,_,_,hP,⟨⟨rfl,rfl⟩,by decide,rfl,rfl,rfl,rfl⟩⟩⟩
 |false =>
  have hpf':bY name (⟨#[46]⟩:ByteArray)=false:=hpf;have hn3:RdOk p2.l:=by rw[hp2];exact hn2
  rcases ho:fP p2.l with x | o
  ·have hP:eh (aa s)=.error x:=by rw[hX];unfold lF;rw[hn];simp only[if_neg hdot,hpf,Bool.false_eq_true,if_false];rw[show l1=p2.l by rw[hp2],ho]
   have hne:¬x=0:=yb hn3 ho;refine aw [⟨_,jM⟩,⟨_,kU⟩,⟨_,vA⟩,⟨_,FC⟩,⟨_,dG⟩] ?_;simp only[go_sem,c2P,hl',hq,hlen,hn',hdot',hpf',Bm,Bl,kp,hn3,ho,hne];exact⟨⟨rfl,rfl⟩,x,hP,rfl,⟨rfl,rfl⟩⟩
  ·have hP:eh (aa s)=.ok { p2.s with kind:=1,name:=name,opers:=o }:=by rw[hX];unfold lF;rw[hn];simp only[if_neg hdot,hpf,Bool.false_eq_true,if_false];rw[show l1=p2.l by rw[hp2],ho,hp2]
   refine aw [⟨_,jM⟩,⟨_,kU⟩,⟨_,vA⟩,⟨_,FC⟩,⟨_,dG⟩] ?_;simp only[go_sem,c2P,hl',hq,hlen,hn',hdot',hpf',Bm,Bl,kp,hn3,ho];exact⟨⟨rfl,rfl⟩,.inl ⟨{ p2.s with kind:=1,name:=name,opers:=o },_,_,_,_,hP,⟨⟨rfl,rfl⟩,by decide,rfl,rfl,rfl,rfl⟩⟩⟩
end
section
open Ex (Xs xs0)
theorem wA {h:ag}{f:Nat}(l:List ByteArray):cZ (cZ (LV.toD h f)) (l.map uq)=some (True,[],l.map jr.enc):=by
 have e:l.map uq=(l.map jr.enc).map bp:=by rw[map_map];rfl
 rw[e];exact gl
theorem Cm {h:ag}{f:Nat}(l:List Val):cZ (cZ (LV.toD h f)) (l.map sf)=some (True,[],l.map nZ.enc):=by
 have e:l.map sf=(l.map nZ.enc).map bp:=by rw[map_map];rfl
 rw[e];exact gl
theorem Cj {h:ag}{f:Nat}(l:List Int):cZ (cZ (LV.toD h f)) (l.map xf)=some (True,[],l.map (gE .u8).enc):=by
 have e:l.map xf=(l.map (gE .u8).enc).map bp:=by rw[map_map];rfl
 rw[e];exact gl
def rsP:cK:=[(2,pv 0 0 0),(3,pv 1 0 0)]
def zI (s:ByteArray)(u:St):Prop:=∃h',Wk ⟨none,0⟩ ⟨u.nx,rsP,u.h⟩ ⟨u.nx,rsP,h'⟩∧xv h' (oV s) (kf prog f19.results.toList ⟨u.nx,rsP,h'⟩)
theorem wn {s:ByteArray}{u:St}{e:Int}(hS:eh (aa s)=.error e)(hc:yM u zs8 e):zI s u:=by
 let k:Blk:=⟨true,41,8,[zs8]⟩
 refine⟨_,(Wk.deepC (ro:=⟨none,0⟩) (s:=⟨u.nx,rsP,u.h⟩) 0 0 1 (k:=k) (xs:=zs8) hc.h0 rfl rfl).trans ((Wk.deepC 0 3 15 rfl rfl rfl).trans ((Wk.deepC 0 4 1 rfl rfl rfl).trans ((Wk.deepC 0 6 3 rfl rfl rfl).trans (Wk.deepC 0 7 1 rfl rfl rfl)))),?_⟩;rw[results19];simp only[go_sem,k,zs8,rsP,hc.h1,oV,hS,cz,st0]
theorem LB {s:ByteArray}{u:St}{r:StV}{lb nb vb bb:Nat}(hS:eh (aa s)=.ok r)(hc:SD u r lb nb vb bb):zI s u:=by
 refine⟨u.h,Wk.refl _ _,?_⟩;rw[results19]
 have m1:cZ (cZ (LV.toD u.h 3)) ((stK r.labels).els.take r.labels.length)=some (True,[],r.labels.map jr.enc):=by
  rw[List.take_of_length_le (by simp[stK])];exact wA _
 have m2:cZ (cZ (LV.toD u.h 3)) ((stK r.names).els.take r.names.length)=some (True,[],r.names.map jr.enc):=by
  rw[List.take_of_length_le (by simp[stK])];exact wA _
 have m3:cZ (cZ (LV.toD u.h 3)) ((vlK r.vals).els.take r.vals.length)=some (True,[],r.vals.map nZ.enc):=by
  rw[List.take_of_length_le (by simp[vlK])];exact Cm _
 have m4:cZ (cZ (LV.toD u.h 3)) ((byK r.bytes).els.take r.bytes.length)=some (True,[],r.bytes.map (gE .u8).enc):=by
  rw[List.take_of_length_le (by simp[byK])];exact Cj _
 have o1:∀l,(stK l).own=true∧(stK l).sz=1∧l.length≤(stK l).els.length:=fun l=>⟨rfl,rfl,by simp[stK]⟩;have o2:∀l,(vlK l).own=true∧(vlK l).sz=3∧l.length≤(vlK l).els.length:=fun l=>⟨rfl,rfl,by simp[vlK]⟩;have o3:∀l,(byK l).own=true∧(byK l).sz=1∧l.length≤(byK l).els.length:=fun l=>⟨rfl,rfl,by simp[byK]⟩;simp only[go_sem,rsP,stL,hc.cells.h0,hc.cells.h1,hc.b1,hc.b2,hc.b3,hc.b4,oV,hS,cz,m1,m2,m3,m4,o1,o2,o3,wA,Cm,Cj]
theorem zX (s:ByteArray):Jj prog 19 f19 ⟨0,ax 0 [aT.enc s],[]⟩ (oV s):=by
 intro B w ρ al vals R hpl hds H hret _
 refine oj (K:=2) (js:=[0,1]) (cells:=[(2,0),(3,1)]) (s1:=⟨2,[(0,aT.enc s),(2,pv 0 0 0),(3,pv 1 0 0)],aC 0 (c2P zs8 0)⟩)
  (post:=PJ s) (pp:=PI s) (post2:=zI s)
  func19 rfl func42 rfl rfl rfl rfl rfl (by decide) (by decide) (by decide) (by decide) hpl hds H ?_
  (rD rfl rfl rfl rfl rfl rfl (by decide) (fun _ _=>by go_simp) rfl) ?_ ?_ ?_ ?_ ?_ ?_ ?_
 ·refine aw [] ?_;rw[ntmps19];simp only[go_sem];exact Wk.renL [0,16] (by simp) (by simp) (by decide) rfl rfl
 ·intro j hj
  match j,hj with
  |0,_=>exact⟨_,rfl⟩
  |1,_=>exact⟨_,rfl⟩
 ·refine SW.wk (s':=⟨2,[(0,aT.enc s),(2,pv 0 0 0),(3,pv 1 0 0)],aC 0 (c2P zs8 0)⟩) (zY s) (Wk.sub (Nat.le_refl _) rfl rfl)
 ·rintro u ⟨⟨e1,e2⟩,_⟩ p hp;simp only[List.mem_cons,List.not_mem_nil,or_false]at hp;rcases hp with rfl | rfl
  ·exact e1
  ·exact e2
 ·rintro x u ⟨⟨e1,e2⟩,_⟩ p hp;simp only[List.mem_cons,List.not_mem_nil,or_false]at hp;rcases hp with rfl | rfl
  ·exact e1
  ·exact e2
 ·rintro u ⟨-,h⟩
  have hpost:∀v:St,v.h=u.h→zI s v:=by
   intro v hv;rcases h with ⟨r,lb,nb,vb,bb,hS,hc⟩ | ⟨e,hS,hc⟩
   ·exact LB hS ⟨⟨by rw[hv];exact hc.cells.h0,by rw[hv];exact hc.cells.h1⟩,hc.l2,by rw[hv];exact hc.b1,by rw[hv];exact hc.b2,by rw[hv];exact hc.b3,by rw[hv];exact hc.b4⟩
   ·exact wn hS ⟨by rw[hv];exact hc.h0,by rw[hv];exact hc.h1⟩
  refine SW.mono (Q:=mX (fun v=>v.h=u.h∧v.nx=u.nx+32) fun _ _=>False) ?_ ?_
  ·refine aw [] ?_;rw[ntmps42];have hb:=@ny prog 20 .nilIface (.tmp 5) vH;simp only[go_sem,pvs,↓hb]
  ·intro e v hv;cases e with
   |normal=>exact hpost v hv.1
   |ret=>exact hpost v hv.1
   |panic c=>obtain⟨x,-,h⟩:=hv;exact h.elim
   |exit j=>exact hv.elim
   |goto j=>exact hv.elim
   |outgrown=>exact hv.elim
 ·rintro x u ⟨-,e,hr,rfl,hc⟩
  have hwk:Wk ⟨none,2⟩ ⟨u.nx,(5,.s (.l (.v (dE e))))::ax 0 (pvs [0,1]),u.h⟩ ⟨2,(5,.s (.l (.v (dE e))))::ax 0 (pvs [0,1]),aC 0 (c2P zs8 0)⟩:=by
   refine Wk.renL [0,1] (by decide) (Nat.le_refl 2) (by decide) rfl ?_;simp only[c2P,aC,List.map_cons,List.map_nil,List.getD_eq_getElem?_getD,List.getElem?_cons_zero,List.getElem?_cons_succ,Option.getD_some,hc.h0,hc.h1];rfl
  refine SW.wk ?_ hwk;refine aw [] ?_;rw[ntmps42];have hb:∀u v,_:=fun u v=>@kZ prog 20 u v .nilIface (.tmp 5) vH;have hs:CD (.agg #[.int .i64 e])=some (.agg [.v (.int .i64 e)]):=rfl;simp only[go_sem,pvs,↓hb,hs,dE,pw,c2P,zs8];refine bu (ctx:=[]) mixed ⟨[],[(3,[0]),(4,[1])],[(1,[0]),(2,[0])]⟩ (by kernel_rfl) ?_;simp only[go_sem];exact wn hr ⟨rfl,rfl⟩
 ·rintro u ρ al a w1 ⟨h',hw,hq⟩ H2;obtain⟨ρ',al',H3⟩:=hw _ B w ρ al a w1 (by rw[hpl];rfl) H2;exact hret _ ρ' al' a w1 hq H3
def r5:am prog 19:=QA _ _ (fun _ _=>by go_simp) aT (fun _=>True) oV (by rw[ntmps19];decide) fun s _=>zX s
theorem fY {id:Nat}{h:ag}{args:List AV}:r5.run id h args=fT (cE aT fun _=>True) oV h args:=rfl
theorem fX {h:ag}{id:Nat}{args:List AV}:r5.pan id h args=gh (cE aT fun _=>True) oV h args:=rfl
end
end Go.Proofs.YtnhbidpdadkcjaaGreatDoor
