import Derived.Test.YtnhbidpdadkcjaaGreatDoorR46
import Derived.Test.YtnhbidpdadkcjaaGreatDoorR45
import Derived.Test.YtnhbidpdadkcjaaGreatDoorR41
open Go.RowKit
set_option linter.unusedVariables false
set_option linter.unusedSimpArgs false
set_option maxRecDepth 100000
set_option maxHeartbeats 8000000
open List (map_map)
namespace Go.Proofs.YtnhbidpdadkcjaaGreatDoor
open Tryz
section
open Ex (Xs xs0)
abbrev nlC:LV:=.v (.slice none 0 0)
def zs8:List LV:=[nlC,.v (.int .i64 0),.v (.string emp),nlC,nlC,.v (.int .i64 0),nlC,nlC]
def stL (r:StV)(lb nb vb bb:Nat):List LV:=[.sl lb 0 r.labels.length,.v (.int .i64 r.kind),.v (.string r.name),.d (.sd 15 (r.opers.map opR.enc)),.sl nb 0 r.names.length,.v (.int .i64 r.size),.sl vb 0 r.vals.length,.sl bb 0 r.bytes.length]
def c2P (xs:List LV)(c:Int):List Blk:=[⟨true,41,8,[xs]⟩,⟨true,27,1,[[.v (.int .i64 c)]]⟩]
structure Co (s:St)(xs:List LV)(c:Int):Prop where
 h0:hget s.h 0=some ⟨true,41,8,[xs]⟩
 h1:hget s.h 1=some ⟨true,27,1,[[.v (.int .i64 c)]]⟩
def UV (s:St):Prop:=bR s.t 2=pv 0 0 0∧bR s.t 3=pv 1 0 0
structure Xx (s:St)(r:StV)(lb nb vb bb:Nat):Prop where
 cells:Co s (stL r lb nb vb bb) 0
 l2:2≤lb∧2≤nb∧2≤vb∧2≤bb
 b1:hget s.h lb=some (stK r.labels)
 b2:hget s.h nb=some (stK r.names)
 b3:hget s.h vb=some (vlK r.vals)
 b4:hget s.h bb=some (byK r.bytes)
theorem Jc {s:ByteArray}{ts:List Tok}{n:Nat}(h:gB (aa s)=(ts,n,0)):∀t∈ts,t.text.size≤1000000:=by
 unfold gB at h;split at h
 ·cases h
 ·rename_i hz;have hr:∀z∈aa s,0≤z∧z≤255:=fun z hz=>jc hz;have h2:=rb hr (by omega) ts 0 n 0 (Nat.zero_le _) (by rw[List.drop_zero];exact h)
  have key:∀(ts:List Tok) (p:Nat),Rises (aa s).length p ts→∀t∈ts,t.text.size≤1000000:=by
   intro ts
   induction ts with
   |nil=>intro p _ t ht;cases ht
   |cons u ts ih =>
    rintro p ⟨⟨hc,hsz⟩,a,-,-,-,hrest⟩ t ht;rcases List.mem_cons.1 ht with rfl | ht
    ·omega
    ·exact ih _ hrest t ht
  exact key ts 0 h2
theorem r7 {p:Tok→Prop}:∀{N:Nat} {out ls:List ByteArray} {l r:List Tok},(∀t∈l,p t)→labelsF N out l=.ok (ls,r)→∀t∈r,p t
 |0,out,ls,l,r,h,e=>by
  injection e with e;injection e with e1 e2;subst e2;exact h
 |N+1,out,ls,l,r,h,e=>by
  unfold labelsF at e;split at e
  ·split at e
   ·cases e
   ·split at e
    ·cases e
    ·exact r7 (fun t ht=>h t (List.mem_of_mem_drop ht)) e
  ·injection e with e;injection e with e1 e2;subst e2;exact h
theorem Fd {p:Tok→Prop}{k e:Int}{t:ByteArray}{l r:List Tok}(h:∀t∈l,p t)(hn:nextF k e l=.ok (t,r)):∀t∈r,p t:=by
 unfold nextF at hn;split at hn
 ·injection hn with hn;injection hn with h1 h2;subst h2;exact fun t ht=>h t (List.mem_of_mem_drop ht)
 ·cases hn
def Mo (l:List Tok):PsV:=⟨l,st0⟩
def US (s:ByteArray)(u:St):Prop:=UV u∧((∃r lb nb vb bb,gl (aa s)=.ok r∧Xx u r lb nb vb bb)∨∃e,gl (aa s)=.error e∧Co u zs8 e)
def UR (s:ByteArray)(x:Value)(u:St):Prop:=UV u∧∃e,gl (aa s)=.error e∧x=fe e∧Co u zs8 0
def UW:Code→Code
 |.seq _ (.seq _ c)=>c
 |c=>c
theorem DG (s:ByteArray):SW prog ⟨none,2⟩ f19.ntmps (UW (f19.body.getD .skip)) ⟨2,[(0,bw.enc s),(2,pv 0 0 0),(3,pv 1 0 0)],aL 0 (c2P zs8 0)⟩ (rR (US s) (UR s)):=by
 rw[ntmps19];simp only[f19,Option.getD_some,UW];rcases hL:gB (aa s) with ⟨ts,n,e⟩;by_cases he:e=0
 case neg =>
  have hS:gl (aa s)=.error e:=by unfold gl;rw[hL];exact if_neg he
  refine aw [⟨_,Ly.lexS⟩] ?_;simp only[go_sem,c2P,zs8,hL,ON,Ff,he];refine bT (ctx:=[]) mixed ⟨[],[(2,[0]),(3,[1])],[(1,[0])]⟩ (by kernel_rfl) ?_;simp only[go_sem,c2P];exact⟨⟨rfl,rfl⟩,.inr ⟨e,hS,⟨rfl,rfl⟩⟩⟩
 subst he;have hS:gl (aa s)=qN ts:=by unfold gl;rw[hL];exact if_pos rfl
 refine iB (bh (ctx:=[⟨_,Ly.lexS⟩]) 4000 ?_);simp only[go_sem,c2P,zs8,hL,ON,wV];refine iB (bh (ctx:=[]) 4000 ?_);simp only[go_sem];refine iB (bh (ctx:=[]) 4000 ?_);simp only[go_sem]
 refine SW.wk (s':=⟨246,[(6,pv 210 0 0),(2,pv 0 0 0),(3,pv 1 0 0)],(210,some (psK (Mo ts) 242 243 244 245))::(242,some (stK (Mo ts).s.labels))::(243,some (stK (Mo ts).s.names))::(244,some (vlK (Mo ts).s.vals))::(245,some (byK (Mo ts).s.bytes))::aL 0 (c2P zs8 0)⟩) ?_
  ((Wk.deepC 210 4 15 rfl rfl rfl).trans ((Wk.nilC 210 1 9 1 rfl rfl rfl).trans ((Wk.nilC 210 5 9 1 rfl rfl rfl).trans ((Wk.nilC 210 7 75 3 rfl rfl rfl).trans ((Wk.nilC 210 8 5 1 rfl rfl rfl).trans (Wk.sub (Nat.le_refl _) rfl rfl))))))
 have hR:=VG hL;have hT:=Jc hL;obtain⟨p0,hp0⟩:∃p0,p0=Mo ts:=⟨_,rfl⟩;have hq:(RdOk p0.l∧p0.s.labels=[])=True:=eq_true (by rw[hp0];exact⟨hR,rfl⟩);rw[←hp0];rcases hl:labelsF ts.length [] ts with x | ⟨ls,l⟩
 ·have hP:gl (aa s)=.error x:=by rw[hS];unfold qN;rw[hl]
  have hl':yS p0.s (labelsF p0.l.length [] p0.l)=.error x:=by rw[hp0];show yS st0 (labelsF ts.length [] ts)=_;rw[hl];rfl
  refine aw [⟨_,lg⟩] ?_;simp only[go_sem,c2P,hl',hq];exact⟨⟨rfl,rfl⟩,x,hP,rfl,⟨rfl,rfl⟩⟩
 obtain⟨p1,hp1⟩:∃p1:PsV,p1=⟨l,{ st0 with labels:=ls }⟩:=⟨_,rfl⟩;have hl':yS p0.s (labelsF p0.l.length [] p0.l)=.ok (jF,p1):=by rw[hp0,hp1];show yS st0 (labelsF ts.length [] ts)=_;rw[hl];rfl
 have hrl:=(yT hR (by simp) hl).1;have hsm:=r7 hT hl
 have hX:gl (aa s)=if l=[] then .ok { st0 with labels:=ls } else match restR ⟨l,{ st0 with labels:=ls }⟩ with
  |.error e=>.error e
  |.ok p=>.ok p.s:=by rw[hS];unfold qN;rw[hl];rfl
 by_cases hnil:l=[]
 ·have hP:gl (aa s)=.ok p1.s:=by rw[hX,if_pos hnil,hp1]
  have hlen:((p1.l.length:Int)=0)=True:=eq_true (by rw[hp1];show(l.length:Int)=0;rw[hnil];rfl);refine aw [⟨_,lg⟩] ?_;simp only[go_sem,c2P,hl',hq,hlen];exact⟨⟨rfl,rfl⟩,.inl ⟨p1.s,_,_,_,_,hP,⟨⟨rfl,rfl⟩,by decide,rfl,rfl,rfl,rfl⟩⟩⟩
 have hlen:¬(p1.l.length:Int)=0:=by rw[hp1];show ¬(l.length:Int)=0;have:=List.length_pos_iff.2 hnil;omega
 rw[if_neg hnil,←hp1]at hX;have hp1l:p1.l=l:=by rw[hp1]
 rcases hn:nextF 1 110 p1.l with x | ⟨name,l1⟩
 ·have hP:gl (aa s)=.error x:=by rw[hX];unfold restR;rw[hn]
  have hn':jA 1 110 p1=.error x:=by unfold jA;rw[hn]
  refine aw [⟨_,lg⟩,⟨_,my⟩] ?_;simp only[go_sem,c2P,hl',hq,hlen,hn'];exact⟨⟨rfl,rfl⟩,x,hP,rfl,⟨rfl,rfl⟩⟩
 obtain⟨p2,hp2⟩:∃p2:PsV,p2=⟨l1,p1.s⟩:=⟨_,rfl⟩;have hn':jA 1 110 p1=.ok (sv name,p2):=by unfold jA;rw[hn,hp2]
 have hn2:RdOk l1:=(Fc (by rw[hp1l];exact hrl) hn).1;have hsm2:=Fd (by rw[hp1l];exact hsm) hn
 have hD:DirOk p2:=by
  rw[hp2,hp1];exact⟨⟨hn2,Nat.le_refl _,Nat.le_refl _,fun v hv=>by cases hv⟩,hsm2⟩
 by_cases hdot:name=mf
 ·have hP:gl (aa s)=.error 110:=by rw[hX];unfold restR;rw[hn];simp only[if_pos hdot]
  have hdot':name=(⟨#[46]⟩:ByteArray):=hdot;refine aw [⟨_,lg⟩,⟨_,my⟩,⟨_,fg⟩] ?_;simp only[go_sem,c2P,hl',hq,hlen,hn',eq_true hdot'];exact⟨⟨rfl,rfl⟩,110,hP,rfl,⟨rfl,rfl⟩⟩
 have hdot':¬name=(⟨#[46]⟩:ByteArray):=hdot;cases hpf:bS name mf with
 |true =>
  have hpf':bS name (⟨#[46]⟩:ByteArray)=true:=hpf;rcases hd:AB name p2 with x | q
  ·have hP:gl (aa s)=.error x:=by rw[hX];unfold restR;rw[hn];simp only[if_neg hdot,hpf,if_true];rw[←hp2,hd]
   refine aw [⟨_,lg⟩,⟨_,my⟩,⟨_,nC⟩,⟨_,UK⟩] ?_;simp only[go_sem,c2P,hl',hq,hlen,hn',hdot',hpf',hD,hd,ak];exact⟨⟨rfl,rfl⟩,x,hP,rfl,⟨rfl,rfl⟩⟩
  ·have hP:gl (aa s)=.ok q.s:=by rw[hX];unfold restR;rw[hn];simp only[if_neg hdot,hpf,if_true];rw[←hp2,hd]
   refine aw [⟨_,lg⟩,⟨_,my⟩,⟨_,nC⟩,⟨_,UK⟩] ?_;simp only[go_sem,c2P,hl',hq,hlen,hn',hdot',hpf',hD,hd,aE];exact⟨⟨rfl,rfl⟩,.inl ⟨q.s,_,_,_,_,hP,⟨⟨rfl,rfl⟩,by decide,rfl,rfl,rfl,rfl⟩⟩⟩
 |false =>
  have hpf':bS name (⟨#[46]⟩:ByteArray)=false:=hpf;have hn3:RdOk p2.l:=by rw[hp2];exact hn2
  rcases ho:listF p2.l with x | o
  ·have hP:gl (aa s)=.error x:=by rw[hX];unfold restR;rw[hn];simp only[if_neg hdot,hpf,Bool.false_eq_true,if_false];rw[show l1=p2.l by rw[hp2],ho]
   have hne:¬x=0:=LA hn3 ho;refine aw [⟨_,lg⟩,⟨_,my⟩,⟨_,nC⟩,⟨_,JU⟩,⟨_,fg⟩] ?_;simp only[go_sem,c2P,hl',hq,hlen,hn',hdot',hpf',EY,EX,lQ,hn3,ho,hne];exact⟨⟨rfl,rfl⟩,x,hP,rfl,⟨rfl,rfl⟩⟩
  ·have hP:gl (aa s)=.ok { p2.s with kind:=1,name:=name,opers:=o }:=by rw[hX];unfold restR;rw[hn];simp only[if_neg hdot,hpf,Bool.false_eq_true,if_false];rw[show l1=p2.l by rw[hp2],ho,hp2]
   refine aw [⟨_,lg⟩,⟨_,my⟩,⟨_,nC⟩,⟨_,JU⟩,⟨_,fg⟩] ?_;simp only[go_sem,c2P,hl',hq,hlen,hn',hdot',hpf',EY,EX,lQ,hn3,ho];exact⟨⟨rfl,rfl⟩,.inl ⟨{ p2.s with kind:=1,name:=name,opers:=o },_,_,_,_,hP,⟨⟨rfl,rfl⟩,by decide,rfl,rfl,rfl,rfl⟩⟩⟩
end
section
open Ex (Xs xs0)
theorem zP {h:ai}{f:Nat}(l:List ByteArray):dx (dx (LV.toD h f)) (l.map mI)=some (True,[],l.map dr.enc):=by
 have e:l.map mI=(l.map dr.enc).map bu:=by rw[map_map];rfl
 rw[e];exact gk
theorem FX {h:ai}{f:Nat}(l:List Val):dx (dx (LV.toD h f)) (l.map uI)=some (True,[],l.map kl.enc):=by
 have e:l.map uI=(l.map kl.enc).map bu:=by rw[map_map];rfl
 rw[e];exact gk
theorem FW {h:ai}{f:Nat}(l:List Int):dx (dx (LV.toD h f)) (l.map Az)=some (True,[],l.map (fU .u8).enc):=by
 have e:l.map Az=(l.map (fU .u8).enc).map bu:=by rw[map_map];rfl
 rw[e];exact gk
def rsP:dM:=[(2,pv 0 0 0),(3,pv 1 0 0)]
def Do (s:ByteArray)(u:St):Prop:=∃h',Wk ⟨none,0⟩ ⟨u.nx,rsP,u.h⟩ ⟨u.nx,rsP,h'⟩∧AP h' (qJ s) (np prog f19.results.toList ⟨u.nx,rsP,h'⟩)
theorem zE {s:ByteArray}{u:St}{e:Int}(hS:gl (aa s)=.error e)(hc:Co u zs8 e):Do s u:=by
 let k:Blk:=⟨true,41,8,[zs8]⟩
 refine⟨_,(Wk.deepC (ro:=⟨none,0⟩) (s:=⟨u.nx,rsP,u.h⟩) 0 0 1 (k:=k) (xs:=zs8) hc.h0 rfl rfl).trans ((Wk.deepC 0 3 15 rfl rfl rfl).trans ((Wk.deepC 0 4 1 rfl rfl rfl).trans ((Wk.deepC 0 6 3 rfl rfl rfl).trans (Wk.deepC 0 7 1 rfl rfl rfl)))),?_⟩;rw[results19];simp only[go_sem,k,zs8,rsP,hc.h1,qJ,hS,aR,st0]
theorem PV {s:ByteArray}{u:St}{r:StV}{lb nb vb bb:Nat}(hS:gl (aa s)=.ok r)(hc:Xx u r lb nb vb bb):Do s u:=by
 refine⟨u.h,Wk.refl _ _,?_⟩;rw[results19]
 have m1:dx (dx (LV.toD u.h 3)) ((stK r.labels).els.take r.labels.length)=some (True,[],r.labels.map dr.enc):=by
  rw[List.take_of_length_le (by simp[stK])];exact zP _
 have m2:dx (dx (LV.toD u.h 3)) ((stK r.names).els.take r.names.length)=some (True,[],r.names.map dr.enc):=by
  rw[List.take_of_length_le (by simp[stK])];exact zP _
 have m3:dx (dx (LV.toD u.h 3)) ((vlK r.vals).els.take r.vals.length)=some (True,[],r.vals.map kl.enc):=by
  rw[List.take_of_length_le (by simp[vlK])];exact FX _
 have m4:dx (dx (LV.toD u.h 3)) ((byK r.bytes).els.take r.bytes.length)=some (True,[],r.bytes.map (fU .u8).enc):=by
  rw[List.take_of_length_le (by simp[byK])];exact FW _
 have o1:∀l,(stK l).own=true∧(stK l).sz=1∧l.length≤(stK l).els.length:=fun l=>⟨rfl,rfl,by simp[stK]⟩;have o2:∀l,(vlK l).own=true∧(vlK l).sz=3∧l.length≤(vlK l).els.length:=fun l=>⟨rfl,rfl,by simp[vlK]⟩;have o3:∀l,(byK l).own=true∧(byK l).sz=1∧l.length≤(byK l).els.length:=fun l=>⟨rfl,rfl,by simp[byK]⟩;simp only[go_sem,rsP,stL,hc.cells.h0,hc.cells.h1,hc.b1,hc.b2,hc.b3,hc.b4,qJ,hS,aR,m1,m2,m3,m4,o1,o2,o3,zP,FX,FW]
theorem DF (s:ByteArray):Nt prog 19 f19 ⟨0,aB 0 [bw.enc s],[]⟩ (qJ s):=by
 intro B w ρ al vals R hpl hds H hret _
 refine qh (K:=2) (js:=[0,1]) (cells:=[(2,0),(3,1)]) (s1:=⟨2,[(0,bw.enc s),(2,pv 0 0 0),(3,pv 1 0 0)],aL 0 (c2P zs8 0)⟩)
  (post:=US s) (pp:=UR s) (post2:=Do s)
  func19 rfl func42 rfl rfl rfl rfl rfl (by decide) (by decide) (by decide) (by decide) hpl hds H ?_
  (tX rfl rfl rfl rfl rfl rfl (by decide) (fun _ _=>by go_simp) rfl) ?_ ?_ ?_ ?_ ?_ ?_ ?_
 ·refine aw [] ?_;rw[ntmps19];simp only[go_sem];exact Wk.renL [0,16] (by simp) (by simp) (by decide) rfl rfl
 ·intro j hj
  match j,hj with
  |0,_=>exact⟨_,rfl⟩
  |1,_=>exact⟨_,rfl⟩
 ·refine SW.wk (s':=⟨2,[(0,bw.enc s),(2,pv 0 0 0),(3,pv 1 0 0)],aL 0 (c2P zs8 0)⟩) (DG s) (Wk.sub (Nat.le_refl _) rfl rfl)
 ·rintro u ⟨⟨e1,e2⟩,_⟩ p hp;simp only[List.mem_cons,List.not_mem_nil,or_false]at hp;rcases hp with rfl | rfl
  ·exact e1
  ·exact e2
 ·rintro x u ⟨⟨e1,e2⟩,_⟩ p hp;simp only[List.mem_cons,List.not_mem_nil,or_false]at hp;rcases hp with rfl | rfl
  ·exact e1
  ·exact e2
 ·rintro u ⟨-,h⟩
  have hpost:∀v:St,v.h=u.h→Do s v:=by
   intro v hv;rcases h with ⟨r,lb,nb,vb,bb,hS,hc⟩ | ⟨e,hS,hc⟩
   ·exact PV hS ⟨⟨by rw[hv];exact hc.cells.h0,by rw[hv];exact hc.cells.h1⟩,hc.l2,by rw[hv];exact hc.b1,by rw[hv];exact hc.b2,by rw[hv];exact hc.b3,by rw[hv];exact hc.b4⟩
   ·exact zE hS ⟨by rw[hv];exact hc.h0,by rw[hv];exact hc.h1⟩
  refine SW.mono (Q:=rR (fun v=>v.h=u.h∧v.nx=u.nx+32) fun _ _=>False) ?_ ?_
  ·refine aw [] ?_;rw[ntmps42];have hb:=@pD prog 20 .nilIface (.tmp 5) yR;simp only[go_sem,pvs,↓hb]
  ·intro e v hv;cases e with
   |normal=>exact hpost v hv.1
   |ret=>exact hpost v hv.1
   |panic c=>obtain⟨x,-,h⟩:=hv;exact h.elim
   |exit j=>exact hv.elim
   |goto j=>exact hv.elim
   |outgrown=>exact hv.elim
 ·rintro x u ⟨-,e,hr,rfl,hc⟩
  have hwk:Wk ⟨none,2⟩ ⟨u.nx,(5,.s (.l (.v (fe e))))::aB 0 (pvs [0,1]),u.h⟩ ⟨2,(5,.s (.l (.v (fe e))))::aB 0 (pvs [0,1]),aL 0 (c2P zs8 0)⟩:=by
   refine Wk.renL [0,1] (by decide) (Nat.le_refl 2) (by decide) rfl ?_;simp only[c2P,aL,List.map_cons,List.map_nil,List.getD_eq_getElem?_getD,List.getElem?_cons_zero,List.getElem?_cons_succ,Option.getD_some,hc.h0,hc.h1];rfl
  refine SW.wk ?_ hwk;refine aw [] ?_;rw[ntmps42];have hb:∀u v,_:=fun u v=>@mC prog 20 u v .nilIface (.tmp 5) yR;have hs:Gh (.agg #[.int .i64 e])=some (.agg [.v (.int .i64 e)]):=rfl;simp only[go_sem,pvs,↓hb,hs,fe,rh,c2P,zs8];refine bT (ctx:=[]) mixed ⟨[],[(3,[0]),(4,[1])],[(1,[0]),(2,[0])]⟩ (by kernel_rfl) ?_;simp only[go_sem];exact zE hr ⟨rfl,rfl⟩
 ·rintro u ρ al a w1 ⟨h',hw,hq⟩ H2;obtain⟨ρ',al',H3⟩:=hw _ B w ρ al a w1 (by rw[hpl];rfl) H2;exact hret _ ρ' al' a w1 hq H3
def uE:ap prog 19:=VI _ _ (fun _ _=>by go_simp) bw (fun _=>True) qJ (by rw[ntmps19];decide) fun s _=>DF s
theorem wQ {id:Nat}{h:ai}{args:List AV}:uE.run id h args=iN (dV bw fun _=>True) qJ h args:=rfl
theorem wP {h:ai}{id:Nat}{args:List AV}:uE.pan id h args=iK (dV bw fun _=>True) qJ h args:=rfl
end
end Go.Proofs.YtnhbidpdadkcjaaGreatDoor
