import Derived.Test.YtnhbidpdadkcjaaGreatDoorG30
import Derived.Test.YtnhbidpdadkcjaaGreatDoorG35
open Go.RowKit
set_option linter.unusedVariables false
set_option linter.unusedSimpArgs false
set_option maxRecDepth 100000
set_option maxHeartbeats 8000000
open Int (toNat_zero toNat_one)
namespace Go.Proofs.YtnhbidpdadkcjaaGreatDoor
open Tryz
section
open Ex (Xs xs0)
def qU (e:Int):Value:=.iface 170 (.agg #[.int .i64 e])
def rdK (l:List Tok):Blk:=⟨true,144,1,[[.d (.sd 4 (l.map jX.enc))]]⟩
def vc (h:ag):AV→Option (Nat×List Tok)
 |.s (.l (.p b 0 0))=>match ac h b with
  |some ⟨true,T,1,[[.d (.sd 4 els)]]⟩=>match dc jX.dec els with
   |some l=>if T=144 then some (b,l) else none
   |none=>none
  |_=>none
 |_=>none
theorem AI {h:ag}{A:AV}{b:Nat}{l:List Tok}(hd:vc h A=some (b,l)):A=pv b 0 0∧ac h b=some (rdK l):=by
 unfold vc at hd;split at hd
 case h_2=>cases hd
 rename_i b';split at hd
 case h_2=>cases hd
 rename_i T els hb;split at hd
 case h_2=>cases hd
 rename_i l' hl;split at hd
 case isFalse=>cases hd
 rename_i hT;injection hd with hd;injection hd with e1 e2;subst e1 e2 hT;exact⟨rfl,by rw[hb,rdK,←cY jX hl]⟩
theorem vd {h h':ag}(hs:∀b k,ac h b=some k→ac h' b=some k){A:AV}{r:Nat×List Tok}(hd:vc h A=some r):vc h' A=some r:=by
 unfold vc at hd ⊢;split at hd
 case h_2=>cases hd
 split at hd
 case h_2=>cases hd
 rename_i hb;simp only[hs _ _ hb];exact hd
def fg:Except Int (AV×List Tok)→RO
 |.ok (r,l)=>.ret r [some (rdK l)] []
 |.error e=>.pan (qU e)
theorem Lv {r:AV}{l:List Tok}:fg (.ok (r,l))=.ret r [some (rdK l)] []:=rfl
theorem tT {e:Int}:fg (.error e)=.pan (qU e):=rfl
def iD {X:Type}(T:Xs X)(q:X→List Tok→Prop)(h:ag):List AV→Option (Prop×List Nat×(X×List Tok))
 |A::zs=>match vc h A,T.dec zs with
  |some (b,l),some x=>some (q x l,[b],(x,l))
  |_,_=>none
 |[]=>none
def qw {X:Type}(f:FuncId)(fn:Func)(c:Code)(hf:Tryz.prog.funcs[f]? = some fn)(hb:fn.body=some c)
  (hen:∀(args:Array Value) (w:World),(callFunc f args).run prog w=.ok (.enter f args) w) (T:Xs X) (q:X→List Tok→Prop) (F:X→List Tok→Except Int (AV×List Tok)) (hn:T.len+1≤fn.ntmps)
  (body:∀x l,q x l→SW prog ⟨none,1⟩ fn.ntmps c ⟨1,ax 0 (pv 0 0 0::T.enc x),aC 0 [rdK l]⟩ (um prog fn.results.toList 1 (fg (F x l)))):am prog f :=
 mkR 1 1 (by decide) f fn c hf hb hen (iD T q) (fun x=>pv 0 0 0::T.enc x.1) (fun x=>[rdK x.2]) (fun x=>fg (F x.1 x.2))
  (by
   intro h h' args r hs hd;unfold iD at hd ⊢;split at hd
   ·split at hd
    ·rename_i h1 h2;rw[vd hs h1,h2];exact hd
    ·cases hd
   ·cases hd)
  (by
   intro h zs q' bs x hd hq;unfold iD at hd;split at hd
   case h_2=>cases hd
   rename_i A zs';split at hd
   case h_2=>cases hd
   rename_i b l x' h1 h2;injection hd with hd;injection hd with e1 hd;injection hd with e2 e3;subst e2;subst e3;obtain⟨rfl,hb1⟩:=AI h1;refine⟨by rw[List.length_cons,T.enc_len];exact hn,rfl,rfl,by simp,fun d=>⟨?_,?_⟩⟩
   ·intro j b' k hj hk
    match j,hj,hk with
    |0,hj,hk =>
     simp at hj hk;subst hj;subst hk;exact⟨rfl,by rw[hb1];rfl⟩
   ·intro ρ al vals hA
    match vals,hA with
    |v::vs,⟨a,r⟩=>exact⟨a,T.ok (al:=al) h2 (Mem.le_refl _) r⟩)
  (by
   intro h zs q' bs x hd hq;unfold iD at hd;split at hd
   case h_2=>cases hd
   split at hd
   case h_2=>cases hd
   injection hd with hd;injection hd with e1 hd;injection hd with e2 e3;subst e1;subst e3;exact body _ _ hq)
def xs1 {α:Type}(T:Ty α)(hfl:∀x,∀(ρ ρ':Nat→Loc) (al al':Al) (v:Value),al.M.le al'.M→ARep ρ al (T.enc x) v→ARep ρ' al' (T.enc x) v):Xs α where
 dec:=fun | [A]=>T.dec A | _=>none
 enc:=fun t=>[T.enc t]
 len:=1
 enc_len:=fun _=>rfl
 ok:=by
  intro zs x h ρ ρ' al al' vals hM hA;split at h
  ·match vals,hA with
   |[v],⟨a,_⟩=>exact⟨hfl x _ _ _ _ v hM (T.ok h a),trivial⟩
  ·cases h
def sh:Xs Int:=xs1 (bq .i64) fun x ρ ρ' al al' v hM a=>ARep.flat hM a (by rfl)
def CN:Xs ByteArray:=xs1 aT fun x ρ ρ' al al' v hM a=>ARep.flat hM a (by rfl)
def xs2:Xs (Int×Int) where
 dec:=fun | [.s (.l (.v (.int .i64 a))),.s (.l (.v (.int .i64 b)))]=>some (a,b) | _=>none
 enc:=fun t=>[iv t.1,iv t.2]
 len:=2
 enc_len:=fun _=>rfl
 ok:=by
  intro zs x h ρ ρ' al al' vals hM hA;split at h
  ·injection h with h;subst h
   match vals,hA with
   |[v,u],⟨a,b,_⟩=>exact⟨a,b,trivial⟩
  ·cases h
theorem bk {l:List Tok}{r:AV}{st:St}(hr:r.plain=true)(h1:ac st.h 0=some (rdK l)) :
  mA 1 st (fg (.ok (r,l))) (some r):=by
 refine⟨hr,[some (rdK l)],[],rfl,rfl,by simp,by simp[rdK],by simp,Wk.ren [0] (by intro j hj;have:j=0:=(by simpa using hj);subst this;rfl) (Nat.le_refl _) (by simp) (fun p hp=>by cases hp) ?_⟩;intro p hp k hk;simp only[ee,aC,List.append_nil,List.mem_cons,List.not_mem_nil,or_false]at hp;subst hp;simp only[Option.some.injEq]at hk;subst hk;simp only[List.getD_eq_getElem?_getD,List.getElem?_cons_zero,Option.getD_some,h1];rfl
@[go_sem] theorem mkRd_rn {X:Type} {T:Xs X} {f fn c hf hb hen q G hn body id h args}:(qw f fn c hf hb hen T q G hn body).run id h args=jv 1 (iD T q) (fun x=>fg (G x.1 x.2)) id h args:=rfl
@[go_sem] theorem mkRd_pn {X:Type} {T:Xs X} {f fn c hf hb hen q G hn body id h args}:(qw f fn c hf hb hen T q G hn body).pan id h args=iT (iD T q) (fun x=>fg (G x.1 x.2)) h args:=rfl
end
section
open Ex (Xs xs0)
def dx:am prog 151 :=
 qw _ _ _ func151 rfl (fun _ _=>by go_simp) (sh) ((fun _ _=>True)) ((fun e _=>.error e)) (by rw[ntmps151];decide) (fun e l _=>by
 refine aq [] rfl ?_;simp only[go_sem,sh,xs1,tT,qU])
theorem GP {id:Nat}{h:ag}{args:List AV}:(dx).run id h args=jv 1 (iD (sh) ((fun _ _=>True))) (fun x=>fg (((fun e _=>.error e)) x.1 x.2)) id h args:=rfl
theorem GO {id:Nat}{h:ag}{args:List AV}:(dx).pan id h args=iT (iD (sh) ((fun _ _=>True))) (fun x=>fg (((fun e _=>.error e)) x.1 x.2)) h args:=rfl
theorem SG (k:Int)(m:Nat)(l:List Tok):Sw f201 1 ⟨1,ax 0 [pv 0 0 0,iv k,iv m],aC 0 [rdK l]⟩ (oR f201 1 (fg (.ok (sv (atF l k m),l)))):=by
 refine aq [] rfl ?_;rcases hl:l[m]? with _ | t
 ·have hlt:¬(m:Int)<l.length:=by have:=List.getElem?_eq_none_iff.1 hl;omega
  have e:atF l k m=emp:=by unfold atF;rw[hl]
  rw[e];simp only[go_sem,rdK,hlt];exact bk rfl rfl
 ·have hlt:(m:Int)<l.length:=by have:=(List.getElem?_eq_some_iff.1 hl).1;omega
  by_cases hk:t.kind=k
  ·have e:atF l k m=t.text:=by unfold atF;rw[hl];simp only[if_pos hk]
   rw[e];simp only[go_sem,rdK,hlt,hl,jW,eq_true hk];exact bk rfl rfl
  ·have e:atF l k m=emp:=by unfold atF;rw[hl];simp only[if_neg hk]
   rw[e];simp only[go_sem,rdK,hlt,hl,jW,hk];exact bk rfl rfl
def atS:am prog 201 :=
 qw _ _ _ func201 rfl (fun _ _=>by go_simp) (xs2) ((fun x _=>0≤x.2)) ((fun x l=>.ok (sv (atF l x.1 x.2.toNat),l))) (by rw[ntmps201];decide) (fun x l h=>by
 obtain⟨k,n⟩:=x;obtain⟨m,rfl⟩:=Int.eq_ofNat_of_zero_le h;exact SG k m l)
theorem P3 {id:Nat}{h:ag}{args:List AV}:(atS).run id h args=jv 1 (iD (xs2) ((fun x _=>0≤x.2))) (fun x=>fg (((fun x l=>.ok (sv (atF l x.1 x.2.toNat),l))) x.1 x.2)) id h args:=rfl
theorem P2 {id:Nat}{h:ag}{args:List AV}:(atS).pan id h args=iT (iD (xs2) ((fun x _=>0≤x.2))) (fun x=>fg (((fun x l=>.ok (sv (atF l x.1 x.2.toNat),l))) x.1 x.2)) h args:=rfl
theorem kL (l:List Tok)(n:Nat)(h:n≤l.length):((l.map jX.enc).drop n).take (l.length-n)=(l.drop n).map jX.enc:=by
 rw[←List.map_drop,List.take_of_length_le (by simp)]
theorem OO (m:Nat)(l:List Tok)(h:m≤l.length):Sw f240 1 ⟨1,ax 0 [pv 0 0 0,iv m],aC 0 [rdK l]⟩ (oR f240 1 (fg (.ok (im,l.drop m)))):=by
 refine aq [] rfl ?_;have h1:(m:Int)≤l.length:=by omega
 simp only[go_sem,rdK,h1,kL l m h];exact bk rfl rfl
def qa:am prog 240 :=
 qw _ _ _ func240 rfl (fun _ _=>by go_simp) (sh) ((fun n l=>0≤n∧n≤l.length)) ((fun n l=>.ok (im,l.drop n.toNat))) (by rw[ntmps240];decide) (fun n l h=>by
 obtain⟨m,rfl⟩:=Int.eq_ofNat_of_zero_le h.1;exact OO m l (by omega))
theorem L5 {id:Nat}{h:ag}{args:List AV}:(qa).run id h args=jv 1 (iD (sh) ((fun n l=>0≤n∧n≤l.length))) (fun x=>fg (((fun n l=>.ok (im,l.drop n.toNat))) x.1 x.2)) id h args:=rfl
theorem L4 {id:Nat}{h:ag}{args:List AV}:(qa).pan id h args=iT (iD (sh) ((fun n l=>0≤n∧n≤l.length))) (fun x=>fg (((fun n l=>.ok (im,l.drop n.toNat))) x.1 x.2)) h args:=rfl
end
section
open Ex (Xs xs0)
attribute [go_sem] rdK iD vc sh CN xs2 xs1 xs0 Lv tT Except.map P3 P2 L5 L4 GP GO
theorem zU (s:ByteArray)(l:List Tok)(hs:¬s=emp):Sw f198 1 ⟨1,ax 0 [pv 0 0 0,sv s],aC 0 [rdK l]⟩ (oR f198 1 (fg (.ok (bv (bd s l).1,(bd s l).2)))):=by
 refine aq [⟨_,atS⟩,⟨_,qa⟩] rfl ?_;by_cases h:atF l 4 0=s
 ·have hl:(1:Int)≤l.length:=by have:=gQ (l:=l) (k:=4) (n:=0) (by rw[h];exact hs);omega
  have e:bd s l=(true,l.drop 1):=by unfold bd;rw[if_pos h]
  rw[e];simp only[go_sem,h,hl,toNat_zero,toNat_one];exact bk rfl rfl
 ·have e:bd s l=(false,l):=by unfold bd;rw[if_neg h]
  rw[e];simp only[go_sem,h,toNat_zero,toNat_one];exact bk rfl rfl
abbrev gF:am prog 198 :=
 qw _ _ _ func198 (asP rfl) (asP fun _ _=>by go_simp) (CN) ((fun s _=>¬s=emp)) ((fun s l=>.ok (bv (bd s l).1,(bd s l).2))) (asP (by rw[ntmps198];decide)) (asP fun s l h=>zU s l h)
theorem N8 (s:ByteArray)(l:List Tok)(hs:¬s=emp):Sw f150 1 ⟨1,ax 0 [pv 0 0 0,sv s],aC 0 [rdK l]⟩ (oR f150 1 (fg ((aY s l).map fun l=>(im,l)))):=by
 refine aq [⟨_,gF⟩,⟨_,dx⟩] rfl ?_;by_cases h:atF l 4 0=s
 ·have e:bd s l=(true,l.drop 1):=by unfold bd;rw[if_pos h]
  have e2:aY s l=.ok (l.drop 1):=by unfold aY;rw[if_pos h]
  rw[e2];simp only[go_sem,hs,e];exact bk rfl rfl
 ·have e:bd s l=(false,l):=by unfold bd;rw[if_neg h]
  have e2:aY s l=.error 100:=by unfold aY;rw[if_neg h]
  rw[e2];simp only[go_sem,hs,e]
abbrev mB:am prog 150 :=
 qw _ _ _ func150 (asP rfl) (asP fun _ _=>by go_simp) (CN) ((fun s _=>¬s=emp)) ((fun s l=>(aY s l).map fun l=>(im,l))) (asP (by rw[ntmps150];decide)) (asP fun s l h=>N8 s l h)
def Sj (v:Val):AV:=(nX nZ).enc v
theorem bK (v:Val):Sj v=.s (.agg [.v (.int .i64 v.add),.v (.string v.plus),.v (.string v.minus)]):=rfl
theorem I5 (l:List Tok)(h:RdOk l):Sw f203 1 ⟨1,ax 0 [pv 0 0 0],aC 0 [rdK l]⟩ (oR f203 1 (fg ((aP l).map fun p=>(Sj p.1,p.2)))):=by
 refine aq [⟨_,Ex.parseS⟩,⟨_,Ex.evalS⟩,⟨_,qa⟩,⟨_,dx⟩] rfl ?_;have hn:=Ex.parseF_nice h.named;have hl6:=h.few;rcases hp:Ex.parseF l with e | s
 ·rw[hp]at hn;have hne:¬e=0:=hn;have hv:aP l=.error e:=by unfold aP;rw[hp]
  rw[hv];simp only[go_sem,Ex.parse_run,Ex.parse_pan,Ex.outParse,hl6,hp,hne]
 ·rw[hp]at hn;obtain⟨g1,g2,g3,g4,g5⟩:=hn;have q2:s.ts.length≤1099511627776:=by omega
  have q3:∀t∈s.ts,t.sym.size≤140737488355328:=fun t ht=>by have:=Ex.termB_size (g2 t ht);omega
  have q4:(s.at_:Int)≤l.length:=by omega
  have q5:(0:Int)≤s.at_:=by omega
  rcases hev:Ex.evalAll s.ts with ⟨⟨va,vp,vm⟩,x⟩;by_cases hx:x=0
  ·subst hx;have hv:aP l=.ok (⟨va,vp,vm⟩,l.drop s.at_):=by unfold aP;rw[hp];simp only[hev,if_true]
   rw[hv];simp only[go_sem,Ex.parse_run,Ex.parse_pan,Ex.outParse,hl6,hp,Ex.eval_pan,Ex.outEval,hev,q2,q4,q5,bK];exact⟨q3,bk rfl rfl⟩
  ·have hv:aP l=.error x:=by unfold aP;rw[hp];simp only[hev,if_neg hx]
   rw[hv];simp only[go_sem,Ex.parse_run,Ex.parse_pan,Ex.outParse,hl6,hp,Ex.eval_pan,Ex.outEval,hev,q2,hx];exact q3
abbrev lm:am prog 203 :=
 qw _ _ _ func203 (asP rfl) (asP fun _ _=>by go_simp) (xs0) ((fun _ l=>RdOk l)) ((fun _ l=>(aP l).map fun(p:Val×List Tok)=>(Sj p.1,p.2))) (asP (by rw[ntmps203];decide)) (asP fun _ l h=>I5 l h)
theorem JL (l:List Tok)(h:RdOk l):Sw f241 1 ⟨1,ax 0 [pv 0 0 0],aC 0 [rdK l]⟩ (oR f241 1 (fg ((gr l).map fun p=>(iv p.1,p.2)))):=by
 refine aq [⟨_,mB⟩,⟨_,lm⟩,⟨_,JC⟩,⟨_,dx⟩] rfl ?_;have hsh:¬(⟨#[35]⟩:ByteArray)=emp:=by decide
 rcases h1:aY ⟨#[35]⟩ l with e | l1
 ·have hc:gr l=.error e:=by unfold gr;rw[show aY cL l=.error e from h1]
  rw[hc];simp only[go_sem,hsh,h1]
 ·obtain⟨g1,-⟩:=dq hsh h h1;rcases h2:aP l1 with e | ⟨⟨va,vp,vm⟩,l2⟩
  ·have hc:gr l=.error e:=by unfold gr;rw[show aY cL l=.ok l1 from h1];simp only[h2]
   rw[hc];simp only[go_sem,hsh,h1,g1,h2]
  ·have hc:gr l=if(vp=emp∧vm=emp)∧0≤va∧va≤63 then .ok (va,l2) else .error 100:=by unfold gr;rw[show aY cL l=.ok l1 from h1];simp only[h2]
   by_cases ha:vp=emp∧vm=emp
   ·have hA:(decide (vp=emp)&&decide (vm=emp))=true:=by rw[ha.1,ha.2];rfl
    by_cases h0:va<0
    ·rw[hc,nG];simp only[go_sem,hsh,h1,g1,h2,bK,fH,hA,h0]
    ·by_cases h63:63<va
     ·rw[hc,nG];simp only[go_sem,hsh,h1,g1,h2,bK,fH,hA,h0,h63]
     ·rw[hc,if_pos ⟨ha,by omega,by omega⟩];simp only[go_sem,hsh,h1,g1,h2,bK,fH,hA,h0,h63];exact bk rfl rfl
   ·have hA:(decide (vp=emp)&&decide (vm=emp))=false:=by
     rw[Bool.and_eq_false_iff,decide_eq_false_iff_not,decide_eq_false_iff_not];exact Decidable.not_and_iff_or_not.1 ha
    rw[hc,if_neg (fun h=>ha h.1)];simp only[go_sem,hsh,h1,g1,h2,bK,fH,hA]
abbrev SS:am prog 241 :=
 qw _ _ _ func241 (asP rfl) (asP fun _ _=>by go_simp) (xs0) ((fun _ l=>RdOk l)) ((fun _ l=>(gr l).map fun(p:Int×List Tok)=>(iv p.1,p.2))) (asP (by rw[ntmps241];decide)) (asP fun _ l h=>JL l h)
theorem Th (l:List Tok):Sw f204 1 ⟨1,ax 0 [pv 0 0 0],aC 0 [rdK l]⟩ (oR f204 1 (fg ((loR l).map fun p=>(bv p.1,p.2)))):=by
 refine aq [⟨_,atS⟩,⟨_,qa⟩,⟨_,dx⟩] rfl ?_;by_cases h0:atF l 4 0=⟨#[58]⟩
 ·by_cases h1:atF l 1 1=⟨#[108,111,49,50]⟩
  ·by_cases h2:atF l 4 2=⟨#[58]⟩
   ·have hl:(3:Int)≤l.length:=by have:=gQ (l:=l) (k:=4) (n:=2) (by rw[h2];decide);omega
    have e:loR l=.ok (true,l.drop 3):=by unfold loR cj vO;rw[if_neg (fun h=>h h0),if_neg (by simp[h1,h2])]
    rw[e];simp only[go_sem,toNat_zero,toNat_one,h0,h1,h2,hl];exact bk rfl rfl
   ·have e:loR l=.error 100:=by unfold loR cj vO;rw[if_neg (fun h=>h h0),if_pos (.inr h2)]
    rw[e];simp only[go_sem,toNat_zero,toNat_one,h0,h1,h2]
  ·have e:loR l=.error 100:=by unfold loR cj vO;rw[if_neg (fun h=>h h0),if_pos (.inl h1)]
   rw[e];simp only[go_sem,toNat_zero,toNat_one,h0,h1]
 ·have e:loR l=.ok (false,l):=by unfold loR cj;rw[if_pos h0]
  rw[e];simp only[go_sem,toNat_zero,h0];exact bk rfl rfl
abbrev xi:am prog 204 :=
 qw _ _ _ func204 (asP rfl) (asP fun _ _=>by go_simp) (xs0) ((fun _ _=>True)) ((fun _ l=>(loR l).map fun(p:Bool×List Tok)=>(bv p.1,p.2))) (asP (by rw[ntmps204];decide)) (asP fun _ l h=>Th l)
def bN (p:gO×Bool):AV:=.tup [.agg [.v (.int .i64 p.1.n),.v (.bool p.1.x),.v (.bool p.1.sp)],.l (.v (.bool p.2))]
theorem B2 (l:List Tok):Sw f199 1 ⟨1,ax 0 [pv 0 0 0],aC 0 [rdK l]⟩ (oR f199 1 (fg (.ok (bN (aj l).1,(aj l).2)))):=by
 refine aq [⟨_,atS⟩,⟨_,qa⟩,⟨_,TA⟩] rfl ?_;by_cases h:(fi 3 (atF l 1 0)).2=0
 ·have hl:(1:Int)≤l.length:=by
   have:=gQ (l:=l) (k:=1) (n:=0) (fun e=>by rw[e]at h;revert h;decide +kernel);omega
  have e:aj l=(((fi 3 (atF l 1 0)).1,true),l.drop 1):=by unfold aj jR;rw[if_pos h];rfl
  rw[e];simp only[go_sem,toNat_zero,toNat_one,qC,h,hl,bN];exact bk rfl rfl
 ·have e:aj l=((r0,false),l):=by unfold aj jR;rw[if_neg h];rfl
  rw[e];simp only[go_sem,toNat_zero,toNat_one,qC,h,bN,r0];exact bk rfl rfl
abbrev gq:am prog 199 :=
 qw _ _ _ func199 (asP rfl) (asP fun _ _=>by go_simp) (xs0) ((fun _ _=>True)) ((fun _ l=>.ok (bN (aj l).1,(aj l).2))) (asP (by rw[ntmps199];decide)) (asP fun _ l h=>B2 l)
end
section
open Ex (Xs xs0)
def d5:Xs (OpV×Int×Int) where
 dec:=fun | [A,.s (.l (.v (.int .i64 a))),.s (.l (.v (.int .i64 b)))]=>(tOp.dec A).map fun o=>(o,a,b) | _=>none
 enc:=fun t=>[tOp.enc t.1,iv t.2.1,iv t.2.2]
 len:=3
 enc_len:=fun _=>rfl
 ok:=by
  intro zs x h ρ ρ' al al' vals hM hA;split at h
  ·rw[Option.map_eq_some_iff]at h;obtain⟨o,h,rfl⟩:=h
   match vals,hA with
   |[v,u,y],⟨a,b,c,_⟩=>exact⟨(tOp.ok h a).flat hM (by rfl),b,c,trivial⟩
  ·cases h
theorem KL:¬(ai 3 3 emp).2=0:=by decide +kernel
theorem Dj (o:OpV)(most nn:Int)(l:List Tok)(h:RdOk l):Sw f200 1 ⟨1,ax 0 [pv 0 0 0,tOp.enc o,iv most,iv nn],aC 0 [rdK l]⟩ (oR f200 1 (fg ((aR o most nn l).map fun p=>(opV p.1,p.2)))):=by
 refine aq [⟨_,atS⟩,⟨_,uD⟩,⟨_,qa⟩,⟨_,SS⟩] rfl ?_;have hz:(atF l 1 1).size≤1099511627776:=by have:=uP h 1;omega
 obtain⟨⟨n,e⟩,hn⟩:∃p,ai 3 3 (atF l 1 1)=p:=⟨_,rfl⟩;by_cases hA:atF l 4 0=⟨#[44]⟩
 case neg =>
  have hc:aR o most nn l=.ok (o,l):=by unfold aR;rw[if_pos (.inl hA)]
  rw[hc];simp only[go_sem,ap,opE,opV,toNat_zero,toNat_one,bz,hz,hn,hA];exact bk rfl rfl
 by_cases hB:e=0
 case neg =>
  have hc:aR o most nn l=.ok (o,l):=by unfold aR;rw[hn,if_pos (.inr (.inl hB))]
  rw[hc];simp only[go_sem,ap,opE,opV,toNat_zero,toNat_one,bz,hz,hn,hA,hB];exact bk rfl rfl
 subst hB
 have hl:(2:Int)≤l.length:=by
  have:=gQ (l:=l) (k:=1) (n:=1) (fun e=>KL (by rw[←e,hn]));omega
 have hA':atF l 4 0=cQ:=hA;by_cases hC:most<n
 ·have hc:aR o most nn l=.ok (o,l):=by unfold aR;rw[hn,if_pos (.inr (.inr hC))]
  rw[hc];simp only[go_sem,ap,opE,opV,toNat_zero,toNat_one,bz,hz,hn,hA,hC];exact bk rfl rfl
 have hc:aR o most nn l=if n≤4∨atF (l.drop 2) 4 0=cL then match gr (l.drop 2) with
  |.error e=>.error e
  |.ok (k,l')=>.ok ({ o with md:=n,amt:=k },l')
  else .ok ({ o with md:=n,amt:=nn },l.drop 2):=by unfold aR;rw[hn,if_neg (by simp[hA',hC])];rfl
 have hr:=h.drop 2;have fin:∀b:Bool,(decide (n≤4)=b)→True:=fun _ _=>trivial;by_cases h4:n≤4
 ·rcases hk:gr (l.drop 2) with x | ⟨k,l'⟩
  ·rw[hc,if_pos (.inl h4)];simp only[go_sem,ap,opE,opV,toNat_zero,toNat_one,bz,hz,hn,hA,hC,hl,Int.reduceToNat,h4,hr,hk]
  ·rw[hc,if_pos (.inl h4)];simp only[go_sem,ap,opE,opV,toNat_zero,toNat_one,bz,hz,hn,hA,hC,hl,Int.reduceToNat,h4,hr,hk];exact bk rfl rfl
 by_cases h5:atF (l.drop 2) 4 0=⟨#[35]⟩
 ·rcases hk:gr (l.drop 2) with x | ⟨k,l'⟩
  ·rw[hc,if_pos (.inr h5)];simp only[go_sem,ap,opE,opV,toNat_zero,toNat_one,bz,hz,hn,hA,hC,hl,Int.reduceToNat,h4,h5,hr,hk]
  ·rw[hc,if_pos (.inr h5)];simp only[go_sem,ap,opE,opV,toNat_zero,toNat_one,bz,hz,hn,hA,hC,hl,Int.reduceToNat,h4,h5,hr,hk];exact bk rfl rfl
 ·rw[hc,if_neg (fun h=>h.elim h4 h5)];simp only[go_sem,ap,opE,opV,toNat_zero,toNat_one,bz,hz,hn,hA,hC,hl,Int.reduceToNat,h4,h5];exact bk rfl rfl
abbrev ml:am prog 200 :=
 qw _ _ _ func200 (asP rfl) (asP fun _ _=>by go_simp) (d5) ((fun _ l=>RdOk l)) ((fun x l=>(aR x.1 x.2.1 x.2.2 l).map fun(p:OpV×List Tok)=>(opV p.1,p.2))) (asP (by rw[ntmps200];decide)) (asP fun x l h=>Dj x.1 x.2.1 x.2.2 l h)
theorem yz {s:ByteArray}{j:Nat}{kd k:Int}(hj:nS[j]? = some (kd,k)):eR s (nS.drop j)=if(ai 3 kd s).2=0 then some (ry k (ai 3 kd s).1) else eR s (nS.drop (j+1)):=by
 have hlt:=(List.getElem?_eq_some_iff.1 hj).1;rw[List.drop_eq_getElem_cons hlt];rw[List.getElem?_eq_getElem hlt]at hj;injection hj with hj;rw[hj,eR]
theorem vG (k n:Int):opV (ry k n)=.s (.agg [.v (.int .i64 k),.v (.int .i64 0),.v (.bool false),.v (.bool false),.v (.int .i64 0),.v (.bool false),.v (.bool false),.v (.int .i64 0),.v (.int .i64 0),.v (.int .i64 n),.v (.int .i64 0),.v (.string ⟨#[]⟩),.v (.string ⟨#[]⟩),.v (.bool false),.v (.int .i64 0)]):=rfl
theorem B8 (s:ByteArray)(l:List Tok)(hs:s.size≤1099511627776)(hl:1≤l.length):Sw f205 1 ⟨1,ax 0 [pv 0 0 0,sv s],aC 0 [rdK l]⟩ (oR f205 1 (fg ((dP s l).map fun p=>(opV p.1,p.2)))):=by
 refine aq [⟨_,dx⟩] rfl ?_;have hlI:(1:Int)≤l.length:=by omega
 simp only[go_sem];refine bF (ι:=Nat) (fun j=>j≤5∧eR s (nS.drop j)=eR s nS) (fun j=>⟨3,[(0,pv 0 0 0),(1,sv s),(4,pv 1 0 0),(9,.s (.l (.sl 2 0 5))),(10,iv 5),(11,iv j)],aC 0 [rdK l,⟨true,79,15,[[.v (.int .i64 0),.v (.int .i64 0),.v (.bool false),.v (.bool false),.v (.int .i64 0),.v (.bool false),.v (.bool false),.v (.int .i64 0),.v (.int .i64 0),.v (.int .i64 0),.v (.int .i64 0),.v (.string ⟨#[]⟩),.v (.string ⟨#[]⟩),.v (.bool false),.v (.int .i64 0)]]⟩,⟨true,3,1,[[.v (.int .i64 2)],[.v (.int .i64 4)],[.v (.int .i64 6)],[.v (.int .i64 7)],[.v (.int .i64 8)]]⟩]⟩) (fun j=>5-j) 0 ⟨Nat.zero_le _,rfl⟩ ?_ ?_
 ·exact wR [0,1,17]
 rintro j ⟨hj,hR⟩;refine aw [⟨_,uD⟩,⟨_,qa⟩,⟨_,dx⟩] ?_;have hlt:j=0∨j=1∨j=2∨j=3∨j=4∨j=5:=by omega
 have no:∀{kd k:Int},nS[j]? = some (kd,k)→¬(ai 3 kd s).2=0→eR s (nS.drop (j+1))=eR s nS:=fun hk hn=>by
  rw[←hR,yz hk,if_neg hn]
 have yes:∀{kd k n:Int},nS[j]? = some (kd,k)→ai 3 kd s=(n,0)→dP s l=.ok (ry k n,l.drop 1):=fun hk hn=>by
  unfold dP;rw[←hR,yz hk,hn,if_pos rfl]
 rcases hlt with rfl | rfl | rfl | rfl | rfl | rfl
 ·obtain⟨⟨n,e⟩,hn⟩:∃p,ai 3 2 s=p:=⟨_,rfl⟩;by_cases he:e=0
  ·subst he;rw[yes rfl hn];simp only[go_sem,bz,hs,hn,hlI,Int.reduceToNat,toNat_one,Int.reduceAdd,vG];exact bk rfl rfl
  ·simp only[go_sem,bz,hs,hn,he,hlI,Int.reduceToNat,toNat_one,Int.reduceAdd];exact⟨1,⟨by omega,no rfl (by rw[hn];exact he)⟩,by omega,wR [0,1,2]⟩
 ·obtain⟨⟨n,e⟩,hn⟩:∃p,ai 3 4 s=p:=⟨_,rfl⟩;by_cases he:e=0
  ·subst he;rw[yes rfl hn];simp only[go_sem,bz,hs,hn,hlI,Int.reduceToNat,toNat_one,Int.reduceAdd,vG];exact bk rfl rfl
  ·simp only[go_sem,bz,hs,hn,he,hlI,Int.reduceToNat,toNat_one,Int.reduceAdd];exact⟨2,⟨by omega,no rfl (by rw[hn];exact he)⟩,by omega,wR [0,1,2]⟩
 ·obtain⟨⟨n,e⟩,hn⟩:∃p,ai 3 6 s=p:=⟨_,rfl⟩;by_cases he:e=0
  ·subst he;rw[yes rfl hn];simp only[go_sem,bz,hs,hn,hlI,Int.reduceToNat,toNat_one,Int.reduceAdd,vG];exact bk rfl rfl
  ·simp only[go_sem,bz,hs,hn,he,hlI,Int.reduceToNat,toNat_one,Int.reduceAdd];exact⟨3,⟨by omega,no rfl (by rw[hn];exact he)⟩,by omega,wR [0,1,2]⟩
 ·obtain⟨⟨n,e⟩,hn⟩:∃p,ai 3 7 s=p:=⟨_,rfl⟩;by_cases he:e=0
  ·subst he;rw[yes rfl hn];simp only[go_sem,bz,hs,hn,hlI,Int.reduceToNat,toNat_one,Int.reduceAdd,vG];exact bk rfl rfl
  ·simp only[go_sem,bz,hs,hn,he,hlI,Int.reduceToNat,toNat_one,Int.reduceAdd];exact⟨4,⟨by omega,no rfl (by rw[hn];exact he)⟩,by omega,wR [0,1,2]⟩
 ·obtain⟨⟨n,e⟩,hn⟩:∃p,ai 3 8 s=p:=⟨_,rfl⟩;by_cases he:e=0
  ·subst he;rw[yes rfl hn];simp only[go_sem,bz,hs,hn,hlI,Int.reduceToNat,toNat_one,Int.reduceAdd,vG];exact bk rfl rfl
  ·simp only[go_sem,bz,hs,hn,he,hlI,Int.reduceToNat,toNat_one,Int.reduceAdd];exact⟨5,⟨by omega,no rfl (by rw[hn];exact he)⟩,by omega,wR [0,1,2]⟩
 ·have e:dP s l=.error 100:=by
   unfold dP;rw[←hR];rfl
  rw[e];simp only[go_sem]
abbrev TJ:am prog 205 :=
 qw _ _ _ func205 (asP rfl) (asP fun _ _=>by go_simp) (CN) ((fun s l=>s.size≤1099511627776∧1≤l.length)) ((fun s l=>(dP s l).map fun(p:OpV×List Tok)=>(opV p.1,p.2))) (asP (by rw[ntmps205];decide)) (asP fun s l h=>B8 s l h.1 h.2)
end
section
open Ex (Xs xs0)
theorem d9:¬(⟨#[93]⟩:ByteArray)=emp:=by decide
theorem d8:¬(⟨#[91]⟩:ByteArray)=emp:=by decide
theorem cN:¬(⟨#[44]⟩:ByteArray)=emp:=by decide
theorem cM:¬(⟨#[35]⟩:ByteArray)=emp:=by decide
theorem d7:¬(⟨#[33]⟩:ByteArray)=emp:=by decide
theorem nD {l l1:List Tok}{r:gO}{b:Bool}(h:aj l=((r,b),l1)):jR l=(r,b)∧l1=if b=true then l.drop 1 else l:=by
 unfold aj at h;injection h with h1 h2;rw[h1]at h2;exact⟨h1,h2.symm⟩
theorem nE {l l1:List Tok}{p:gO×Bool}(h:RdOk l)(e:aj l=(p,l1)):RdOk l1:=by
 unfold aj at e;injection e with e1 e2;rw[←e2];split
 ·exact h.drop 1
 ·exact h
theorem L2 {s:ByteArray}{l l1:List Tok}{b:Bool}(h:RdOk l)(e:bd s l=(b,l1)):RdOk l1:=by
 unfold bd at e;split at e<;>injection e with e1 e2<;>subst e2
 ·exact h.drop 1
 ·exact h
theorem Kv {l l1:List Tok}{b:Bool}(h:RdOk l)(e:loR l=.ok (b,l1)):RdOk l1:=by
 unfold loR at e;split at e
 ·injection e with e;injection e with e1 e2;subst e2;exact h
 ·split at e
  ·cases e
  ·injection e with e;injection e with e1 e2;subst e2;exact h.drop 3
section
variable {l l1 l2 l3 l4 l5:List Tok}{rn mn va:Int}{rx rs mx ms is b:Bool}{vp vm:ByteArray}{e:Int}
abbrev jN (l:List Tok)(r:RdR OpV):Prop:=Sw f202 1 ⟨1,ax 0 [pv 0 0 0],aC 0 [rdK l]⟩ (oR f202 1 (fg (r.map fun p=>(opV p.1,p.2))))
abbrev gA (rn:Int)(rx rs:Bool):OpV:=⟨5,⟨rn,rx,rs⟩,⟨0,false,false⟩,0,0,0,0,⟨#[]⟩,⟨#[]⟩,false,0⟩
theorem N1 (h1:aj l=((⟨rn,rx,rs⟩,is),l1))(h2:fe (gA rn rx rs)=false):jN l (.error 100):=by
 refine aq [⟨_,gq⟩,⟨_,eC⟩,⟨_,dx⟩] rfl ?_;simp only[go_sem,ap,opE,opD,opV,aO,aN,bN,bK,d5,d9,cN,cM,d7,d8,h1,h2]
theorem Hn (h1:aj l=((⟨rn,rx,rs⟩,is),l1))(h2:fe (gA rn rx rs)=true)(h3:bd ⟨#[93]⟩ l1=(true,l2))(h4:¬(atF l2 4 0=⟨#[44]⟩∧atF l2 4 1=⟨#[35]⟩)):jN l (.ok (gA rn rx rs,l2)):=by
 refine aq [⟨_,gq⟩,⟨_,eC⟩,⟨_,dx⟩,⟨_,gF⟩,⟨_,atS⟩] rfl ?_;by_cases h5:atF l2 4 0=⟨#[44]⟩
 ·have h6:¬atF l2 4 1=⟨#[35]⟩:=fun h=>h4 ⟨h5,h⟩;simp only[go_sem,ap,opE,opD,opV,aO,aN,bN,bK,d5,d9,cN,cM,d7,d8,h1,h2,h3,h5,h6,toNat_zero,toNat_one];exact bk rfl rfl
 ·simp only[go_sem,ap,opE,opD,opV,aO,aN,bN,bK,d5,d9,cN,cM,d7,d8,h1,h2,h3,h5,toNat_zero,toNat_one];exact bk rfl rfl
theorem KC (h0:RdOk l2)(h1:aj l=((⟨rn,rx,rs⟩,is),l1))(h2:fe (gA rn rx rs)=true)(h3:bd ⟨#[93]⟩ l1=(true,l2))(h4:atF l2 4 0=⟨#[44]⟩)(h5:atF l2 4 1=⟨#[35]⟩)(hv:aP (l2.drop 2)=.ok (⟨va,vp,vm⟩,l3)) :
  jN l (.ok ({ nT (gA rn rx rs) ⟨va,vp,vm⟩ with mode:=2 },l3)):=by
 refine aq [⟨_,gq⟩,⟨_,eC⟩,⟨_,dx⟩,⟨_,gF⟩,⟨_,atS⟩,⟨_,qa⟩,⟨_,lm⟩] rfl ?_;have hl:(2:Int)≤l2.length:=by have:=gQ (l:=l2) (k:=4) (n:=1) (by rw[h5];decide);omega
 have hd:=h0.drop 2;simp only[go_sem,ap,opE,opD,opV,aO,aN,bN,bK,d5,d9,cN,cM,d7,d8,h1,h2,h3,h4,h5,toNat_zero,toNat_one,Int.reduceToNat,hl,hd,hv,nT];exact bk rfl rfl
theorem Ho (h0:RdOk l2)(h1:aj l=((⟨rn,rx,rs⟩,is),l1))(h2:fe (gA rn rx rs)=true)(h3:bd ⟨#[93]⟩ l1=(true,l2))(h4:atF l2 4 0=⟨#[44]⟩)(h5:atF l2 4 1=⟨#[35]⟩)(hv:aP (l2.drop 2)=.error e):jN l (.error e):=by
 refine aq [⟨_,gq⟩,⟨_,eC⟩,⟨_,dx⟩,⟨_,gF⟩,⟨_,atS⟩,⟨_,qa⟩,⟨_,lm⟩] rfl ?_;have hl:(2:Int)≤l2.length:=by have:=gQ (l:=l2) (k:=4) (n:=1) (by rw[h5];decide);omega
 have hd:=h0.drop 2;simp only[go_sem,ap,opE,opD,opV,aO,aN,bN,bK,d5,d9,cN,cM,d7,d8,h1,h2,h3,h4,h5,toNat_zero,toNat_one,Int.reduceToNat,hl,hd,hv]
theorem Kx (h1:aj l=((⟨rn,rx,rs⟩,is),l1))(h2:fe (gA rn rx rs)=true)(h3:bd ⟨#[93]⟩ l1=(false,l2))(h4:aY ⟨#[44]⟩ l2=.error e):jN l (.error e):=by
 refine aq [⟨_,gq⟩,⟨_,eC⟩,⟨_,dx⟩,⟨_,gF⟩,⟨_,mB⟩] rfl ?_;simp only[go_sem,ap,opE,opD,opV,aO,aN,bN,bK,d5,d9,cN,cM,d7,d8,h1,h2,h3,h4]
variable {o:OpV}
abbrev yd (rn:Int)(rx rs:Bool)(mn:Int)(mx ms:Bool):OpV:=⟨5,⟨rn,rx,rs⟩,⟨mn,mx,ms⟩,1,-1,0,0,⟨#[]⟩,⟨#[]⟩,false,3⟩
theorem Kz (h0:RdOk l4)(h1:aj l=((⟨rn,rx,rs⟩,is),l1))(h2:fe (gA rn rx rs)=true)(h3:bd ⟨#[93]⟩ l1=(false,l2))(h4:aY ⟨#[44]⟩ l2=.ok l3)(h5:aj l3=((⟨mn,mx,ms⟩,true),l4))(h6:aR (yd rn rx rs mn mx ms) 12 (-1) l4=.error e):jN l (.error e):=by
 refine aq [⟨_,gq⟩,⟨_,eC⟩,⟨_,dx⟩,⟨_,gF⟩,⟨_,mB⟩,⟨_,ml⟩] rfl ?_;simp only[go_sem,ap,opE,opD,opV,aO,aN,bN,bK,d5,d9,cN,cM,d7,d8,h1,h2,h3,h4,h5];refine bu (ctx:=[]) mixed ⟨[],[(2,[177]),(4,[177]),(6,[177]),(8,[177])],[(0,[177])]⟩ (by kernel_rfl) ?_;simp only[go_sem,ap,opE,opD,opV,aO,aN,bN,bK,d5,d9,cN,cM,d7,d8,h1,h2,h3,h4,h5,h6,h0]
theorem Ky (h0:RdOk l4)(h1:aj l=((⟨rn,rx,rs⟩,is),l1))(h2:fe (gA rn rx rs)=true)(h3:bd ⟨#[93]⟩ l1=(false,l2))(h4:aY ⟨#[44]⟩ l2=.ok l3)(h5:aj l3=((⟨mn,mx,ms⟩,true),l4))(h6:aR (yd rn rx rs mn mx ms) 12 (-1) l4=.ok (o,l5))(h7:dy o=false):jN l (.error 100):=by
 refine aq [⟨_,gq⟩,⟨_,eC⟩,⟨_,dx⟩,⟨_,gF⟩,⟨_,mB⟩,⟨_,ml⟩,⟨_,uC⟩] rfl ?_;simp only[go_sem,ap,opE,opD,opV,aO,aN,bN,bK,d5,d9,cN,cM,d7,d8,h1,h2,h3,h4,h5];refine bu (ctx:=[]) mixed ⟨[],[(2,[177]),(4,[177]),(6,[177]),(8,[177])],[(0,[177])]⟩ (by kernel_rfl) ?_;simp only[go_sem,ap,opE,opD,opV,aO,aN,bN,bK,d5,d9,cN,cM,d7,d8,h1,h2,h3,h4,h5,h6,h0,h7]
theorem KA (h0:RdOk l4)(h1:aj l=((⟨rn,rx,rs⟩,is),l1))(h2:fe (gA rn rx rs)=true)(h3:bd ⟨#[93]⟩ l1=(false,l2))(h4:aY ⟨#[44]⟩ l2=.ok l3)(h5:aj l3=((⟨mn,mx,ms⟩,true),l4))(h6:aR (yd rn rx rs mn mx ms) 12 (-1) l4=.ok (o,l5))(h7:dy o=true)(h8:aY ⟨#[93]⟩ l5=.error e):jN l (.error e):=by
 refine aq [⟨_,gq⟩,⟨_,eC⟩,⟨_,dx⟩,⟨_,gF⟩,⟨_,mB⟩,⟨_,ml⟩,⟨_,uC⟩] rfl ?_;simp only[go_sem,ap,opE,opD,opV,aO,aN,bN,bK,d5,d9,cN,cM,d7,d8,h1,h2,h3,h4,h5];refine bu (ctx:=[]) mixed ⟨[],[(2,[177]),(4,[177]),(6,[177]),(8,[177])],[(0,[177])]⟩ (by kernel_rfl) ?_;simp only[go_sem,ap,opE,opD,opV,aO,aN,bN,bK,d5,d9,cN,cM,d7,d8,h1,h2,h3,h4,h5,h6,h0,h7,h8]
theorem N2 {l6:List Tok}(h0:RdOk l4)(h1:aj l=((⟨rn,rx,rs⟩,is),l1))(h2:fe (gA rn rx rs)=true)(h3:bd ⟨#[93]⟩ l1=(false,l2))(h4:aY ⟨#[44]⟩ l2=.ok l3)(h5:aj l3=((⟨mn,mx,ms⟩,true),l4))(h6:aR (yd rn rx rs mn mx ms) 12 (-1) l4=.ok (o,l5))(h7:dy o=true)(h8:aY ⟨#[93]⟩ l5=.ok l6):jN l (.ok (o,l6)):=by
 refine aq [⟨_,gq⟩,⟨_,eC⟩,⟨_,dx⟩,⟨_,gF⟩,⟨_,mB⟩,⟨_,ml⟩,⟨_,uC⟩] rfl ?_;simp only[go_sem,ap,opE,opD,opV,aO,aN,bN,bK,d5,d9,cN,cM,d7,d8,h1,h2,h3,h4,h5];refine bu (ctx:=[]) mixed ⟨[],[(2,[177]),(4,[177]),(6,[177]),(8,[177])],[(0,[177])]⟩ (by kernel_rfl) ?_;simp only[go_sem,ap,opE,opD,opV,aO,aN,bN,bK,d5,d9,cN,cM,d7,d8,h1,h2,h3,h4,h5,h6,h0,h7,h8];exact bk rfl rfl
variable {w:gO}
theorem N3 (h1:aj l=((⟨rn,rx,rs⟩,is),l1))(h2:fe (gA rn rx rs)=true)(h3:bd ⟨#[93]⟩ l1=(false,l2))(h4:aY ⟨#[44]⟩ l2=.ok l3)(h5:aj l3=((w,false),l4))(h6:loR l4=.error e):jN l (.error e):=by
 refine aq [⟨_,gq⟩,⟨_,eC⟩,⟨_,dx⟩,⟨_,gF⟩,⟨_,mB⟩,⟨_,xi⟩] rfl ?_;simp only[go_sem,ap,opE,opD,opV,aO,aN,bN,bK,d5,d9,cN,cM,d7,d8,h1,h2,h3,h4,h5,h6]
theorem N4 {l6:List Tok}(h0:RdOk l5)(h1:aj l=((⟨rn,rx,rs⟩,is),l1))(h2:fe (gA rn rx rs)=true)(h3:bd ⟨#[93]⟩ l1=(false,l2))(h4:aY ⟨#[44]⟩ l2=.ok l3)(h5:aj l3=((w,false),l4))(h6:loR l4=.ok (true,l5))(hv:aP l5=.ok (⟨va,vp,vm⟩,l6)) :
  jN l (match aY ⟨#[93]⟩ l6 with | .error e=>.error e | .ok l=>.ok ({ nT (gA rn rx rs) ⟨va,vp,vm⟩ with lo:=true },l)):=by
 refine aq [⟨_,gq⟩,⟨_,eC⟩,⟨_,dx⟩,⟨_,gF⟩,⟨_,mB⟩,⟨_,xi⟩,⟨_,lm⟩] rfl ?_;rcases h7:aY ⟨#[93]⟩ l6 with e | l7
 ·simp only[go_sem,ap,opE,opD,opV,aO,aN,bN,bK,d5,d9,cN,cM,d7,d8,h1,h2,h3,h4,h5,h6,h0,hv,h7]
 ·simp only[go_sem,ap,opE,opD,opV,aO,aN,bN,bK,d5,d9,cN,cM,d7,d8,h1,h2,h3,h4,h5,h6,h0,hv,h7,nT];exact bk rfl rfl
theorem KB (h0:RdOk l5)(h1:aj l=((⟨rn,rx,rs⟩,is),l1))(h2:fe (gA rn rx rs)=true)(h3:bd ⟨#[93]⟩ l1=(false,l2))(h4:aY ⟨#[44]⟩ l2=.ok l3)(h5:aj l3=((w,false),l4))(h6:loR l4=.ok (true,l5))(hv:aP l5=.error e):jN l (.error e):=by
 refine aq [⟨_,gq⟩,⟨_,eC⟩,⟨_,dx⟩,⟨_,gF⟩,⟨_,mB⟩,⟨_,xi⟩,⟨_,lm⟩] rfl ?_;simp only[go_sem,ap,opE,opD,opV,aO,aN,bN,bK,d5,d9,cN,cM,d7,d8,h1,h2,h3,h4,h5,h6,h0,hv]
theorem KD (h1:aj l=((⟨rn,rx,rs⟩,is),l1))(h2:fe (gA rn rx rs)=true)(h3:bd ⟨#[93]⟩ l1=(false,l2))(h4:aY ⟨#[44]⟩ l2=.ok l3)(h5:aj l3=((w,false),l4))(h6:loR l4=.ok (false,l5))(h7:aY ⟨#[35]⟩ l5=.error e):jN l (.error e):=by
 refine aq [⟨_,gq⟩,⟨_,eC⟩,⟨_,dx⟩,⟨_,gF⟩,⟨_,mB⟩,⟨_,xi⟩,⟨_,lm⟩] rfl ?_;simp only[go_sem,ap,opE,opD,opV,aO,aN,bN,bK,d5,d9,cN,cM,d7,d8,h1,h2,h3,h4,h5,h6,h7]
theorem KE {l6:List Tok}(h0:RdOk l6)(h1:aj l=((⟨rn,rx,rs⟩,is),l1))(h2:fe (gA rn rx rs)=true)(h3:bd ⟨#[93]⟩ l1=(false,l2))(h4:aY ⟨#[44]⟩ l2=.ok l3)(h5:aj l3=((w,false),l4))(h6:loR l4=.ok (false,l5))(h7:aY ⟨#[35]⟩ l5=.ok l6)(hv:aP l6=.error e):jN l (.error e):=by
 refine aq [⟨_,gq⟩,⟨_,eC⟩,⟨_,dx⟩,⟨_,gF⟩,⟨_,mB⟩,⟨_,xi⟩,⟨_,lm⟩] rfl ?_;simp only[go_sem,ap,opE,opD,opV,aO,aN,bN,bK,d5,d9,cN,cM,d7,d8,h1,h2,h3,h4,h5,h6,h7,h0,hv]
theorem N5 {l6 l7:List Tok}(h0:RdOk l6)(h1:aj l=((⟨rn,rx,rs⟩,is),l1))(h2:fe (gA rn rx rs)=true)(h3:bd ⟨#[93]⟩ l1=(false,l2))(h4:aY ⟨#[44]⟩ l2=.ok l3)(h5:aj l3=((w,false),l4))(h6:loR l4=.ok (false,l5))(h7:aY ⟨#[35]⟩ l5=.ok l6)(hv:aP l6=.ok (⟨va,vp,vm⟩,l7)) :
  jN l (match aY ⟨#[93]⟩ l7 with | .error e=>.error e | .ok l=>if(bd ⟨#[33]⟩ l).1=true then .ok ({ nT (gA rn rx rs) ⟨va,vp,vm⟩ with mode:=1 },(bd ⟨#[33]⟩ l).2) else .ok (nT (gA rn rx rs) ⟨va,vp,vm⟩,l)):=by
 refine aq [⟨_,gq⟩,⟨_,eC⟩,⟨_,dx⟩,⟨_,gF⟩,⟨_,mB⟩,⟨_,xi⟩,⟨_,lm⟩] rfl ?_;rcases h8:aY ⟨#[93]⟩ l7 with e | l8
 ·simp only[go_sem,ap,opE,opD,opV,aO,aN,bN,bK,d5,d9,cN,cM,d7,d8,h1,h2,h3,h4,h5,h6,h7,h0,hv,h8]
 ·by_cases hb:atF l8 4 0=⟨#[33]⟩
  ·have h9:bd ⟨#[33]⟩ l8=(true,l8.drop 1):=by unfold bd;rw[if_pos hb]
   simp only[go_sem,ap,opE,opD,opV,aO,aN,bN,bK,d5,d9,cN,cM,d7,d8,h1,h2,h3,h4,h5,h6,h7,h0,hv,h8,h9,nT];exact bk rfl rfl
  ·have h9:bd ⟨#[33]⟩ l8=(false,l8):=by unfold bd;rw[if_neg hb]
   simp only[go_sem,ap,opE,opD,opV,aO,aN,bN,bK,d5,d9,cN,cM,d7,d8,h1,h2,h3,h4,h5,h6,h7,h0,hv,h8,h9,nT];exact bk rfl rfl
end
theorem QB (l:List Tok)(h:RdOk l):jN l (gK l):=by
 rcases h1:aj l with ⟨⟨⟨rn,rx,rs⟩,is⟩,l1⟩;obtain⟨e1,-⟩:=nD h1;have k1:=nE h h1;unfold gK;rw[e1,h1];simp only;cases h2:fe (gA rn rx rs) with
 |false=>rw[if_pos (show fe (D1 ⟨rn,rx,rs⟩)=false from h2)];exact N1 h1 h2
 |true =>
 rw[if_neg (show ¬fe (D1 ⟨rn,rx,rs⟩)=false by rw[show fe (D1 ⟨rn,rx,rs⟩)=true from h2];simp)];rcases h3:bd ⟨#[93]⟩ l1 with ⟨b,l2⟩;have k2:=L2 k1 h3;rw[show bd lR l1=(b,l2) from h3];cases b with
 |true =>
  simp only[if_true];unfold wo;by_cases h4:atF l2 4 0=⟨#[44]⟩∧atF l2 4 1=⟨#[35]⟩
  ·rw[if_pos (show atF l2 4 0=cQ∧atF l2 4 1=cL from h4)];rcases hv:aP (l2.drop 2) with e | ⟨⟨va,vp,vm⟩,l3⟩
   ·exact Ho k2 h1 h2 h3 h4.1 h4.2 hv
   ·exact KC k2 h1 h2 h3 h4.1 h4.2 hv
  ·rw[if_neg (show ¬(atF l2 4 0=cQ∧atF l2 4 1=cL) from h4)];exact Hn h1 h2 h3 h4
 |false =>
  have hs:l2=l1:=by
   unfold bd at h3;split at h3<;>injection h3 with h3 h4
   ·cases h3
   ·exact h4.symm
  rw[if_neg (by simp)];unfold lv;rcases h4:aY ⟨#[44]⟩ l2 with e | l3
  ·rw[←hs,show aY cQ l2=.error e from h4];exact Kx h1 h2 h3 h4
  rw[←hs,show aY cQ l2=.ok l3 from h4];obtain⟨k3,-⟩:=dq cN k2 h4;simp only;rcases h5:aj l3 with ⟨⟨⟨mn,mx,ms⟩,b⟩,l4⟩;obtain⟨e5,e6⟩:=nD h5;have k4:=nE k3 h5;rw[e5];cases b with
  |true =>
   rw[if_pos rfl]at e6;rw[if_pos rfl,←e6];show jN l (zp (yd rn rx rs mn mx ms) l4);unfold zp;rcases h6:aR (yd rn rx rs mn mx ms) 12 (-1) l4 with e | ⟨o,l5⟩
   ·exact Kz k4 h1 h2 h3 h4 h5 h6
   ·simp only;cases h7:dy o with
    |false=>rw[if_pos rfl];exact Ky k4 h1 h2 h3 h4 h5 h6 h7
    |true =>
     rw[if_neg (by simp)];rcases h8:aY ⟨#[93]⟩ l5 with e | l6
     ·rw[show aY lR l5=.error e from h8];exact KA k4 h1 h2 h3 h4 h5 h6 h7 h8
     ·rw[show aY lR l5=.ok l6 from h8];exact N2 k4 h1 h2 h3 h4 h5 h6 h7 h8
  |false =>
   rw[if_neg (by simp)]at e6;rw[if_neg (by simp)];subst e6;rcases h6:loR l4 with e | ⟨b,l5⟩
   ·exact N3 h1 h2 h3 h4 h5 h6
   have k5:=Kv k4 h6;simp only;cases b with
   |true =>
    rw[if_pos rfl];unfold Br;rcases hv:aP l5 with e | ⟨⟨va,vp,vm⟩,l6⟩
    ·exact KB k5 h1 h2 h3 h4 h5 h6 hv
    ·exact N4 k5 h1 h2 h3 h4 h5 h6 hv
   |false =>
    rw[if_neg (by simp)];unfold BT;rcases h7:aY ⟨#[35]⟩ l5 with e | l6
    ·rw[show aY cL l5=.error e from h7];exact KD h1 h2 h3 h4 h5 h6 h7
    obtain⟨k6,-⟩:=dq cM k5 h7;rw[show aY cL l5=.ok l6 from h7];simp only;rcases hv:aP l6 with e | ⟨⟨va,vp,vm⟩,l7⟩
    ·exact KE k6 h1 h2 h3 h4 h5 h6 h7 hv
    ·exact N5 k6 h1 h2 h3 h4 h5 h6 h7 hv
abbrev UF:am prog 202 :=
 qw _ _ _ func202 (asP rfl) (asP fun _ _=>by go_simp) (xs0) ((fun _ l=>RdOk l)) ((fun _ l=>(gK l).map fun(p:OpV×List Tok)=>(opV p.1,p.2))) (asP (by rw[ntmps202];decide)) (asP fun _ l h=>QB l h)
end
end Go.Proofs.YtnhbidpdadkcjaaGreatDoor
