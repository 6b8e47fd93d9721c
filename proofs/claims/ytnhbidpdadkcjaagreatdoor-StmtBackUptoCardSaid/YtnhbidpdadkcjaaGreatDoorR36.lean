import Derived.Test.YtnhbidpdadkcjaaGreatDoorR30
import Derived.Test.YtnhbidpdadkcjaaGreatDoorR35
open Go.RowKit
set_option linter.unusedVariables false
set_option linter.unusedSimpArgs false
set_option maxRecDepth 100000
set_option maxHeartbeats 8000000
open Int (toNat_zero toNat_one)
namespace Go.Proofs.YtnhbidpdadkcjaaGreatDoor
open Tryz
section
open Ex (Xs xs0)
def tA (e:Int):Value:=.iface 170 (.agg #[.int .i64 e])
def rdK (l:List Tok):Blk:=⟨true,144,1,[[.d (.sd 4 (l.map lq.enc))]]⟩
def yd (h:ai):AV→Option (Nat×List Tok)
 |.s (.l (.p b 0 0))=>match hget h b with
  |some ⟨true,T,1,[[.d (.sd 4 els)]]⟩=>match df lq.dec els with
   |some l=>if T=144 then some (b,l) else none
   |none=>none
  |_=>none
 |_=>none
theorem El {h:ai}{A:AV}{b:Nat}{l:List Tok}(hd:yd h A=some (b,l)):A=pv b 0 0∧hget h b=some (rdK l):=by
 unfold yd at hd;split at hd
 case h_2=>cases hd
 rename_i b';split at hd
 case h_2=>cases hd
 rename_i T els hb;split at hd
 case h_2=>cases hd
 rename_i l' hl;split at hd
 case isFalse=>cases hd
 rename_i hT;injection hd with hd;injection hd with e1 e2;subst e1 e2 hT;exact⟨rfl,by rw[hb,rdK,←dW lq hl]⟩
theorem ye {h h':ai}(hs:∀b k,hget h b=some k→hget h' b=some k){A:AV}{r:Nat×List Tok}(hd:yd h A=some r):yd h' A=some r:=by
 unfold yd at hd ⊢;split at hd
 case h_2=>cases hd
 split at hd
 case h_2=>cases hd
 rename_i hb;simp only[hs _ _ hb];exact hd
def gO:Except Int (AV×List Tok)→RO
 |.ok (r,l)=>.ret r [some (rdK l)] []
 |.error e=>.pan (tA e)
theorem PN {r:AV}{l:List Tok}:gO (.ok (r,l))=.ret r [some (rdK l)] []:=rfl
theorem wy {e:Int}:gO (.error e)=.pan (tA e):=rfl
def jT {X:Type}(T:Xs X)(q:X→List Tok→Prop)(h:ai):List AV→Option (Prop×List Nat×(X×List Tok))
 |A::zs=>match yd h A,T.dec zs with
  |some (b,l),some x=>some (q x l,[b],(x,l))
  |_,_=>none
 |[]=>none
def sQ {X:Type}(f:FuncId)(fn:Func)(c:Code)(hf:Tryz.prog.funcs[f]? = some fn)(hb:fn.body=some c)
  (hen:∀(args:Array Value) (w:World),(callFunc f args).run prog w=.ok (.enter f args) w) (T:Xs X) (q:X→List Tok→Prop) (F:X→List Tok→Except Int (AV×List Tok)) (hn:T.len+1≤fn.ntmps)
  (body:∀x l,q x l→SW prog ⟨none,1⟩ fn.ntmps c ⟨1,aB 0 (pv 0 0 0::T.enc x),aL 0 [rdK l]⟩ (xb prog fn.results.toList 1 (gO (F x l)))):ap prog f :=
 mkR 1 1 (by decide) f fn c hf hb hen (jT T q) (fun x=>pv 0 0 0::T.enc x.1) (fun x=>[rdK x.2]) (fun x=>gO (F x.1 x.2))
  (by
   intro h h' args r hs hd;unfold jT at hd ⊢;split at hd
   ·split at hd
    ·rename_i h1 h2;rw[ye hs h1,h2];exact hd
    ·cases hd
   ·cases hd)
  (by
   intro h zs q' bs x hd hq;unfold jT at hd;split at hd
   case h_2=>cases hd
   rename_i A zs';split at hd
   case h_2=>cases hd
   rename_i b l x' h1 h2;injection hd with hd;injection hd with e1 hd;injection hd with e2 e3;subst e2;subst e3;obtain⟨rfl,hb1⟩:=El h1;refine⟨by rw[List.length_cons,T.enc_len];exact hn,rfl,rfl,by simp,fun d=>⟨?_,?_⟩⟩
   ·intro j b' k hj hk
    match j,hj,hk with
    |0,hj,hk =>
     simp at hj hk;subst hj;subst hk;exact⟨rfl,by rw[hb1];rfl⟩
   ·intro ρ al vals hA
    match vals,hA with
    |v::vs,⟨a,r⟩=>exact⟨a,T.ok (al:=al) h2 (Mem.le_refl _) r⟩)
  (by
   intro h zs q' bs x hd hq;unfold jT at hd;split at hd
   case h_2=>cases hd
   split at hd
   case h_2=>cases hd
   injection hd with hd;injection hd with e1 hd;injection hd with e2 e3;subst e1;subst e3;exact body _ _ hq)
def xs1 {α:Type}(T:Ty α)(hfl:∀x,∀(ρ ρ':Nat→Loc) (al al':Al) (v:Value),al.M.le al'.M→ARep ρ al (T.enc x) v→ARep ρ' al' (T.enc x) v):Xs α where
 dec:=fun | [A]=>T.dec A | _=>none
 enc:=fun t=>[T.enc t]
 len:=1
 enc_len:=fun _=>rfl
 ok:=by
  intro zs x h ρ ρ' al al' vals hM hA;split at h
  ·match vals,hA with
   |[v],⟨a,_⟩=>exact⟨hfl x _ _ _ _ v hM (T.ok h a),trivial⟩
  ·cases h
def uJ:Xs Int:=xs1 (bO .i64) fun x ρ ρ' al al' v hM a=>ARep.flat hM a (by rfl)
def Gq:Xs ByteArray:=xs1 bw fun x ρ ρ' al al' v hM a=>ARep.flat hM a (by rfl)
def xs2:Xs (Int×Int) where
 dec:=fun | [.s (.l (.v (.int .i64 a))),.s (.l (.v (.int .i64 b)))]=>some (a,b) | _=>none
 enc:=fun t=>[iv t.1,iv t.2]
 len:=2
 enc_len:=fun _=>rfl
 ok:=by
  intro zs x h ρ ρ' al al' vals hM hA;split at h
  ·injection h with h;subst h
   match vals,hA with
   |[v,u],⟨a,b,_⟩=>exact⟨a,b,trivial⟩
  ·cases h
theorem bM {l:List Tok}{r:AV}{st:St}(hr:r.plain=true)(h1:hget st.h 0=some (rdK l)) :
  oo 1 st (gO (.ok (r,l))) (some r):=by
 refine⟨hr,[some (rdK l)],[],rfl,rfl,by simp,by simp[rdK],by simp,Wk.ren [0] (by intro j hj;have:j=0:=(by simpa using hj);subst this;rfl) (Nat.le_refl _) (by simp) (fun p hp=>by cases hp) ?_⟩;intro p hp k hk;simp only[fX,aL,List.append_nil,List.mem_cons,List.not_mem_nil,or_false]at hp;subst hp;simp only[Option.some.injEq]at hk;subst hk;simp only[List.getD_eq_getElem?_getD,List.getElem?_cons_zero,Option.getD_some,h1];rfl
@[go_sem] theorem mkRd_rn {X:Type} {T:Xs X} {f fn c hf hb hen q G hn body id h args}:(sQ f fn c hf hb hen T q G hn body).run id h args=kJ 1 (jT T q) (fun x=>gO (G x.1 x.2)) id h args:=rfl
@[go_sem] theorem mkRd_pn {X:Type} {T:Xs X} {f fn c hf hb hen q G hn body id h args}:(sQ f fn c hf hb hen T q G hn body).pan id h args=kb (jT T q) (fun x=>gO (G x.1 x.2)) h args:=rfl
end
section
open Ex (Xs xs0)
def eX:ap prog 151 :=
 sQ _ _ _ func151 rfl (fun _ _=>by go_simp) (uJ) ((fun _ _=>True)) ((fun e _=>.error e)) (by rw[ntmps151];decide) (fun e l _=>by
 refine aq [] rfl ?_;simp only[go_sem,uJ,xs1,wy,tA])
theorem K8 {id:Nat}{h:ai}{args:List AV}:(eX).run id h args=kJ 1 (jT (uJ) ((fun _ _=>True))) (fun x=>gO (((fun e _=>.error e)) x.1 x.2)) id h args:=rfl
theorem K7 {id:Nat}{h:ai}{args:List AV}:(eX).pan id h args=kb (jT (uJ) ((fun _ _=>True))) (fun x=>gO (((fun e _=>.error e)) x.1 x.2)) h args:=rfl
theorem XB (k:Int)(m:Nat)(l:List Tok):Sw f201 1 ⟨1,aB 0 [pv 0 0 0,iv k,iv m],aL 0 [rdK l]⟩ (oR f201 1 (gO (.ok (sv (atF l k m),l)))):=by
 refine aq [] rfl ?_;rcases hl:l[m]? with _ | t
 ·have hlt:¬(m:Int)<l.length:=by have:=List.getElem?_eq_none_iff.1 hl;omega
  have e:atF l k m=emp:=by unfold atF;rw[hl]
  rw[e];simp only[go_sem,rdK,hlt];exact bM rfl rfl
 ·have hlt:(m:Int)<l.length:=by have:=(List.getElem?_eq_some_iff.1 hl).1;omega
  by_cases hk:t.kind=k
  ·have e:atF l k m=t.text:=by unfold atF;rw[hl];simp only[if_pos hk]
   rw[e];simp only[go_sem,rdK,hlt,hl,lp,eq_true hk];exact bM rfl rfl
  ·have e:atF l k m=emp:=by unfold atF;rw[hl];simp only[if_neg hk]
   rw[e];simp only[go_sem,rdK,hlt,hl,lp,hk];exact bM rfl rfl
def atS:ap prog 201 :=
 sQ _ _ _ func201 rfl (fun _ _=>by go_simp) (xs2) ((fun x _=>0≤x.2)) ((fun x l=>.ok (sv (atF l x.1 x.2.toNat),l))) (by rw[ntmps201];decide) (fun x l h=>by
 obtain⟨k,n⟩:=x;obtain⟨m,rfl⟩:=Int.eq_ofNat_of_zero_le h;exact XB k m l)
theorem U9 {id:Nat}{h:ai}{args:List AV}:(atS).run id h args=kJ 1 (jT (xs2) ((fun x _=>0≤x.2))) (fun x=>gO (((fun x l=>.ok (sv (atF l x.1 x.2.toNat),l))) x.1 x.2)) id h args:=rfl
theorem U8 {id:Nat}{h:ai}{args:List AV}:(atS).pan id h args=kb (jT (xs2) ((fun x _=>0≤x.2))) (fun x=>gO (((fun x l=>.ok (sv (atF l x.1 x.2.toNat),l))) x.1 x.2)) h args:=rfl
theorem mg (l:List Tok)(n:Nat)(h:n≤l.length):((l.map lq.enc).drop n).take (l.length-n)=(l.drop n).map lq.enc:=by
 rw[←List.map_drop,List.take_of_length_le (by simp)]
theorem TV (m:Nat)(l:List Tok)(h:m≤l.length):Sw f240 1 ⟨1,aB 0 [pv 0 0 0,iv m],aL 0 [rdK l]⟩ (oR f240 1 (gO (.ok (jF,l.drop m)))):=by
 refine aq [] rfl ?_;have h1:(m:Int)≤l.length:=by omega
 simp only[go_sem,rdK,h1,mg l m h];exact bM rfl rfl
def sk:ap prog 240 :=
 sQ _ _ _ func240 rfl (fun _ _=>by go_simp) (uJ) ((fun n l=>0≤n∧n≤l.length)) ((fun n l=>.ok (jF,l.drop n.toNat))) (by rw[ntmps240];decide) (fun n l h=>by
 obtain⟨m,rfl⟩:=Int.eq_ofNat_of_zero_le h.1;exact TV m l (by omega))
theorem QB {id:Nat}{h:ai}{args:List AV}:(sk).run id h args=kJ 1 (jT (uJ) ((fun n l=>0≤n∧n≤l.length))) (fun x=>gO (((fun n l=>.ok (jF,l.drop n.toNat))) x.1 x.2)) id h args:=rfl
theorem QA {id:Nat}{h:ai}{args:List AV}:(sk).pan id h args=kb (jT (uJ) ((fun n l=>0≤n∧n≤l.length))) (fun x=>gO (((fun n l=>.ok (jF,l.drop n.toNat))) x.1 x.2)) h args:=rfl
end
section
open Ex (Xs xs0)
attribute [go_sem] rdK jT yd uJ Gq xs2 xs1 xs0 PN wy Except.map U9 U8 QB QA K8 K7
theorem DA (s:ByteArray)(l:List Tok)(hs:¬s=emp):Sw f198 1 ⟨1,aB 0 [pv 0 0 0,sv s],aL 0 [rdK l]⟩ (oR f198 1 (gO (.ok (bv (bc s l).1,(bc s l).2)))):=by
 refine aq [⟨_,atS⟩,⟨_,sk⟩] rfl ?_;by_cases h:atF l 4 0=s
 ·have hl:(1:Int)≤l.length:=by have:=jl (l:=l) (k:=4) (n:=0) (by rw[h];exact hs);omega
  have e:bc s l=(true,l.drop 1):=by unfold bc;rw[if_pos h]
  rw[e];simp only[go_sem,h,hl,toNat_zero,toNat_one];exact bM rfl rfl
 ·have e:bc s l=(false,l):=by unfold bc;rw[if_neg h]
  rw[e];simp only[go_sem,h,toNat_zero,toNat_one];exact bM rfl rfl
abbrev jb:ap prog 198 :=
 sQ _ _ _ func198 (asP rfl) (asP fun _ _=>by go_simp) (Gq) ((fun s _=>¬s=emp)) ((fun s l=>.ok (bv (bc s l).1,(bc s l).2))) (asP (by rw[ntmps198];decide)) (asP fun s l h=>DA s l h)
theorem S8 (s:ByteArray)(l:List Tok)(hs:¬s=emp):Sw f150 1 ⟨1,aB 0 [pv 0 0 0,sv s],aL 0 [rdK l]⟩ (oR f150 1 (gO ((mustR s l).map fun l=>(jF,l)))):=by
 refine aq [⟨_,jb⟩,⟨_,eX⟩] rfl ?_;by_cases h:atF l 4 0=s
 ·have e:bc s l=(true,l.drop 1):=by unfold bc;rw[if_pos h]
  have e2:mustR s l=.ok (l.drop 1):=by unfold mustR;rw[if_pos h]
  rw[e2];simp only[go_sem,hs,e];exact bM rfl rfl
 ·have e:bc s l=(false,l):=by unfold bc;rw[if_neg h]
  have e2:mustR s l=.error 100:=by unfold mustR;rw[if_neg h]
  rw[e2];simp only[go_sem,hs,e]
abbrev ov:ap prog 150 :=
 sQ _ _ _ func150 (asP rfl) (asP fun _ _=>by go_simp) (Gq) ((fun s _=>¬s=emp)) ((fun s l=>(mustR s l).map fun l=>(jF,l))) (asP (by rw[ntmps150];decide)) (asP fun s l h=>S8 s l h)
def Xk (v:Val):AV:=(ln kl).enc v
theorem cu (v:Val):Xk v=.s (.agg [.v (.int .i64 v.add),.v (.string v.plus),.v (.string v.minus)]):=rfl
theorem Nf (l:List Tok)(h:RdOk l):Sw f203 1 ⟨1,aB 0 [pv 0 0 0],aL 0 [rdK l]⟩ (oR f203 1 (gO ((valueR l).map fun p=>(Xk p.1,p.2)))):=by
 refine aq [⟨_,Ex.parseS⟩,⟨_,Ex.evalS⟩,⟨_,sk⟩,⟨_,eX⟩] rfl ?_;have hn:=Ex.parseF_nice h.named;have hl6:=h.few;rcases hp:Ex.parseF l with e | s
 ·rw[hp]at hn;have hne:¬e=0:=hn;have hv:valueR l=.error e:=by unfold valueR;rw[hp]
  rw[hv];simp only[go_sem,Ex.parse_run,Ex.parse_pan,Ex.outParse,hl6,hp,hne]
 ·rw[hp]at hn;obtain⟨g1,g2,g3,g4,g5⟩:=hn;have q2:s.ts.length≤1099511627776:=by omega
  have q3:∀t∈s.ts,t.sym.size≤140737488355328:=fun t ht=>by have:=Ex.termB_size (g2 t ht);omega
  have q4:(s.at_:Int)≤l.length:=by omega
  have q5:(0:Int)≤s.at_:=by omega
  rcases hev:Ex.evalAll s.ts with ⟨⟨va,vp,vm⟩,x⟩;by_cases hx:x=0
  ·subst hx;have hv:valueR l=.ok (⟨va,vp,vm⟩,l.drop s.at_):=by unfold valueR;rw[hp];simp only[hev,if_true]
   rw[hv];simp only[go_sem,Ex.parse_run,Ex.parse_pan,Ex.outParse,hl6,hp,Ex.eval_pan,Ex.outEval,hev,q2,q4,q5,cu];exact⟨q3,bM rfl rfl⟩
  ·have hv:valueR l=.error x:=by unfold valueR;rw[hp];simp only[hev,if_neg hx]
   rw[hv];simp only[go_sem,Ex.parse_run,Ex.parse_pan,Ex.outParse,hl6,hp,Ex.eval_pan,Ex.outEval,hev,q2,hx];exact q3
abbrev mM:ap prog 203 :=
 sQ _ _ _ func203 (asP rfl) (asP fun _ _=>by go_simp) (xs0) ((fun _ l=>RdOk l)) ((fun _ l=>(valueR l).map fun(p:Val×List Tok)=>(Xk p.1,p.2))) (asP (by rw[ntmps203];decide)) (asP fun _ l h=>Nf l h)
theorem NX (l:List Tok)(h:RdOk l):Sw f241 1 ⟨1,aB 0 [pv 0 0 0],aL 0 [rdK l]⟩ (oR f241 1 (gO ((countR l).map fun p=>(iv p.1,p.2)))):=by
 refine aq [⟨_,ov⟩,⟨_,mM⟩,⟨_,NN⟩,⟨_,eX⟩] rfl ?_;have hsh:¬(⟨#[35]⟩:ByteArray)=emp:=by decide
 rcases h1:mustR ⟨#[35]⟩ l with e | l1
 ·have hc:countR l=.error e:=by unfold countR;rw[show mustR aU l=.error e from h1]
  rw[hc];simp only[go_sem,hsh,h1]
 ·obtain⟨g1,-⟩:=fG hsh h h1;rcases h2:valueR l1 with e | ⟨⟨va,vp,vm⟩,l2⟩
  ·have hc:countR l=.error e:=by unfold countR;rw[show mustR aU l=.ok l1 from h1];simp only[h2]
   rw[hc];simp only[go_sem,hsh,h1,g1,h2]
  ·have hc:countR l=if(vp=emp∧vm=emp)∧0≤va∧va≤63 then .ok (va,l2) else .error 100:=by unfold countR;rw[show mustR aU l=.ok l1 from h1];simp only[h2]
   by_cases ha:vp=emp∧vm=emp
   ·have hA:(decide (vp=emp)&&decide (vm=emp))=true:=by rw[ha.1,ha.2];rfl
    by_cases h0:va<0
    ·rw[hc,nG];simp only[go_sem,hsh,h1,g1,h2,cu,ce,hA,h0]
    ·by_cases h63:63<va
     ·rw[hc,nG];simp only[go_sem,hsh,h1,g1,h2,cu,ce,hA,h0,h63]
     ·rw[hc,if_pos ⟨ha,by omega,by omega⟩];simp only[go_sem,hsh,h1,g1,h2,cu,ce,hA,h0,h63];exact bM rfl rfl
   ·have hA:(decide (vp=emp)&&decide (vm=emp))=false:=by
     rw[Bool.and_eq_false_iff,decide_eq_false_iff_not,decide_eq_false_iff_not];exact Decidable.not_and_iff_or_not.1 ha
    rw[hc,if_neg (fun h=>ha h.1)];simp only[go_sem,hsh,h1,g1,h2,cu,ce,hA]
abbrev XN:ap prog 241 :=
 sQ _ _ _ func241 (asP rfl) (asP fun _ _=>by go_simp) (xs0) ((fun _ l=>RdOk l)) ((fun _ l=>(countR l).map fun(p:Int×List Tok)=>(iv p.1,p.2))) (asP (by rw[ntmps241];decide)) (asP fun _ l h=>NX l h)
theorem X9 (l:List Tok):Sw f204 1 ⟨1,aB 0 [pv 0 0 0],aL 0 [rdK l]⟩ (oR f204 1 (gO ((loR l).map fun p=>(bv p.1,p.2)))):=by
 refine aq [⟨_,atS⟩,⟨_,sk⟩,⟨_,eX⟩] rfl ?_;by_cases h0:atF l 4 0=⟨#[58]⟩
 ·by_cases h1:atF l 1 1=⟨#[108,111,49,50]⟩
  ·by_cases h2:atF l 4 2=⟨#[58]⟩
   ·have hl:(3:Int)≤l.length:=by have:=jl (l:=l) (k:=4) (n:=2) (by rw[h2];decide);omega
    have e:loR l=.ok (true,l.drop 3):=by unfold loR aO mr;rw[if_neg (fun h=>h h0),if_neg (by simp[h1,h2])]
    rw[e];simp only[go_sem,toNat_zero,toNat_one,h0,h1,h2,hl];exact bM rfl rfl
   ·have e:loR l=.error 100:=by unfold loR aO mr;rw[if_neg (fun h=>h h0),if_pos (.inr h2)]
    rw[e];simp only[go_sem,toNat_zero,toNat_one,h0,h1,h2]
  ·have e:loR l=.error 100:=by unfold loR aO mr;rw[if_neg (fun h=>h h0),if_pos (.inl h1)]
   rw[e];simp only[go_sem,toNat_zero,toNat_one,h0,h1]
 ·have e:loR l=.ok (false,l):=by unfold loR aO;rw[if_pos h0]
  rw[e];simp only[go_sem,toNat_zero,h0];exact bM rfl rfl
abbrev AF:ap prog 204 :=
 sQ _ _ _ func204 (asP rfl) (asP fun _ _=>by go_simp) (xs0) ((fun _ _=>True)) ((fun _ l=>(loR l).map fun(p:Bool×List Tok)=>(bv p.1,p.2))) (asP (by rw[ntmps204];decide)) (asP fun _ l h=>X9 l)
def cz (p:gu×Bool):AV:=.tup [.agg [.v (.int .i64 p.1.n),.v (.bool p.1.x),.v (.bool p.1.sp)],.l (.v (.bool p.2))]
theorem FK (l:List Tok):Sw f199 1 ⟨1,aB 0 [pv 0 0 0],aL 0 [rdK l]⟩ (oR f199 1 (gO (.ok (cz (ao l).1,(ao l).2)))):=by
 refine aq [⟨_,atS⟩,⟨_,sk⟩,⟨_,Yr⟩] rfl ?_;by_cases h:(dg 3 (atF l 1 0)).2=0
 ·have hl:(1:Int)≤l.length:=by
   have:=jl (l:=l) (k:=1) (n:=0) (fun e=>by rw[e]at h;revert h;decide +kernel);omega
  have e:ao l=(((dg 3 (atF l 1 0)).1,true),l.drop 1):=by unfold ao gR;rw[if_pos h];rfl
  rw[e];simp only[go_sem,toNat_zero,toNat_one,kg,h,hl,cz];exact bM rfl rfl
 ·have e:ao l=((r0,false),l):=by unfold ao gR;rw[if_neg h];rfl
  rw[e];simp only[go_sem,toNat_zero,toNat_one,kg,h,cz,r0];exact bM rfl rfl
abbrev iR:ap prog 199 :=
 sQ _ _ _ func199 (asP rfl) (asP fun _ _=>by go_simp) (xs0) ((fun _ _=>True)) ((fun _ l=>.ok (cz (ao l).1,(ao l).2))) (asP (by rw[ntmps199];decide)) (asP fun _ l h=>FK l)
end
section
open Ex (Xs xs0)
def fM:Xs (OpV×Int×Int) where
 dec:=fun | [A,.s (.l (.v (.int .i64 a))),.s (.l (.v (.int .i64 b)))]=>(tOp.dec A).map fun o=>(o,a,b) | _=>none
 enc:=fun t=>[tOp.enc t.1,iv t.2.1,iv t.2.2]
 len:=3
 enc_len:=fun _=>rfl
 ok:=by
  intro zs x h ρ ρ' al al' vals hM hA;split at h
  ·rw[Option.map_eq_some_iff]at h;obtain⟨o,h,rfl⟩:=h
   match vals,hA with
   |[v,u,y],⟨a,b,c,_⟩=>exact⟨(tOp.ok h a).flat hM (by rfl),b,c,trivial⟩
  ·cases h
theorem O5:¬(ag 3 3 emp).2=0:=by decide +kernel
theorem GT (o:OpV)(most nn:Int)(l:List Tok)(h:RdOk l):Sw f200 1 ⟨1,aB 0 [pv 0 0 0,tOp.enc o,iv most,iv nn],aL 0 [rdK l]⟩ (oR f200 1 (gO ((changedR o most nn l).map fun p=>(opV p.1,p.2)))):=by
 refine aq [⟨_,atS⟩,⟨_,xw⟩,⟨_,sk⟩,⟨_,XN⟩] rfl ?_;have hz:(atF l 1 1).size≤1099511627776:=by have:=xR h 1;omega
 obtain⟨⟨n,e⟩,hn⟩:∃p,ag 3 3 (atF l 1 1)=p:=⟨_,rfl⟩;by_cases hA:atF l 4 0=⟨#[44]⟩
 case neg =>
  have hc:changedR o most nn l=.ok (o,l):=by unfold changedR;rw[if_pos (.inl hA)]
  rw[hc];simp only[go_sem,ah,opE,opV,toNat_zero,toNat_one,bA,hz,hn,hA];exact bM rfl rfl
 by_cases hB:e=0
 case neg =>
  have hc:changedR o most nn l=.ok (o,l):=by unfold changedR;rw[hn,if_pos (.inr (.inl hB))]
  rw[hc];simp only[go_sem,ah,opE,opV,toNat_zero,toNat_one,bA,hz,hn,hA,hB];exact bM rfl rfl
 subst hB
 have hl:(2:Int)≤l.length:=by
  have:=jl (l:=l) (k:=1) (n:=1) (fun e=>O5 (by rw[←e,hn]));omega
 have hA':atF l 4 0=aA:=hA;by_cases hC:most<n
 ·have hc:changedR o most nn l=.ok (o,l):=by unfold changedR;rw[hn,if_pos (.inr (.inr hC))]
  rw[hc];simp only[go_sem,ah,opE,opV,toNat_zero,toNat_one,bA,hz,hn,hA,hC];exact bM rfl rfl
 have hc:changedR o most nn l=if n≤4∨atF (l.drop 2) 4 0=aU then match countR (l.drop 2) with
  |.error e=>.error e
  |.ok (k,l')=>.ok ({ o with md:=n,amt:=k },l')
  else .ok ({ o with md:=n,amt:=nn },l.drop 2):=by unfold changedR;rw[hn,if_neg (by simp[hA',hC])];rfl
 have hr:=h.drop 2;have fin:∀b:Bool,(decide (n≤4)=b)→True:=fun _ _=>trivial;by_cases h4:n≤4
 ·rcases hk:countR (l.drop 2) with x | ⟨k,l'⟩
  ·rw[hc,if_pos (.inl h4)];simp only[go_sem,ah,opE,opV,toNat_zero,toNat_one,bA,hz,hn,hA,hC,hl,Int.reduceToNat,h4,hr,hk]
  ·rw[hc,if_pos (.inl h4)];simp only[go_sem,ah,opE,opV,toNat_zero,toNat_one,bA,hz,hn,hA,hC,hl,Int.reduceToNat,h4,hr,hk];exact bM rfl rfl
 by_cases h5:atF (l.drop 2) 4 0=⟨#[35]⟩
 ·rcases hk:countR (l.drop 2) with x | ⟨k,l'⟩
  ·rw[hc,if_pos (.inr h5)];simp only[go_sem,ah,opE,opV,toNat_zero,toNat_one,bA,hz,hn,hA,hC,hl,Int.reduceToNat,h4,h5,hr,hk]
  ·rw[hc,if_pos (.inr h5)];simp only[go_sem,ah,opE,opV,toNat_zero,toNat_one,bA,hz,hn,hA,hC,hl,Int.reduceToNat,h4,h5,hr,hk];exact bM rfl rfl
 ·rw[hc,if_neg (fun h=>h.elim h4 h5)];simp only[go_sem,ah,opE,opV,toNat_zero,toNat_one,bA,hz,hn,hA,hC,hl,Int.reduceToNat,h4,h5];exact bM rfl rfl
abbrev nX:ap prog 200 :=
 sQ _ _ _ func200 (asP rfl) (asP fun _ _=>by go_simp) (fM) ((fun _ l=>RdOk l)) ((fun x l=>(changedR x.1 x.2.1 x.2.2 l).map fun(p:OpV×List Tok)=>(opV p.1,p.2))) (asP (by rw[ntmps200];decide)) (asP fun x l h=>GT x.1 x.2.1 x.2.2 l h)
theorem B6 {s:ByteArray}{j:Nat}{kd k:Int}(hj:kp[j]? = some (kd,k)):rsvdF s (kp.drop j)=if(ag 3 kd s).2=0 then some (lA k (ag 3 kd s).1) else rsvdF s (kp.drop (j+1)):=by
 have hlt:=(List.getElem?_eq_some_iff.1 hj).1;rw[List.drop_eq_getElem_cons hlt];rw[List.getElem?_eq_getElem hlt]at hj;injection hj with hj;rw[hj,rsvdF]
theorem yQ (k n:Int):opV (lA k n)=.s (.agg [.v (.int .i64 k),.v (.int .i64 0),.v (.bool false),.v (.bool false),.v (.int .i64 0),.v (.bool false),.v (.bool false),.v (.int .i64 0),.v (.int .i64 0),.v (.int .i64 n),.v (.int .i64 0),.v (.string ⟨#[]⟩),.v (.string ⟨#[]⟩),.v (.bool false),.v (.int .i64 0)]):=rfl
theorem FO (s:ByteArray)(l:List Tok)(hs:s.size≤1099511627776)(hl:1≤l.length):Sw f205 1 ⟨1,aB 0 [pv 0 0 0,sv s],aL 0 [rdK l]⟩ (oR f205 1 (gO ((dm s l).map fun p=>(opV p.1,p.2)))):=by
 refine aq [⟨_,eX⟩] rfl ?_;have hlI:(1:Int)≤l.length:=by omega
 simp only[go_sem];refine ba (ι:=Nat) (fun j=>j≤5∧rsvdF s (kp.drop j)=rsvdF s kp) (fun j=>⟨3,[(0,pv 0 0 0),(1,sv s),(4,pv 1 0 0),(9,.s (.l (.sl 2 0 5))),(10,iv 5),(11,iv j)],aL 0 [rdK l,⟨true,79,15,[[.v (.int .i64 0),.v (.int .i64 0),.v (.bool false),.v (.bool false),.v (.int .i64 0),.v (.bool false),.v (.bool false),.v (.int .i64 0),.v (.int .i64 0),.v (.int .i64 0),.v (.int .i64 0),.v (.string ⟨#[]⟩),.v (.string ⟨#[]⟩),.v (.bool false),.v (.int .i64 0)]]⟩,⟨true,3,1,[[.v (.int .i64 2)],[.v (.int .i64 4)],[.v (.int .i64 6)],[.v (.int .i64 7)],[.v (.int .i64 8)]]⟩]⟩) (fun j=>5-j) 0 ⟨Nat.zero_le _,rfl⟩ ?_ ?_
 ·exact wR [0,1,17]
 rintro j ⟨hj,hR⟩;refine aw [⟨_,xw⟩,⟨_,sk⟩,⟨_,eX⟩] ?_;have hlt:j=0∨j=1∨j=2∨j=3∨j=4∨j=5:=by omega
 have no:∀{kd k:Int},kp[j]? = some (kd,k)→¬(ag 3 kd s).2=0→rsvdF s (kp.drop (j+1))=rsvdF s kp:=fun hk hn=>by
  rw[←hR,B6 hk,if_neg hn]
 have yes:∀{kd k n:Int},kp[j]? = some (kd,k)→ag 3 kd s=(n,0)→dm s l=.ok (lA k n,l.drop 1):=fun hk hn=>by
  unfold dm;rw[←hR,B6 hk,hn,if_pos rfl]
 rcases hlt with rfl | rfl | rfl | rfl | rfl | rfl
 ·obtain⟨⟨n,e⟩,hn⟩:∃p,ag 3 2 s=p:=⟨_,rfl⟩;by_cases he:e=0
  ·subst he;rw[yes rfl hn];simp only[go_sem,bA,hs,hn,hlI,Int.reduceToNat,toNat_one,Int.reduceAdd,yQ];exact bM rfl rfl
  ·simp only[go_sem,bA,hs,hn,he,hlI,Int.reduceToNat,toNat_one,Int.reduceAdd];exact⟨1,⟨by omega,no rfl (by rw[hn];exact he)⟩,by omega,wR [0,1,2]⟩
 ·obtain⟨⟨n,e⟩,hn⟩:∃p,ag 3 4 s=p:=⟨_,rfl⟩;by_cases he:e=0
  ·subst he;rw[yes rfl hn];simp only[go_sem,bA,hs,hn,hlI,Int.reduceToNat,toNat_one,Int.reduceAdd,yQ];exact bM rfl rfl
  ·simp only[go_sem,bA,hs,hn,he,hlI,Int.reduceToNat,toNat_one,Int.reduceAdd];exact⟨2,⟨by omega,no rfl (by rw[hn];exact he)⟩,by omega,wR [0,1,2]⟩
 ·obtain⟨⟨n,e⟩,hn⟩:∃p,ag 3 6 s=p:=⟨_,rfl⟩;by_cases he:e=0
  ·subst he;rw[yes rfl hn];simp only[go_sem,bA,hs,hn,hlI,Int.reduceToNat,toNat_one,Int.reduceAdd,yQ];exact bM rfl rfl
  ·simp only[go_sem,bA,hs,hn,he,hlI,Int.reduceToNat,toNat_one,Int.reduceAdd];exact⟨3,⟨by omega,no rfl (by rw[hn];exact he)⟩,by omega,wR [0,1,2]⟩
 ·obtain⟨⟨n,e⟩,hn⟩:∃p,ag 3 7 s=p:=⟨_,rfl⟩;by_cases he:e=0
  ·subst he;rw[yes rfl hn];simp only[go_sem,bA,hs,hn,hlI,Int.reduceToNat,toNat_one,Int.reduceAdd,yQ];exact bM rfl rfl
  ·simp only[go_sem,bA,hs,hn,he,hlI,Int.reduceToNat,toNat_one,Int.reduceAdd];exact⟨4,⟨by omega,no rfl (by rw[hn];exact he)⟩,by omega,wR [0,1,2]⟩
 ·obtain⟨⟨n,e⟩,hn⟩:∃p,ag 3 8 s=p:=⟨_,rfl⟩;by_cases he:e=0
  ·subst he;rw[yes rfl hn];simp only[go_sem,bA,hs,hn,hlI,Int.reduceToNat,toNat_one,Int.reduceAdd,yQ];exact bM rfl rfl
  ·simp only[go_sem,bA,hs,hn,he,hlI,Int.reduceToNat,toNat_one,Int.reduceAdd];exact⟨5,⟨by omega,no rfl (by rw[hn];exact he)⟩,by omega,wR [0,1,2]⟩
 ·have e:dm s l=.error 100:=by
   unfold dm;rw[←hR];rfl
  rw[e];simp only[go_sem]
abbrev YA:ap prog 205 :=
 sQ _ _ _ func205 (asP rfl) (asP fun _ _=>by go_simp) (Gq) ((fun s l=>s.size≤1099511627776∧1≤l.length)) ((fun s l=>(dm s l).map fun(p:OpV×List Tok)=>(opV p.1,p.2))) (asP (by rw[ntmps205];decide)) (asP fun s l h=>FO s l h.1 h.2)
end
section
open Ex (Xs xs0)
theorem fS:¬(⟨#[93]⟩:ByteArray)=emp:=by decide
theorem fR:¬(⟨#[91]⟩:ByteArray)=emp:=by decide
theorem dH:¬(⟨#[44]⟩:ByteArray)=emp:=by decide
theorem dG:¬(⟨#[35]⟩:ByteArray)=emp:=by decide
theorem fQ:¬(⟨#[33]⟩:ByteArray)=emp:=by decide
theorem pH {l l1:List Tok}{r:gu}{b:Bool}(h:ao l=((r,b),l1)):gR l=(r,b)∧l1=if b=true then l.drop 1 else l:=by
 unfold ao at h;injection h with h1 h2;rw[h1]at h2;exact⟨h1,h2.symm⟩
theorem pI {l l1:List Tok}{p:gu×Bool}(h:RdOk l)(e:ao l=(p,l1)):RdOk l1:=by
 unfold ao at e;injection e with e1 e2;rw[←e2];split
 ·exact h.drop 1
 ·exact h
theorem Qy {s:ByteArray}{l l1:List Tok}{b:Bool}(h:RdOk l)(e:bc s l=(b,l1)):RdOk l1:=by
 unfold bc at e;split at e<;>injection e with e1 e2<;>subst e2
 ·exact h.drop 1
 ·exact h
theorem OP {l l1:List Tok}{b:Bool}(h:RdOk l)(e:loR l=.ok (b,l1)):RdOk l1:=by
 unfold loR at e;split at e
 ·injection e with e;injection e with e1 e2;subst e2;exact h
 ·split at e
  ·cases e
  ·injection e with e;injection e with e1 e2;subst e2;exact h.drop 3
section
variable {l l1 l2 l3 l4 l5:List Tok}{rn mn va:Int}{rx rs mx ms is b:Bool}{vp vm:ByteArray}{e:Int}
abbrev lh (l:List Tok)(r:RdR OpV):Prop:=Sw f202 1 ⟨1,aB 0 [pv 0 0 0],aL 0 [rdK l]⟩ (oR f202 1 (gO (r.map fun p=>(opV p.1,p.2))))
abbrev iZ (rn:Int)(rx rs:Bool):OpV:=⟨5,⟨rn,rx,rs⟩,⟨0,false,false⟩,0,0,0,0,⟨#[]⟩,⟨#[]⟩,false,0⟩
theorem S0 (h1:ao l=((⟨rn,rx,rs⟩,is),l1))(h2:ff (iZ rn rx rs)=false):lh l (.error 100):=by
 refine aq [⟨_,iR⟩,⟨_,gd⟩,⟨_,eX⟩] rfl ?_;simp only[go_sem,ah,opE,opD,opV,au,ar,cz,cu,fM,fS,dH,dG,fQ,fR,h1,h2]
theorem LJ (h1:ao l=((⟨rn,rx,rs⟩,is),l1))(h2:ff (iZ rn rx rs)=true)(h3:bc ⟨#[93]⟩ l1=(true,l2))(h4:¬(atF l2 4 0=⟨#[44]⟩∧atF l2 4 1=⟨#[35]⟩)):lh l (.ok (iZ rn rx rs,l2)):=by
 refine aq [⟨_,iR⟩,⟨_,gd⟩,⟨_,eX⟩,⟨_,jb⟩,⟨_,atS⟩] rfl ?_;by_cases h5:atF l2 4 0=⟨#[44]⟩
 ·have h6:¬atF l2 4 1=⟨#[35]⟩:=fun h=>h4 ⟨h5,h⟩;simp only[go_sem,ah,opE,opD,opV,au,ar,cz,cu,fM,fS,dH,dG,fQ,fR,h1,h2,h3,h5,h6,toNat_zero,toNat_one];exact bM rfl rfl
 ·simp only[go_sem,ah,opE,opD,opV,au,ar,cz,cu,fM,fS,dH,dG,fQ,fR,h1,h2,h3,h5,toNat_zero,toNat_one];exact bM rfl rfl
theorem OX (h0:RdOk l2)(h1:ao l=((⟨rn,rx,rs⟩,is),l1))(h2:ff (iZ rn rx rs)=true)(h3:bc ⟨#[93]⟩ l1=(true,l2))(h4:atF l2 4 0=⟨#[44]⟩)(h5:atF l2 4 1=⟨#[35]⟩)(hv:valueR (l2.drop 2)=.ok (⟨va,vp,vm⟩,l3)) :
  lh l (.ok ({ lI (iZ rn rx rs) ⟨va,vp,vm⟩ with mode:=2 },l3)):=by
 refine aq [⟨_,iR⟩,⟨_,gd⟩,⟨_,eX⟩,⟨_,jb⟩,⟨_,atS⟩,⟨_,sk⟩,⟨_,mM⟩] rfl ?_;have hl:(2:Int)≤l2.length:=by have:=jl (l:=l2) (k:=4) (n:=1) (by rw[h5];decide);omega
 have hd:=h0.drop 2;simp only[go_sem,ah,opE,opD,opV,au,ar,cz,cu,fM,fS,dH,dG,fQ,fR,h1,h2,h3,h4,h5,toNat_zero,toNat_one,Int.reduceToNat,hl,hd,hv,lI];exact bM rfl rfl
theorem LK (h0:RdOk l2)(h1:ao l=((⟨rn,rx,rs⟩,is),l1))(h2:ff (iZ rn rx rs)=true)(h3:bc ⟨#[93]⟩ l1=(true,l2))(h4:atF l2 4 0=⟨#[44]⟩)(h5:atF l2 4 1=⟨#[35]⟩)(hv:valueR (l2.drop 2)=.error e):lh l (.error e):=by
 refine aq [⟨_,iR⟩,⟨_,gd⟩,⟨_,eX⟩,⟨_,jb⟩,⟨_,atS⟩,⟨_,sk⟩,⟨_,mM⟩] rfl ?_;have hl:(2:Int)≤l2.length:=by have:=jl (l:=l2) (k:=4) (n:=1) (by rw[h5];decide);omega
 have hd:=h0.drop 2;simp only[go_sem,ah,opE,opD,opV,au,ar,cz,cu,fM,fS,dH,dG,fQ,fR,h1,h2,h3,h4,h5,toNat_zero,toNat_one,Int.reduceToNat,hl,hd,hv]
theorem OS (h1:ao l=((⟨rn,rx,rs⟩,is),l1))(h2:ff (iZ rn rx rs)=true)(h3:bc ⟨#[93]⟩ l1=(false,l2))(h4:mustR ⟨#[44]⟩ l2=.error e):lh l (.error e):=by
 refine aq [⟨_,iR⟩,⟨_,gd⟩,⟨_,eX⟩,⟨_,jb⟩,⟨_,ov⟩] rfl ?_;simp only[go_sem,ah,opE,opD,opV,au,ar,cz,cu,fM,fS,dH,dG,fQ,fR,h1,h2,h3,h4]
variable {o:OpV}
abbrev BE (rn:Int)(rx rs:Bool)(mn:Int)(mx ms:Bool):OpV:=⟨5,⟨rn,rx,rs⟩,⟨mn,mx,ms⟩,1,-1,0,0,⟨#[]⟩,⟨#[]⟩,false,3⟩
theorem OU (h0:RdOk l4)(h1:ao l=((⟨rn,rx,rs⟩,is),l1))(h2:ff (iZ rn rx rs)=true)(h3:bc ⟨#[93]⟩ l1=(false,l2))(h4:mustR ⟨#[44]⟩ l2=.ok l3)(h5:ao l3=((⟨mn,mx,ms⟩,true),l4))(h6:changedR (BE rn rx rs mn mx ms) 12 (-1) l4=.error e):lh l (.error e):=by
 refine aq [⟨_,iR⟩,⟨_,gd⟩,⟨_,eX⟩,⟨_,jb⟩,⟨_,ov⟩,⟨_,nX⟩] rfl ?_;simp only[go_sem,ah,opE,opD,opV,au,ar,cz,cu,fM,fS,dH,dG,fQ,fR,h1,h2,h3,h4,h5];refine bT (ctx:=[]) mixed ⟨[],[(2,[177]),(4,[177]),(6,[177]),(8,[177])],[(0,[177])]⟩ (by kernel_rfl) ?_;simp only[go_sem,ah,opE,opD,opV,au,ar,cz,cu,fM,fS,dH,dG,fQ,fR,h1,h2,h3,h4,h5,h6,h0]
theorem OT (h0:RdOk l4)(h1:ao l=((⟨rn,rx,rs⟩,is),l1))(h2:ff (iZ rn rx rs)=true)(h3:bc ⟨#[93]⟩ l1=(false,l2))(h4:mustR ⟨#[44]⟩ l2=.ok l3)(h5:ao l3=((⟨mn,mx,ms⟩,true),l4))(h6:changedR (BE rn rx rs mn mx ms) 12 (-1) l4=.ok (o,l5))(h7:dY o=false):lh l (.error 100):=by
 refine aq [⟨_,iR⟩,⟨_,gd⟩,⟨_,eX⟩,⟨_,jb⟩,⟨_,ov⟩,⟨_,nX⟩,⟨_,xu⟩] rfl ?_;simp only[go_sem,ah,opE,opD,opV,au,ar,cz,cu,fM,fS,dH,dG,fQ,fR,h1,h2,h3,h4,h5];refine bT (ctx:=[]) mixed ⟨[],[(2,[177]),(4,[177]),(6,[177]),(8,[177])],[(0,[177])]⟩ (by kernel_rfl) ?_;simp only[go_sem,ah,opE,opD,opV,au,ar,cz,cu,fM,fS,dH,dG,fQ,fR,h1,h2,h3,h4,h5,h6,h0,h7]
theorem OV (h0:RdOk l4)(h1:ao l=((⟨rn,rx,rs⟩,is),l1))(h2:ff (iZ rn rx rs)=true)(h3:bc ⟨#[93]⟩ l1=(false,l2))(h4:mustR ⟨#[44]⟩ l2=.ok l3)(h5:ao l3=((⟨mn,mx,ms⟩,true),l4))(h6:changedR (BE rn rx rs mn mx ms) 12 (-1) l4=.ok (o,l5))(h7:dY o=true)(h8:mustR ⟨#[93]⟩ l5=.error e):lh l (.error e):=by
 refine aq [⟨_,iR⟩,⟨_,gd⟩,⟨_,eX⟩,⟨_,jb⟩,⟨_,ov⟩,⟨_,nX⟩,⟨_,xu⟩] rfl ?_;simp only[go_sem,ah,opE,opD,opV,au,ar,cz,cu,fM,fS,dH,dG,fQ,fR,h1,h2,h3,h4,h5];refine bT (ctx:=[]) mixed ⟨[],[(2,[177]),(4,[177]),(6,[177]),(8,[177])],[(0,[177])]⟩ (by kernel_rfl) ?_;simp only[go_sem,ah,opE,opD,opV,au,ar,cz,cu,fM,fS,dH,dG,fQ,fR,h1,h2,h3,h4,h5,h6,h0,h7,h8]
theorem S1 {l6:List Tok}(h0:RdOk l4)(h1:ao l=((⟨rn,rx,rs⟩,is),l1))(h2:ff (iZ rn rx rs)=true)(h3:bc ⟨#[93]⟩ l1=(false,l2))(h4:mustR ⟨#[44]⟩ l2=.ok l3)(h5:ao l3=((⟨mn,mx,ms⟩,true),l4))(h6:changedR (BE rn rx rs mn mx ms) 12 (-1) l4=.ok (o,l5))(h7:dY o=true)(h8:mustR ⟨#[93]⟩ l5=.ok l6):lh l (.ok (o,l6)):=by
 refine aq [⟨_,iR⟩,⟨_,gd⟩,⟨_,eX⟩,⟨_,jb⟩,⟨_,ov⟩,⟨_,nX⟩,⟨_,xu⟩] rfl ?_;simp only[go_sem,ah,opE,opD,opV,au,ar,cz,cu,fM,fS,dH,dG,fQ,fR,h1,h2,h3,h4,h5];refine bT (ctx:=[]) mixed ⟨[],[(2,[177]),(4,[177]),(6,[177]),(8,[177])],[(0,[177])]⟩ (by kernel_rfl) ?_;simp only[go_sem,ah,opE,opD,opV,au,ar,cz,cu,fM,fS,dH,dG,fQ,fR,h1,h2,h3,h4,h5,h6,h0,h7,h8];exact bM rfl rfl
variable {w:gu}
theorem S2 (h1:ao l=((⟨rn,rx,rs⟩,is),l1))(h2:ff (iZ rn rx rs)=true)(h3:bc ⟨#[93]⟩ l1=(false,l2))(h4:mustR ⟨#[44]⟩ l2=.ok l3)(h5:ao l3=((w,false),l4))(h6:loR l4=.error e):lh l (.error e):=by
 refine aq [⟨_,iR⟩,⟨_,gd⟩,⟨_,eX⟩,⟨_,jb⟩,⟨_,ov⟩,⟨_,AF⟩] rfl ?_;simp only[go_sem,ah,opE,opD,opV,au,ar,cz,cu,fM,fS,dH,dG,fQ,fR,h1,h2,h3,h4,h5,h6]
theorem S3 {l6:List Tok}(h0:RdOk l5)(h1:ao l=((⟨rn,rx,rs⟩,is),l1))(h2:ff (iZ rn rx rs)=true)(h3:bc ⟨#[93]⟩ l1=(false,l2))(h4:mustR ⟨#[44]⟩ l2=.ok l3)(h5:ao l3=((w,false),l4))(h6:loR l4=.ok (true,l5))(hv:valueR l5=.ok (⟨va,vp,vm⟩,l6)) :
  lh l (match mustR ⟨#[93]⟩ l6 with | .error e=>.error e | .ok l=>.ok ({ lI (iZ rn rx rs) ⟨va,vp,vm⟩ with lo:=true },l)):=by
 refine aq [⟨_,iR⟩,⟨_,gd⟩,⟨_,eX⟩,⟨_,jb⟩,⟨_,ov⟩,⟨_,AF⟩,⟨_,mM⟩] rfl ?_;rcases h7:mustR ⟨#[93]⟩ l6 with e | l7
 ·simp only[go_sem,ah,opE,opD,opV,au,ar,cz,cu,fM,fS,dH,dG,fQ,fR,h1,h2,h3,h4,h5,h6,h0,hv,h7]
 ·simp only[go_sem,ah,opE,opD,opV,au,ar,cz,cu,fM,fS,dH,dG,fQ,fR,h1,h2,h3,h4,h5,h6,h0,hv,h7,lI];exact bM rfl rfl
theorem OW (h0:RdOk l5)(h1:ao l=((⟨rn,rx,rs⟩,is),l1))(h2:ff (iZ rn rx rs)=true)(h3:bc ⟨#[93]⟩ l1=(false,l2))(h4:mustR ⟨#[44]⟩ l2=.ok l3)(h5:ao l3=((w,false),l4))(h6:loR l4=.ok (true,l5))(hv:valueR l5=.error e):lh l (.error e):=by
 refine aq [⟨_,iR⟩,⟨_,gd⟩,⟨_,eX⟩,⟨_,jb⟩,⟨_,ov⟩,⟨_,AF⟩,⟨_,mM⟩] rfl ?_;simp only[go_sem,ah,opE,opD,opV,au,ar,cz,cu,fM,fS,dH,dG,fQ,fR,h1,h2,h3,h4,h5,h6,h0,hv]
theorem OY (h1:ao l=((⟨rn,rx,rs⟩,is),l1))(h2:ff (iZ rn rx rs)=true)(h3:bc ⟨#[93]⟩ l1=(false,l2))(h4:mustR ⟨#[44]⟩ l2=.ok l3)(h5:ao l3=((w,false),l4))(h6:loR l4=.ok (false,l5))(h7:mustR ⟨#[35]⟩ l5=.error e):lh l (.error e):=by
 refine aq [⟨_,iR⟩,⟨_,gd⟩,⟨_,eX⟩,⟨_,jb⟩,⟨_,ov⟩,⟨_,AF⟩,⟨_,mM⟩] rfl ?_;simp only[go_sem,ah,opE,opD,opV,au,ar,cz,cu,fM,fS,dH,dG,fQ,fR,h1,h2,h3,h4,h5,h6,h7]
theorem OZ {l6:List Tok}(h0:RdOk l6)(h1:ao l=((⟨rn,rx,rs⟩,is),l1))(h2:ff (iZ rn rx rs)=true)(h3:bc ⟨#[93]⟩ l1=(false,l2))(h4:mustR ⟨#[44]⟩ l2=.ok l3)(h5:ao l3=((w,false),l4))(h6:loR l4=.ok (false,l5))(h7:mustR ⟨#[35]⟩ l5=.ok l6)(hv:valueR l6=.error e):lh l (.error e):=by
 refine aq [⟨_,iR⟩,⟨_,gd⟩,⟨_,eX⟩,⟨_,jb⟩,⟨_,ov⟩,⟨_,AF⟩,⟨_,mM⟩] rfl ?_;simp only[go_sem,ah,opE,opD,opV,au,ar,cz,cu,fM,fS,dH,dG,fQ,fR,h1,h2,h3,h4,h5,h6,h7,h0,hv]
theorem S4 {l6 l7:List Tok}(h0:RdOk l6)(h1:ao l=((⟨rn,rx,rs⟩,is),l1))(h2:ff (iZ rn rx rs)=true)(h3:bc ⟨#[93]⟩ l1=(false,l2))(h4:mustR ⟨#[44]⟩ l2=.ok l3)(h5:ao l3=((w,false),l4))(h6:loR l4=.ok (false,l5))(h7:mustR ⟨#[35]⟩ l5=.ok l6)(hv:valueR l6=.ok (⟨va,vp,vm⟩,l7)) :
  lh l (match mustR ⟨#[93]⟩ l7 with | .error e=>.error e | .ok l=>if(bc ⟨#[33]⟩ l).1=true then .ok ({ lI (iZ rn rx rs) ⟨va,vp,vm⟩ with mode:=1 },(bc ⟨#[33]⟩ l).2) else .ok (lI (iZ rn rx rs) ⟨va,vp,vm⟩,l)):=by
 refine aq [⟨_,iR⟩,⟨_,gd⟩,⟨_,eX⟩,⟨_,jb⟩,⟨_,ov⟩,⟨_,AF⟩,⟨_,mM⟩] rfl ?_;rcases h8:mustR ⟨#[93]⟩ l7 with e | l8
 ·simp only[go_sem,ah,opE,opD,opV,au,ar,cz,cu,fM,fS,dH,dG,fQ,fR,h1,h2,h3,h4,h5,h6,h7,h0,hv,h8]
 ·by_cases hb:atF l8 4 0=⟨#[33]⟩
  ·have h9:bc ⟨#[33]⟩ l8=(true,l8.drop 1):=by unfold bc;rw[if_pos hb]
   simp only[go_sem,ah,opE,opD,opV,au,ar,cz,cu,fM,fS,dH,dG,fQ,fR,h1,h2,h3,h4,h5,h6,h7,h0,hv,h8,h9,lI];exact bM rfl rfl
  ·have h9:bc ⟨#[33]⟩ l8=(false,l8):=by unfold bc;rw[if_neg hb]
   simp only[go_sem,ah,opE,opD,opV,au,ar,cz,cu,fM,fS,dH,dG,fQ,fR,h1,h2,h3,h4,h5,h6,h7,h0,hv,h8,h9,lI];exact bM rfl rfl
end
theorem VJ (l:List Tok)(h:RdOk l):lh l (ig l):=by
 rcases h1:ao l with ⟨⟨⟨rn,rx,rs⟩,is⟩,l1⟩;obtain⟨e1,-⟩:=pH h1;have k1:=pI h h1;unfold ig;rw[e1,h1];simp only;cases h2:ff (iZ rn rx rs) with
 |false=>rw[if_pos (show ff (ly ⟨rn,rx,rs⟩)=false from h2)];exact S0 h1 h2
 |true =>
 rw[if_neg (show ¬ff (ly ⟨rn,rx,rs⟩)=false by rw[show ff (ly ⟨rn,rx,rs⟩)=true from h2];simp)];rcases h3:bc ⟨#[93]⟩ l1 with ⟨b,l2⟩;have k2:=Qy k1 h3;rw[show bc dq l1=(b,l2) from h3];cases b with
 |true =>
  simp only[if_true];unfold qR;by_cases h4:atF l2 4 0=⟨#[44]⟩∧atF l2 4 1=⟨#[35]⟩
  ·rw[if_pos (show atF l2 4 0=aA∧atF l2 4 1=aU from h4)];rcases hv:valueR (l2.drop 2) with e | ⟨⟨va,vp,vm⟩,l3⟩
   ·exact LK k2 h1 h2 h3 h4.1 h4.2 hv
   ·exact OX k2 h1 h2 h3 h4.1 h4.2 hv
  ·rw[if_neg (show ¬(atF l2 4 0=aA∧atF l2 4 1=aU) from h4)];exact LJ h1 h2 h3 h4
 |false =>
  have hs:l2=l1:=by
   unfold bc at h3;split at h3<;>injection h3 with h3 h4
   ·cases h3
   ·exact h4.symm
  rw[if_neg (by simp)];unfold iE;rcases h4:mustR ⟨#[44]⟩ l2 with e | l3
  ·rw[←hs,show mustR aA l2=.error e from h4];exact OS h1 h2 h3 h4
  rw[←hs,show mustR aA l2=.ok l3 from h4];obtain⟨k3,-⟩:=fG dH k2 h4;simp only;rcases h5:ao l3 with ⟨⟨⟨mn,mx,ms⟩,b⟩,l4⟩;obtain⟨e5,e6⟩:=pH h5;have k4:=pI k3 h5;rw[e5];cases b with
  |true =>
   rw[if_pos rfl]at e6;rw[if_pos rfl,←e6];show lh l (AD (BE rn rx rs mn mx ms) l4);unfold AD;rcases h6:changedR (BE rn rx rs mn mx ms) 12 (-1) l4 with e | ⟨o,l5⟩
   ·exact OU k4 h1 h2 h3 h4 h5 h6
   ·simp only;cases h7:dY o with
    |false=>rw[if_pos rfl];exact OT k4 h1 h2 h3 h4 h5 h6 h7
    |true =>
     rw[if_neg (by simp)];rcases h8:mustR ⟨#[93]⟩ l5 with e | l6
     ·rw[show mustR dq l5=.error e from h8];exact OV k4 h1 h2 h3 h4 h5 h6 h7 h8
     ·rw[show mustR dq l5=.ok l6 from h8];exact S1 k4 h1 h2 h3 h4 h5 h6 h7 h8
  |false =>
   rw[if_neg (by simp)]at e6;rw[if_neg (by simp)];subst e6;rcases h6:loR l4 with e | ⟨b,l5⟩
   ·exact S2 h1 h2 h3 h4 h5 h6
   have k5:=OP k4 h6;simp only;cases b with
   |true =>
    rw[if_pos rfl];unfold C7;rcases hv:valueR l5 with e | ⟨⟨va,vp,vm⟩,l6⟩
    ·exact OW k5 h1 h2 h3 h4 h5 h6 hv
    ·exact S3 k5 h1 h2 h3 h4 h5 h6 hv
   |false =>
    rw[if_neg (by simp)];unfold Dp;rcases h7:mustR ⟨#[35]⟩ l5 with e | l6
    ·rw[show mustR aU l5=.error e from h7];exact OY h1 h2 h3 h4 h5 h6 h7
    obtain⟨k6,-⟩:=fG dG k5 h7;rw[show mustR aU l5=.ok l6 from h7];simp only;rcases hv:valueR l6 with e | ⟨⟨va,vp,vm⟩,l7⟩
    ·exact OZ k6 h1 h2 h3 h4 h5 h6 h7 hv
    ·exact S4 k6 h1 h2 h3 h4 h5 h6 h7 hv
abbrev Zq:ap prog 202 :=
 sQ _ _ _ func202 (asP rfl) (asP fun _ _=>by go_simp) (xs0) ((fun _ l=>RdOk l)) ((fun _ l=>(ig l).map fun(p:OpV×List Tok)=>(opV p.1,p.2))) (asP (by rw[ntmps202];decide)) (asP fun _ l h=>VJ l h)
end
end Go.Proofs.YtnhbidpdadkcjaaGreatDoor
