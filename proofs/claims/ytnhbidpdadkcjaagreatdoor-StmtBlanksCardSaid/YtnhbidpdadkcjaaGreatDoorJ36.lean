import Derived.Test.YtnhbidpdadkcjaaGreatDoorJ31
import Derived.Test.YtnhbidpdadkcjaaGreatDoorJ35
import Derived.Test.YtnhbidpdadkcjaaGreatDoorJ24
set_option linter.unusedVariables false
set_option linter.unusedSimpArgs false
set_option maxRecDepth 100000
set_option maxHeartbeats 8000000
namespace Go.Proofs.YtnhbidpdadkcjaaGreatDoor
section
open Go.RowKit
open Ex (Xs xs0)
def sU (e:Int):Value:=.iface 170 (.agg #[.int .i64 e])
def rdK (l:List Tok):Blk:=⟨true,144,1,[[.d (.sd 4 (l.map lN.enc))]]⟩
def bm (h:ah):AV→Option (Nat×List Tok)
 | .s (.l (.p b 0 0))=>match hget h b with
  | some ⟨true,T,1,[[.d (.sd 4 els)]]⟩=>match dT lN.dec els with
   | some l=>if T=144 then some (b,l) else none
   | none=>none
  | _=>none
 | _=>none
theorem B2 {h:ah} {A:AV} {b:Nat} {l:List Tok} (hd:bm h A=some (b,l)):A=pv b 0 0∧hget h b=some (rdK l):=by
 unfold bm at hd
 split at hd
 case h_2=>cases hd
 rename_i b'
 split at hd
 case h_2=>cases hd
 rename_i T els hb
 split at hd
 case h_2=>cases hd
 rename_i l' hl
 split at hd
 case isFalse=>cases hd
 rename_i hT
 injection hd with hd
 injection hd with e1 e2
 subst e1 e2 hT
 exact ⟨rfl,by rw [hb,rdK,← eN lN hl]⟩
theorem wP {h h':ah} (hs:∀ b k,hget h b=some k→hget h' b=some k) {A:AV} {r:Nat×List Tok} (hd:bm h A=some r):bm h' A=some r:=by
 unfold bm at hd ⊢
 split at hd
 case h_2=>cases hd
 split at hd
 case h_2=>cases hd
 rename_i hb
 simp only [hs _ _ hb]
 exact hd
def dA:Except Int (AV×List Tok)→RO
 | .ok (r,l)=>.ret r [some (rdK l)] []
 | .error e=>.pan (sU e)
theorem aI {r:AV} {l:List Tok}:dA (.ok (r,l))=.ret r [some (rdK l)] []:=rfl
theorem ai {e:Int}:dA (.error e)=.pan (sU e):=rfl
def aT {X:Type} (T:Xs X) (q:X→List Tok→Prop) (h:ah):List AV→Option (Prop×List Nat×(X×List Tok))
 | A::zs=>match bm h A,T.dec zs with
  | some (b,l),some x=>some (q x l,[b],(x,l))
  | _,_=>none
 | []=>none
def uz {X:Type} (f:FuncId) (fn:Func) (c:Code) (hf:Tryz.prog.funcs[f]? = some fn) (hb:fn.body=some c)
  (hen:∀ (args:Array Value) (w:World),(callFunc f args).run Tryz.prog w=.ok (.enter f args) w) (T:Xs X) (q:X→List Tok→Prop) (F:X→List Tok→Except Int (AV×List Tok)) (hn:T.len+1≤fn.ntmps)
  (body:∀ x l,q x l→SW Tryz.prog ⟨none,1⟩ fn.ntmps c ⟨1,aC 0 (pv 0 0 0::T.enc x),bB 0 [rdK l]⟩ (dy Tryz.prog fn.results.toList 1 (dA (F x l)))):bi Tryz.prog f :=
 mkR 1 1 (by decide) f fn c hf hb hen (aT T q) (fun x=>pv 0 0 0::T.enc x.1) (fun x=>[rdK x.2]) (fun x=>dA (F x.1 x.2))
  (by
   intro h h' args r hs hd
   unfold aT at hd ⊢
   split at hd
   ·split at hd
    ·rename_i h1 h2
     rw [wP hs h1,h2]
     exact hd
    ·cases hd
   ·cases hd)
  (by
   intro h zs q' bs x hd hq
   unfold aT at hd
   split at hd
   case h_2=>cases hd
   rename_i A zs'
   split at hd
   case h_2=>cases hd
   rename_i b l x' h1 h2
   injection hd with hd
   injection hd with e1 hd
   injection hd with e2 e3
   subst e2
   subst e3
   obtain ⟨rfl,hb1⟩:=B2 h1
   refine ⟨by rw [List.length_cons,T.enc_len];exact hn,rfl,rfl,by simp,fun d=>⟨?_,?_⟩⟩
   ·intro j b' k hj hk
    match j,hj,hk with
    | 0,hj,hk =>
     simp at hj hk
     subst hj
     subst hk
     exact ⟨rfl,by rw [hb1];rfl⟩
   ·intro ρ al vals hA
    match vals,hA with
    | v::vs,⟨a,r⟩=>exact ⟨a,T.ok (al:=al) h2 (Mem.le_refl _) r⟩)
  (by
   intro h zs q' bs x hd hq
   unfold aT at hd
   split at hd
   case h_2=>cases hd
   split at hd
   case h_2=>cases hd
   injection hd with hd
   injection hd with e1 hd
   injection hd with e2 e3
   subst e1
   subst e3
   exact body _ _ hq)
def xs1 {α:Type} (T:Ty α) (hfl:∀ x,∀ (ρ ρ':Nat→Loc) (al al':Al) (v:Value),al.M.le al'.M→ARep ρ al (T.enc x) v→ARep ρ' al' (T.enc x) v):Xs α where
 dec:=fun | [A]=>T.dec A | _=>none
 enc:=fun t=>[T.enc t]
 len:=1
 enc_len:=fun _=>rfl
 ok:=by
  intro zs x h ρ ρ' al al' vals hM hA
  split at h
  ·match vals,hA with
   | [v],⟨a,_⟩=>exact ⟨hfl x _ _ _ _ v hM (T.ok h a),trivial⟩
  ·cases h
def aB:Xs Int:=xs1 (bq .i64) fun x ρ ρ' al al' v hM a=>ARep.flat hM a (by rfl)
def aA:Xs ByteArray:=xs1 bx fun x ρ ρ' al al' v hM a=>ARep.flat hM a (by rfl)
def xs2:Xs (Int×Int) where
 dec:=fun | [.s (.l (.v (.int .i64 a))),.s (.l (.v (.int .i64 b)))]=>some (a,b) | _=>none
 enc:=fun t=>[iv t.1,iv t.2]
 len:=2
 enc_len:=fun _=>rfl
 ok:=by
  intro zs x h ρ ρ' al al' vals hM hA
  split at h
  ·injection h with h
   subst h
   match vals,hA with
   | [v,u],⟨a,b,_⟩=>exact ⟨a,b,trivial⟩
  ·cases h
theorem cF {l:List Tok} {r:AV} {st:St} (hr:r.plain=true) (h1:hget st.h 0=some (rdK l)) :
  oH 1 st (dA (.ok (r,l))) (some r):=by
 refine ⟨hr,[some (rdK l)],[],rfl,rfl,by simp,by simp [rdK],by simp,Wk.ren [0] (by intro j hj;have:j=0:=(by simpa using hj);subst this;rfl) (Nat.le_refl _) (by simp) (fun p hp=>by cases hp) ?_⟩
 intro p hp k hk
 simp only [gm,bB,List.append_nil,List.mem_cons,List.not_mem_nil,or_false] at hp
 subst hp
 simp only [Option.some.injEq] at hk
 subst hk
 simp only [List.getD_eq_getElem?_getD,List.getElem?_cons_zero,Option.getD_some,h1]
 rfl
end
section
open Go.RowKit
open Ex (Xs xs0)
def fm:bi Tryz.prog 151 :=
 uz _ _ _ Tryz.func151 rfl (fun _ _=>by go_simp) (aB) ((fun _ _=>True)) ((fun e _=>.error e)) (by rw [Tryz.ntmps151];decide) (fun e l _=>by
 refine aa (ctx:=[]) 4000 ?_
 rw [Tryz.ntmps151,Tryz.results151]
 simp only [Tryz.f151,Option.getD_some,aC]
 simp only [go_sem,aB,xs1,ai,sU])
theorem az {id:Nat} {h:ah} {args:List AV}:(fm).run id h args=gu 1 (aT (aB) ((fun _ _=>True))) (fun x=>dA (((fun e _=>.error e)) x.1 x.2)) id h args:=rfl
theorem ay {id:Nat} {h:ah} {args:List AV}:(fm).pan id h args=fX (aT (aB) ((fun _ _=>True))) (fun x=>dA (((fun e _=>.error e)) x.1 x.2)) h args:=rfl
theorem Th (k:Int) (m:Nat) (l:List Tok):SW Tryz.prog ⟨none,1⟩ Tryz.f201.ntmps (Tryz.f201.body.getD .skip) ⟨1,aC 0 [pv 0 0 0,iv k,iv m],bB 0 [rdK l]⟩ (dy Tryz.prog Tryz.f201.results.toList 1 (dA (.ok (sv (atF l k m),l)))):=by
 refine aa (ctx:=[]) 4000 ?_
 rw [Tryz.ntmps201,Tryz.results201]
 simp only [Tryz.f201,Option.getD_some,aC]
 rcases hl:l[m]? with _ | t
 ·have hlt:¬(m:Int)<l.length:=by have:=List.getElem?_eq_none_iff.1 hl;omega
  have e:atF l k m=emp:=by unfold atF;rw [hl]
  rw [e]
  simp only [go_sem,rdK,hlt,List.length_map]
  exact cF rfl rfl
 ·have hlt:(m:Int)<l.length:=by have:=(List.getElem?_eq_some_iff.1 hl).1;omega
  by_cases hk:t.kind=k
  ·have e:atF l k m=t.text:=by unfold atF;rw [hl];simp only [if_pos hk]
   rw [e]
   simp only [go_sem,rdK,hlt,List.length_map,hl,lM,eq_true hk]
   exact cF rfl rfl
  ·have e:atF l k m=emp:=by unfold atF;rw [hl];simp only [if_neg hk]
   rw [e]
   simp only [go_sem,rdK,hlt,List.length_map,hl,lM,hk]
   exact cF rfl rfl
def atS:bi Tryz.prog 201 :=
 uz _ _ _ Tryz.func201 rfl (fun _ _=>by go_simp) (xs2) ((fun x _=>0≤x.2)) ((fun x l=>.ok (sv (atF l x.1 x.2.toNat),l))) (by rw [Tryz.ntmps201];decide) (fun x l h=>by
 obtain ⟨k,n⟩:=x
 obtain ⟨m,rfl⟩:=Int.eq_ofNat_of_zero_le h
 exact Th k m l)
theorem aZ {id:Nat} {h:ah} {args:List AV}:(atS).run id h args=gu 1 (aT (xs2) ((fun x _=>0≤x.2))) (fun x=>dA (((fun x l=>.ok (sv (atF l x.1 x.2.toNat),l))) x.1 x.2)) id h args:=rfl
theorem aY {id:Nat} {h:ah} {args:List AV}:(atS).pan id h args=fX (aT (xs2) ((fun x _=>0≤x.2))) (fun x=>dA (((fun x l=>.ok (sv (atF l x.1 x.2.toNat),l))) x.1 x.2)) h args:=rfl
theorem mL (l:List Tok) (n:Nat) (h:n≤l.length):((l.map lN.enc).drop n).take (l.length-n)=(l.drop n).map lN.enc:=by
 rw [← List.map_drop,List.take_of_length_le (by simp)]
theorem PQ (m:Nat) (l:List Tok) (h:m≤l.length):SW Tryz.prog ⟨none,1⟩ Tryz.f240.ntmps (Tryz.f240.body.getD .skip) ⟨1,aC 0 [pv 0 0 0,iv m],bB 0 [rdK l]⟩ (dy Tryz.prog Tryz.f240.results.toList 1 (dA (.ok (iA,l.drop m)))):=by
 refine aa (ctx:=[]) 4000 ?_
 rw [Tryz.ntmps240,Tryz.results240]
 simp only [Tryz.f240,Option.getD_some,aC]
 have h1:(m:Int)≤l.length:=by omega
 simp only [go_sem,rdK,List.length_map,h1,mL l m h,Int.toNat_natCast]
 exact cF rfl rfl
def rO:bi Tryz.prog 240 :=
 uz _ _ _ Tryz.func240 rfl (fun _ _=>by go_simp) (aB) ((fun n l=>0≤n∧n≤l.length)) ((fun n l=>.ok (iA,l.drop n.toNat))) (by rw [Tryz.ntmps240];decide) (fun n l h=>by
 obtain ⟨m,rfl⟩:=Int.eq_ofNat_of_zero_le h.1
 exact PQ m l (by omega))
theorem aK {id:Nat} {h:ah} {args:List AV}:(rO).run id h args=gu 1 (aT (aB) ((fun n l=>0≤n∧n≤l.length))) (fun x=>dA (((fun n l=>.ok (iA,l.drop n.toNat))) x.1 x.2)) id h args:=rfl
theorem aJ {id:Nat} {h:ah} {args:List AV}:(rO).pan id h args=fX (aT (aB) ((fun n l=>0≤n∧n≤l.length))) (fun x=>dA (((fun n l=>.ok (iA,l.drop n.toNat))) x.1 x.2)) h args:=rfl
end
section
open Go.RowKit
open Ex (Xs xs0)
theorem Bo (s:ByteArray) (l:List Tok) (hs:¬s=emp):SW Tryz.prog ⟨none,1⟩ Tryz.f198.ntmps (Tryz.f198.body.getD .skip) ⟨1,aC 0 [pv 0 0 0,sv s],bB 0 [rdK l]⟩ (dy Tryz.prog Tryz.f198.results.toList 1 (dA (.ok (bv (bW s l).1,(bW s l).2)))):=by
 refine aa (ctx:=[⟨_,atS⟩,⟨_,rO⟩]) 4000 ?_
 rw [Tryz.ntmps198,Tryz.results198]
 simp only [Tryz.f198,Option.getD_some,aC]
 by_cases h:atF l 4 0=s
 ·have hl:(1:Int)≤l.length:=by have:=jN (l:=l) (k:=4) (n:=0) (by rw [h];exact hs);omega
  have e:bW s l=(true,l.drop 1):=by unfold bW;rw [if_pos h]
  rw [e]
  simp only [go_sem,rdK,aT,bm,aB,aA,xs2,xs1,xs0,aI,ai,Except.map,aZ,aY,aK,aJ,az,ay,h,hl,Int.toNat_zero,Int.toNat_one]
  exact cF rfl rfl
 ·have e:bW s l=(false,l):=by unfold bW;rw [if_neg h]
  rw [e]
  simp only [go_sem,rdK,aT,bm,aB,aA,xs2,xs1,xs0,aI,ai,Except.map,aZ,aY,aK,aJ,az,ay,h,Int.toNat_zero,Int.toNat_one]
  exact cF rfl rfl
def iS:bi Tryz.prog 198 :=
 uz _ _ _ Tryz.func198 rfl (fun _ _=>by go_simp) (aA) ((fun s _=>¬s=emp)) ((fun s l=>.ok (bv (bW s l).1,(bW s l).2))) (by rw [Tryz.ntmps198];decide) (fun s l h=>Bo s l h)
theorem bA {id:Nat} {h:ah} {args:List AV}:(iS).run id h args=gu 1 (aT (aA) ((fun s _=>¬s=emp))) (fun x=>dA (((fun s l=>.ok (bv (bW s l).1,(bW s l).2))) x.1 x.2)) id h args:=rfl
theorem bz {id:Nat} {h:ah} {args:List AV}:(iS).pan id h args=fX (aT (aA) ((fun s _=>¬s=emp))) (fun x=>dA (((fun s l=>.ok (bv (bW s l).1,(bW s l).2))) x.1 x.2)) h args:=rfl
theorem Pf (s:ByteArray) (l:List Tok) (hs:¬s=emp):SW Tryz.prog ⟨none,1⟩ Tryz.f150.ntmps (Tryz.f150.body.getD .skip) ⟨1,aC 0 [pv 0 0 0,sv s],bB 0 [rdK l]⟩ (dy Tryz.prog Tryz.f150.results.toList 1 (dA ((mustR s l).map fun l=>(iA,l)))):=by
 refine aa (ctx:=[⟨_,iS⟩,⟨_,fm⟩]) 4000 ?_
 rw [Tryz.ntmps150,Tryz.results150]
 simp only [Tryz.f150,Option.getD_some,aC]
 by_cases h:atF l 4 0=s
 ·have e:bW s l=(true,l.drop 1):=by unfold bW;rw [if_pos h]
  have e2:mustR s l=.ok (l.drop 1):=by unfold mustR;rw [if_pos h]
  rw [e2]
  simp only [go_sem,rdK,aT,bm,aB,aA,xs2,xs1,xs0,aI,ai,Except.map,aZ,aY,aK,aJ,az,ay,bA,bz,hs,e]
  exact cF rfl rfl
 ·have e:bW s l=(false,l):=by unfold bW;rw [if_neg h]
  have e2:mustR s l=.error 100:=by unfold mustR;rw [if_neg h]
  rw [e2]
  simp only [go_sem,rdK,aT,bm,aB,aA,xs2,xs1,xs0,aI,ai,Except.map,aZ,aY,aK,aJ,az,ay,bA,bz,hs,e]
def mX:bi Tryz.prog 150 :=
 uz _ _ _ Tryz.func150 rfl (fun _ _=>by go_simp) (aA) ((fun s _=>¬s=emp)) ((fun s l=>(mustR s l).map fun l=>(iA,l))) (by rw [Tryz.ntmps150];decide) (fun s l h=>Pf s l h)
theorem bF {id:Nat} {h:ah} {args:List AV}:(mX).run id h args=gu 1 (aT (aA) ((fun s _=>¬s=emp))) (fun x=>dA (((fun s l=>(mustR s l).map fun l=>(iA,l))) x.1 x.2)) id h args:=rfl
theorem bE {id:Nat} {h:ah} {args:List AV}:(mX).pan id h args=fX (aT (aA) ((fun s _=>¬s=emp))) (fun x=>dA (((fun s l=>(mustR s l).map fun l=>(iA,l))) x.1 x.2)) h args:=rfl
def Ni (v:Val):AV:=(jr lR).enc v
theorem db (v:Val):Ni v=.s (.agg [.v (.int .i64 v.add),.v (.string v.plus),.v (.string v.minus)]):=rfl
theorem JD (l:List Tok) (h:RdOk l):SW Tryz.prog ⟨none,1⟩ Tryz.f203.ntmps (Tryz.f203.body.getD .skip) ⟨1,aC 0 [pv 0 0 0],bB 0 [rdK l]⟩ (dy Tryz.prog Tryz.f203.results.toList 1 (dA ((valueR l).map fun p=>(Ni p.1,p.2)))):=by
 refine aa (ctx:=[⟨_,Ex.parseS⟩,⟨_,Ex.evalS⟩,⟨_,rO⟩,⟨_,fm⟩]) 4000 ?_
 rw [Tryz.ntmps203,Tryz.results203]
 simp only [Tryz.f203,Option.getD_some,aC]
 have hn:=Ex.parseF_nice h.named
 have hl6:=h.few
 rcases hp:Ex.parseF l with e | s
 ·rw [hp] at hn
  have hne:¬e=0:=hn
  have hv:valueR l=.error e:=by unfold valueR;rw [hp]
  rw [hv]
  simp only [go_sem,rdK,aT,bm,aB,aA,xs2,xs1,xs0,aI,ai,Except.map,aZ,aY,aK,aJ,az,ay,Ex.parse_run,Ex.parse_pan,Ex.outParse,hl6,hp,hne]
 ·rw [hp] at hn
  obtain ⟨g1,g2,g3,g4,g5⟩:=hn
  have q2:s.ts.length≤1099511627776:=by omega
  have q3:∀ t∈s.ts,t.sym.size≤140737488355328:=fun t ht=>by have:=Ex.termB_size (g2 t ht);omega
  have q4:(s.at_:Int)≤l.length:=by omega
  have q5:(0:Int)≤s.at_:=by omega
  rcases hev:Ex.evalAll s.ts with ⟨⟨va,vp,vm⟩,x⟩
  by_cases hx:x=0
  ·subst hx
   have hv:valueR l=.ok (⟨va,vp,vm⟩,l.drop s.at_):=by unfold valueR;rw [hp];simp only [hev,if_true]
   rw [hv]
   simp only [go_sem,rdK,aT,bm,aB,aA,xs2,xs1,xs0,aI,ai,Except.map,aZ,aY,aK,aJ,az,ay,Ex.parse_run,Ex.parse_pan,Ex.outParse,hl6,hp,Ex.eval_run,Ex.eval_pan,Ex.outEval,hev,q2,q4,q5,db]
   exact ⟨q3,cF rfl rfl⟩
  ·have hv:valueR l=.error x:=by unfold valueR;rw [hp];simp only [hev,if_neg hx]
   rw [hv]
   simp only [go_sem,rdK,aT,bm,aB,aA,xs2,xs1,xs0,aI,ai,Except.map,aZ,aY,aK,aJ,az,ay,Ex.parse_run,Ex.parse_pan,Ex.outParse,hl6,hp,Ex.eval_run,Ex.eval_pan,Ex.outEval,hev,q2,hx]
   exact q3
def li:bi Tryz.prog 203 :=
 uz _ _ _ Tryz.func203 rfl (fun _ _=>by go_simp) (xs0) ((fun _ l=>RdOk l)) ((fun _ l=>(valueR l).map fun (p:Val×List Tok)=>(Ni p.1,p.2))) (by rw [Tryz.ntmps203];decide) (fun _ l h=>JD l h)
theorem bg {id:Nat} {h:ah} {args:List AV}:(li).run id h args=gu 1 (aT (xs0) ((fun _ l=>RdOk l))) (fun x=>dA (((fun _ l=>(valueR l).map fun (p:Val×List Tok)=>(Ni p.1,p.2))) x.1 x.2)) id h args:=rfl
theorem bd {id:Nat} {h:ah} {args:List AV}:(li).pan id h args=fX (aT (xs0) ((fun _ l=>RdOk l))) (fun x=>dA (((fun _ l=>(valueR l).map fun (p:Val×List Tok)=>(Ni p.1,p.2))) x.1 x.2)) h args:=rfl
theorem Kj (l:List Tok) (h:RdOk l):SW Tryz.prog ⟨none,1⟩ Tryz.f241.ntmps (Tryz.f241.body.getD .skip) ⟨1,aC 0 [pv 0 0 0],bB 0 [rdK l]⟩ (dy Tryz.prog Tryz.f241.results.toList 1 (dA ((countR l).map fun p=>(iv p.1,p.2)))):=by
 refine aa (ctx:=[⟨_,mX⟩,⟨_,li⟩,⟨_,At⟩,⟨_,fm⟩]) 4000 ?_
 rw [Tryz.ntmps241,Tryz.results241]
 simp only [Tryz.f241,Option.getD_some,aC]
 have hsh:¬(⟨#[35]⟩:ByteArray)=emp:=by decide
 rcases h1:mustR ⟨#[35]⟩ l with e | l1
 ·have hc:countR l=.error e:=by unfold countR;rw [show mustR eQ l=.error e from h1]
  rw [hc]
  simp only [go_sem,rdK,aT,bm,aB,aA,xs2,xs1,xs0,aI,ai,Except.map,aZ,aY,aK,aJ,az,ay,bF,bE,hsh,h1]
 ·obtain ⟨g1,-⟩:=fV hsh h h1
  rcases h2:valueR l1 with e | ⟨⟨va,vp,vm⟩,l2⟩
  ·have hc:countR l=.error e:=by unfold countR;rw [show mustR eQ l=.ok l1 from h1];simp only [h2]
   rw [hc]
   simp only [go_sem,rdK,aT,bm,aB,aA,xs2,xs1,xs0,aI,ai,Except.map,aZ,aY,aK,aJ,az,ay,bF,bE,hsh,h1,bg,bd,g1,h2]
  ·have hc:countR l=if (vp=emp∧vm=emp)∧0≤va∧va≤63 then .ok (va,l2) else .error 100:=by unfold countR;rw [show mustR eQ l=.ok l1 from h1];simp only [h2]
   by_cases ha:vp=emp∧vm=emp
   ·have hA:(decide (vp=emp)&&decide (vm=emp))=true:=by rw [ha.1,ha.2];rfl
    by_cases h0:va<0
    ·rw [hc,if_neg (by omega)]
     simp only [go_sem,rdK,aT,bm,aB,aA,xs2,xs1,xs0,aI,ai,Except.map,aZ,aY,aK,aJ,az,ay,bF,bE,hsh,h1,bg,bd,g1,h2,db,gJ,mu,mr,hA,h0]
    ·by_cases h63:63<va
     ·rw [hc,if_neg (by omega)]
      simp only [go_sem,rdK,aT,bm,aB,aA,xs2,xs1,xs0,aI,ai,Except.map,aZ,aY,aK,aJ,az,ay,bF,bE,hsh,h1,bg,bd,g1,h2,db,gJ,mu,mr,hA,h0,h63]
     ·rw [hc,if_pos ⟨ha,by omega,by omega⟩]
      simp only [go_sem,rdK,aT,bm,aB,aA,xs2,xs1,xs0,aI,ai,Except.map,aZ,aY,aK,aJ,az,ay,bF,bE,hsh,h1,bg,bd,g1,h2,db,gJ,mu,mr,hA,h0,h63]
      exact cF rfl rfl
   ·have hA:(decide (vp=emp)&&decide (vm=emp))=false:=by
     rw [Bool.and_eq_false_iff,decide_eq_false_iff_not,decide_eq_false_iff_not]
     exact Decidable.not_and_iff_or_not.1 ha
    rw [hc,if_neg (fun h=>ha h.1)]
    simp only [go_sem,rdK,aT,bm,aB,aA,xs2,xs1,xs0,aI,ai,Except.map,aZ,aY,aK,aJ,az,ay,bF,bE,hsh,h1,bg,bd,g1,h2,db,gJ,mu,mr,hA]
def Kd:bi Tryz.prog 241 :=
 uz _ _ _ Tryz.func241 rfl (fun _ _=>by go_simp) (xs0) ((fun _ l=>RdOk l)) ((fun _ l=>(countR l).map fun (p:Int×List Tok)=>(iv p.1,p.2))) (by rw [Tryz.ntmps241];decide) (fun _ l h=>Kj l h)
theorem sY {id:Nat} {h:ah} {args:List AV}:(Kd).run id h args=gu 1 (aT (xs0) ((fun _ l=>RdOk l))) (fun x=>dA (((fun _ l=>(countR l).map fun (p:Int×List Tok)=>(iv p.1,p.2))) x.1 x.2)) id h args:=rfl
theorem sX {id:Nat} {h:ah} {args:List AV}:(Kd).pan id h args=fX (aT (xs0) ((fun _ l=>RdOk l))) (fun x=>dA (((fun _ l=>(countR l).map fun (p:Int×List Tok)=>(iv p.1,p.2))) x.1 x.2)) h args:=rfl
theorem TB (l:List Tok):SW Tryz.prog ⟨none,1⟩ Tryz.f204.ntmps (Tryz.f204.body.getD .skip) ⟨1,aC 0 [pv 0 0 0],bB 0 [rdK l]⟩ (dy Tryz.prog Tryz.f204.results.toList 1 (dA ((loR l).map fun p=>(bv p.1,p.2)))):=by
 refine aa (ctx:=[⟨_,atS⟩,⟨_,rO⟩,⟨_,fm⟩]) 4000 ?_
 rw [Tryz.ntmps204,Tryz.results204]
 simp only [Tryz.f204,Option.getD_some,aC]
 by_cases h0:atF l 4 0=⟨#[58]⟩
 ·by_cases h1:atF l 1 1=⟨#[108,111,49,50]⟩
  ·by_cases h2:atF l 4 2=⟨#[58]⟩
   ·have hl:(3:Int)≤l.length:=by have:=jN (l:=l) (k:=4) (n:=2) (by rw [h2];decide);omega
    have e:loR l=.ok (true,l.drop 3):=by unfold loR gy zC;rw [if_neg (fun h=>h h0),if_neg (by simp [h1,h2])]
    rw [e]
    simp only [go_sem,rdK,aT,bm,aB,aA,xs2,xs1,xs0,aI,ai,Except.map,aZ,aY,aK,aJ,az,ay,Int.toNat_zero,Int.toNat_one,h0,h1,h2,hl]
    exact cF rfl rfl
   ·have e:loR l=.error 100:=by unfold loR gy zC;rw [if_neg (fun h=>h h0),if_pos (.inr h2)]
    rw [e]
    simp only [go_sem,rdK,aT,bm,aB,aA,xs2,xs1,xs0,aI,ai,Except.map,aZ,aY,aK,aJ,az,ay,Int.toNat_zero,Int.toNat_one,h0,h1,h2]
  ·have e:loR l=.error 100:=by unfold loR gy zC;rw [if_neg (fun h=>h h0),if_pos (.inl h1)]
   rw [e]
   simp only [go_sem,rdK,aT,bm,aB,aA,xs2,xs1,xs0,aI,ai,Except.map,aZ,aY,aK,aJ,az,ay,Int.toNat_zero,Int.toNat_one,h0,h1]
 ·have e:loR l=.ok (false,l):=by unfold loR gy;rw [if_pos h0]
  rw [e]
  simp only [go_sem,rdK,aT,bm,aB,aA,xs2,xs1,xs0,aI,ai,Except.map,aZ,aY,aK,aJ,az,ay,Int.toNat_zero,h0]
  exact cF rfl rfl
def vY:bi Tryz.prog 204 :=
 uz _ _ _ Tryz.func204 rfl (fun _ _=>by go_simp) (xs0) ((fun _ _=>True)) ((fun _ l=>(loR l).map fun (p:Bool×List Tok)=>(bv p.1,p.2))) (by rw [Tryz.ntmps204];decide) (fun _ l h=>TB l)
theorem bS {id:Nat} {h:ah} {args:List AV}:(vY).run id h args=gu 1 (aT (xs0) ((fun _ _=>True))) (fun x=>dA (((fun _ l=>(loR l).map fun (p:Bool×List Tok)=>(bv p.1,p.2))) x.1 x.2)) id h args:=rfl
theorem bR {id:Nat} {h:ah} {args:List AV}:(vY).pan id h args=fX (aT (xs0) ((fun _ _=>True))) (fun x=>dA (((fun _ l=>(loR l).map fun (p:Bool×List Tok)=>(bv p.1,p.2))) x.1 x.2)) h args:=rfl
def cV (p:kC×Bool):AV:=.tup [.agg [.v (.int .i64 p.1.n),.v (.bool p.1.x),.v (.bool p.1.sp)],.l (.v (.bool p.2))]
theorem C2 (l:List Tok):SW Tryz.prog ⟨none,1⟩ Tryz.f199.ntmps (Tryz.f199.body.getD .skip) ⟨1,aC 0 [pv 0 0 0],bB 0 [rdK l]⟩ (dy Tryz.prog Tryz.f199.results.toList 1 (dA (.ok (cV (aQ l).1,(aQ l).2)))):=by
 refine aa (ctx:=[⟨_,atS⟩,⟨_,rO⟩,⟨_,Pw⟩]) 4000 ?_
 rw [Tryz.ntmps199,Tryz.results199]
 simp only [Tryz.f199,Option.getD_some,aC]
 by_cases h:(jD 3 (atF l 1 0)).2=0
 ·have hl:(1:Int)≤l.length:=by
   have:=jN (l:=l) (k:=1) (n:=0) (fun e=>by rw [e] at h;revert h;decide +kernel)
   omega
  have e:aQ l=(((jD 3 (atF l 1 0)).1,true),l.drop 1):=by unfold aQ j5;rw [if_pos h];rfl
  rw [e]
  simp only [go_sem,rdK,aT,bm,aB,aA,xs2,xs1,xs0,aI,ai,Except.map,aZ,aY,aK,aJ,az,ay,Int.toNat_zero,Int.toNat_one,wq,wp,qE,h,hl,cV]
  exact cF rfl rfl
 ·have e:aQ l=((r0,false),l):=by unfold aQ j5;rw [if_neg h];rfl
  rw [e]
  simp only [go_sem,rdK,aT,bm,aB,aA,xs2,xs1,xs0,aI,ai,Except.map,aZ,aY,aK,aJ,az,ay,Int.toNat_zero,Int.toNat_one,wq,wp,qE,h,cV,r0]
  exact cF rfl rfl
def iz:bi Tryz.prog 199 :=
 uz _ _ _ Tryz.func199 rfl (fun _ _=>by go_simp) (xs0) ((fun _ _=>True)) ((fun _ l=>.ok (cV (aQ l).1,(aQ l).2))) (by rw [Tryz.ntmps199];decide) (fun _ l h=>C2 l)
theorem bD {id:Nat} {h:ah} {args:List AV}:(iz).run id h args=gu 1 (aT (xs0) ((fun _ _=>True))) (fun x=>dA (((fun _ l=>.ok (cV (aQ l).1,(aQ l).2))) x.1 x.2)) id h args:=rfl
theorem bC {id:Nat} {h:ah} {args:List AV}:(iz).pan id h args=fX (aT (xs0) ((fun _ _=>True))) (fun x=>dA (((fun _ l=>.ok (cV (aQ l).1,(aQ l).2))) x.1 x.2)) h args:=rfl
end
end Go.Proofs.YtnhbidpdadkcjaaGreatDoor
