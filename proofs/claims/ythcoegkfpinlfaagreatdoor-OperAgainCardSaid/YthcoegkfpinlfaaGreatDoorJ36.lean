import Derived.Test.YthcoegkfpinlfaaGreatDoorJ31
import Derived.Test.YthcoegkfpinlfaaGreatDoorJ35
import Derived.Test.YthcoegkfpinlfaaGreatDoorJ24
set_option linter.unusedVariables false
set_option linter.unusedSimpArgs false
set_option maxRecDepth 100000
set_option maxHeartbeats 8000000
namespace Go.Proofs.YthcoegkfpinlfaaGreatDoor
section
open Go.RowKit
open Ex (Xs xs0)
def rC (e:Int):Value:=.iface 97 (.agg #[.int .i64 e])
def rdK (l:List Tok):Blk:=⟨true,61,1,[[.d (.sd 4 (l.map mg.enc))]]⟩
def aM (h:ag):AV→Option (Nat×List Tok)
 | .s (.l (.p b 0 0))=>match aq h b with
  | some ⟨true,T,1,[[.d (.sd 4 els)]]⟩=>match kA mg.dec els with
   | some l=>if T=61 then some (b,l) else none
   | none=>none
  | _=>none
 | _=>none
theorem AZ {h:ag} {A:AV} {b:Nat} {l:List Tok} (hd:aM h A=some (b,l)):A=pv b 0 0∧aq h b=some (rdK l):=by
 unfold aM at hd
 split at hd
 case h_2=>cases hd
 rename_i b'
 split at hd
 case h_2=>cases hd
 rename_i T els hb
 split at hd
 case h_2=>cases hd
 rename_i l' hl
 split at hd
 case isFalse=>cases hd
 rename_i hT
 injection hd with hd
 injection hd with e1 e2
 subst e1 e2 hT
 exact ⟨rfl,by rw [hb,rdK,← mr mg hl]⟩
theorem vl {h h':ag} (hs:∀ b k,aq h b=some k→aq h' b=some k) {A:AV} {r:Nat×List Tok} (hd:aM h A=some r):aM h' A=some r:=by
 unfold aM at hd ⊢
 split at hd
 case h_2=>cases hd
 split at hd
 case h_2=>cases hd
 rename_i hb
 simp only [hs _ _ hb]
 exact hd
def cU:Except Int (AV×List Tok)→RO
 | .ok (r,l)=>.ret r [some (rdK l)] []
 | .error e=>.pan (rC e)
theorem aj {r:AV} {l:List Tok}:cU (.ok (r,l))=.ret r [some (rdK l)] []:=rfl
theorem ae {e:Int}:cU (.error e)=.pan (rC e):=rfl
def az {X:Type} (T:Xs X) (q:X→List Tok→Prop) (h:ag):List AV→Option (Prop×List Nat×(X×List Tok))
 | A::zs=>match aM h A,T.dec zs with
  | some (b,l),some x=>some (q x l,[b],(x,l))
  | _,_=>none
 | []=>none
def sT {X:Type} (f:FuncId) (fn:Func) (c:Code) (hf:Tryz.prog.funcs[f]? = some fn) (hb:fn.body=some c)
  (hen:∀ (args:Array Value) (w:World),(callFunc f args).run Tryz.prog w=.ok (.enter f args) w) (T:Xs X) (q:X→List Tok→Prop) (F:X→List Tok→Except Int (AV×List Tok)) (hn:T.len+1≤fn.ntmps)
  (body:∀ x l,q x l→SW Tryz.prog ⟨none,1⟩ fn.ntmps c ⟨1,aw 0 (pv 0 0 0::T.enc x),cu 0 [rdK l]⟩ (ji Tryz.prog fn.results.toList 1 (cU (F x l)))):bq Tryz.prog f :=
 mkR 1 1 (by decide) f fn c hf hb hen (az T q) (fun x=>pv 0 0 0::T.enc x.1) (fun x=>[rdK x.2]) (fun x=>cU (F x.1 x.2))
  (by
   intro h h' args r hs hd
   unfold az at hd ⊢
   split at hd
   ·split at hd
    ·rename_i h1 h2
     rw [vl hs h1,h2]
     exact hd
    ·cases hd
   ·cases hd)
  (by
   intro h zs q' bs x hd hq
   unfold az at hd
   split at hd
   case h_2=>cases hd
   rename_i A zs'
   split at hd
   case h_2=>cases hd
   rename_i b l x' h1 h2
   injection hd with hd
   injection hd with e1 hd
   injection hd with e2 e3
   subst e2
   subst e3
   obtain ⟨rfl,hb1⟩:=AZ h1
   refine ⟨by rw [List.length_cons,T.enc_len];exact hn,rfl,rfl,by simp,fun d=>⟨?_,?_⟩⟩
   ·intro j b' k hj hk
    match j,hj,hk with
    | 0,hj,hk =>
     simp at hj hk
     subst hj
     subst hk
     exact ⟨rfl,by rw [hb1];rfl⟩
   ·intro ρ al vals hA
    match vals,hA with
    | v::vs,⟨a,r⟩=>exact ⟨a,T.ok (al:=al) h2 (Mem.le_refl _) r⟩)
  (by
   intro h zs q' bs x hd hq
   unfold az at hd
   split at hd
   case h_2=>cases hd
   split at hd
   case h_2=>cases hd
   injection hd with hd
   injection hd with e1 hd
   injection hd with e2 e3
   subst e1
   subst e3
   exact body _ _ hq)
def xs1 {α:Type} (T:Ty α) (hfl:∀ x,∀ (ρ ρ':Nat→Loc) (al al':Al) (v:Value),al.M.le al'.M→ARep ρ al (T.enc x) v→ARep ρ' al' (T.enc x) v):Xs α where
 dec:=fun | [A]=>T.dec A | _=>none
 enc:=fun t=>[T.enc t]
 len:=1
 enc_len:=fun _=>rfl
 ok:=by
  intro zs x h ρ ρ' al al' vals hM hA
  split at h
  ·match vals,hA with
   | [v],⟨a,_⟩=>exact ⟨hfl x _ _ _ _ v hM (T.ok h a),trivial⟩
  ·cases h
def aO:Xs Int:=xs1 (bA .i64) fun x ρ ρ' al al' v hM a=>ARep.flat hM a (by rfl)
def aL:Xs ByteArray:=xs1 bh fun x ρ ρ' al al' v hM a=>ARep.flat hM a (by rfl)
def xs2:Xs (Int×Int) where
 dec:=fun | [.s (.l (.v (.int .i64 a))),.s (.l (.v (.int .i64 b)))]=>some (a,b) | _=>none
 enc:=fun t=>[iv t.1,iv t.2]
 len:=2
 enc_len:=fun _=>rfl
 ok:=by
  intro zs x h ρ ρ' al al' vals hM hA
  split at h
  ·injection h with h
   subst h
   match vals,hA with
   | [v,u],⟨a,b,_⟩=>exact ⟨a,b,trivial⟩
  ·cases h
theorem bZ {l:List Tok} {r:AV} {st:St} (hr:r.plain=true) (h1:aq st.h 0=some (rdK l)) :
  tL 1 st (cU (.ok (r,l))) (some r):=by
 refine ⟨hr,[some (rdK l)],[],rfl,rfl,by simp,by simp [rdK],by simp,Wk.ren [0] (by intro j hj;have:j=0:=(by simpa using hj);subst this;rfl) (Nat.le_refl _) (by simp) (fun p hp=>by cases hp) ?_⟩
 intro p hp k hk
 simp only [gM,cu,List.append_nil,List.mem_cons,List.not_mem_nil,or_false] at hp
 subst hp
 simp only [Option.some.injEq] at hk
 subst hk
 simp only [List.getD_eq_getElem?_getD,List.getElem?_cons_zero,Option.getD_some,h1]
 rfl
end
section
open Go.RowKit
open Ex (Xs xs0)
def eM:bq Tryz.prog 62 :=
 sT _ _ _ Tryz.func62 rfl (fun _ _=>by go_simp) (aO) ((fun _ _=>True)) ((fun e _=>.error e)) (by rw [Tryz.ntmps62];decide) (fun e l _=>by
 refine ab (ctx:=[]) 4000 ?_
 rw [Tryz.ntmps62,Tryz.results62]
 simp only [Tryz.f62,Option.getD_some,aw]
 simp only [go_sem,aO,xs1,ae,rC])
theorem ai {id:Nat} {h:ag} {args:List AV}:(eM).run id h args=mj 1 (az (aO) ((fun _ _=>True))) (fun x=>cU (((fun e _=>.error e)) x.1 x.2)) id h args:=rfl
theorem ah {id:Nat} {h:ag} {args:List AV}:(eM).pan id h args=lp (az (aO) ((fun _ _=>True))) (fun x=>cU (((fun e _=>.error e)) x.1 x.2)) h args:=rfl
theorem QB (k:Int) (m:Nat) (l:List Tok):SW Tryz.prog ⟨none,1⟩ Tryz.f111.ntmps (Tryz.f111.body.getD .skip) ⟨1,aw 0 [pv 0 0 0,iv k,iv m],cu 0 [rdK l]⟩ (ji Tryz.prog Tryz.f111.results.toList 1 (cU (.ok (sv (atF l k m),l)))):=by
 refine ab (ctx:=[]) 4000 ?_
 rw [Tryz.ntmps111,Tryz.results111]
 simp only [Tryz.f111,Option.getD_some,aw]
 rcases hl:l[m]? with _ | t
 ·have hlt:¬(m:Int)<l.length:=by have:=List.getElem?_eq_none_iff.1 hl;omega
  have e:atF l k m=emp:=by unfold atF;rw [hl]
  rw [e]
  simp only [go_sem,rdK,hlt,List.length_map]
  exact bZ rfl rfl
 ·have hlt:(m:Int)<l.length:=by have:=(List.getElem?_eq_some_iff.1 hl).1;omega
  by_cases hk:t.kind=k
  ·have e:atF l k m=t.text:=by unfold atF;rw [hl];simp only [if_pos hk]
   rw [e]
   simp only [go_sem,rdK,hlt,List.length_map,hl,oT,eq_true hk]
   exact bZ rfl rfl
  ·have e:atF l k m=emp:=by unfold atF;rw [hl];simp only [if_neg hk]
   rw [e]
   simp only [go_sem,rdK,hlt,List.length_map,hl,oT,hk]
   exact bZ rfl rfl
def atS:bq Tryz.prog 111 :=
 sT _ _ _ Tryz.func111 rfl (fun _ _=>by go_simp) (xs2) ((fun x _=>0≤x.2)) ((fun x l=>.ok (sv (atF l x.1 x.2.toNat),l))) (by rw [Tryz.ntmps111];decide) (fun x l h=>by
 obtain ⟨k,n⟩:=x
 obtain ⟨m,rfl⟩:=Int.eq_ofNat_of_zero_le h
 exact QB k m l)
theorem aD {id:Nat} {h:ag} {args:List AV}:(atS).run id h args=mj 1 (az (xs2) ((fun x _=>0≤x.2))) (fun x=>cU (((fun x l=>.ok (sv (atF l x.1 x.2.toNat),l))) x.1 x.2)) id h args:=rfl
theorem aC {id:Nat} {h:ag} {args:List AV}:(atS).pan id h args=lp (az (xs2) ((fun x _=>0≤x.2))) (fun x=>cU (((fun x l=>.ok (sv (atF l x.1 x.2.toNat),l))) x.1 x.2)) h args:=rfl
theorem J0 (l:List Tok) (n:Nat) (h:n≤l.length):((l.map mg.enc).drop n).take (l.length-n)=(l.drop n).map mg.enc:=by
 rw [← List.map_drop,List.take_of_length_le (by simp)]
theorem Oo (m:Nat) (l:List Tok) (h:m≤l.length):SW Tryz.prog ⟨none,1⟩ Tryz.f143.ntmps (Tryz.f143.body.getD .skip) ⟨1,aw 0 [pv 0 0 0,iv m],cu 0 [rdK l]⟩ (ji Tryz.prog Tryz.f143.results.toList 1 (cU (.ok (mF,l.drop m)))):=by
 refine ab (ctx:=[]) 4000 ?_
 rw [Tryz.ntmps143,Tryz.results143]
 simp only [Tryz.f143,Option.getD_some,aw]
 have h1:(m:Int)≤l.length:=by omega
 simp only [go_sem,rdK,List.length_map,h1,J0 l m h,Int.toNat_natCast]
 exact bZ rfl rfl
def qD:bq Tryz.prog 143 :=
 sT _ _ _ Tryz.func143 rfl (fun _ _=>by go_simp) (aO) ((fun n l=>0≤n∧n≤l.length)) ((fun n l=>.ok (mF,l.drop n.toNat))) (by rw [Tryz.ntmps143];decide) (fun n l h=>by
 obtain ⟨m,rfl⟩:=Int.eq_ofNat_of_zero_le h.1
 exact Oo m l (by omega))
theorem ao {id:Nat} {h:ag} {args:List AV}:(qD).run id h args=mj 1 (az (aO) ((fun n l=>0≤n∧n≤l.length))) (fun x=>cU (((fun n l=>.ok (mF,l.drop n.toNat))) x.1 x.2)) id h args:=rfl
theorem ak {id:Nat} {h:ag} {args:List AV}:(qD).pan id h args=lp (az (aO) ((fun n l=>0≤n∧n≤l.length))) (fun x=>cU (((fun n l=>.ok (mF,l.drop n.toNat))) x.1 x.2)) h args:=rfl
end
section
open Go.RowKit
open Ex (Xs xs0)
theorem Ah (s:ByteArray) (l:List Tok) (hs:¬s=emp):SW Tryz.prog ⟨none,1⟩ Tryz.f108.ntmps (Tryz.f108.body.getD .skip) ⟨1,aw 0 [pv 0 0 0,sv s],cu 0 [rdK l]⟩ (ji Tryz.prog Tryz.f108.results.toList 1 (cU (.ok (bv (br s l).1,(br s l).2)))):=by
 refine ab (ctx:=[⟨_,atS⟩,⟨_,qD⟩]) 4000 ?_
 rw [Tryz.ntmps108,Tryz.results108]
 simp only [Tryz.f108,Option.getD_some,aw]
 by_cases h:atF l 4 0=s
 ·have hl:(1:Int)≤l.length:=by have:=lI (l:=l) (k:=4) (n:=0) (by rw [h];exact hs);omega
  have e:br s l=(true,l.drop 1):=by unfold br;rw [if_pos h]
  rw [e]
  simp only [go_sem,rdK,az,aM,aO,aL,xs2,xs1,xs0,aj,ae,Except.map,aD,aC,ao,ak,ai,ah,h,hl,Int.toNat_zero,Int.toNat_one]
  exact bZ rfl rfl
 ·have e:br s l=(false,l):=by unfold br;rw [if_neg h]
  rw [e]
  simp only [go_sem,rdK,az,aM,aO,aL,xs2,xs1,xs0,aj,ae,Except.map,aD,aC,ao,ak,ai,ah,h,Int.toNat_zero,Int.toNat_one]
  exact bZ rfl rfl
def ir:bq Tryz.prog 108 :=
 sT _ _ _ Tryz.func108 rfl (fun _ _=>by go_simp) (aL) ((fun s _=>¬s=emp)) ((fun s l=>.ok (bv (br s l).1,(br s l).2))) (by rw [Tryz.ntmps108];decide) (fun s l h=>Ah s l h)
theorem aS {id:Nat} {h:ag} {args:List AV}:(ir).run id h args=mj 1 (az (aL) ((fun s _=>¬s=emp))) (fun x=>cU (((fun s l=>.ok (bv (br s l).1,(br s l).2))) x.1 x.2)) id h args:=rfl
theorem aR {id:Nat} {h:ag} {args:List AV}:(ir).pan id h args=lp (az (aL) ((fun s _=>¬s=emp))) (fun x=>cU (((fun s l=>.ok (bv (br s l).1,(br s l).2))) x.1 x.2)) h args:=rfl
theorem NM (s:ByteArray) (l:List Tok) (hs:¬s=emp):SW Tryz.prog ⟨none,1⟩ Tryz.f61.ntmps (Tryz.f61.body.getD .skip) ⟨1,aw 0 [pv 0 0 0,sv s],cu 0 [rdK l]⟩ (ji Tryz.prog Tryz.f61.results.toList 1 (cU ((mustR s l).map fun l=>(mF,l)))):=by
 refine ab (ctx:=[⟨_,ir⟩,⟨_,eM⟩]) 4000 ?_
 rw [Tryz.ntmps61,Tryz.results61]
 simp only [Tryz.f61,Option.getD_some,aw]
 by_cases h:atF l 4 0=s
 ·have e:br s l=(true,l.drop 1):=by unfold br;rw [if_pos h]
  have e2:mustR s l=.ok (l.drop 1):=by unfold mustR;rw [if_pos h]
  rw [e2]
  simp only [go_sem,rdK,az,aM,aO,aL,xs2,xs1,xs0,aj,ae,Except.map,aD,aC,ao,ak,ai,ah,aS,aR,hs,e]
  exact bZ rfl rfl
 ·have e:br s l=(false,l):=by unfold br;rw [if_neg h]
  have e2:mustR s l=.error 100:=by unfold mustR;rw [if_neg h]
  rw [e2]
  simp only [go_sem,rdK,az,aM,aO,aL,xs2,xs1,xs0,aj,ae,Except.map,aD,aC,ao,ak,ai,ah,aS,aR,hs,e]
def lU:bq Tryz.prog 61 :=
 sT _ _ _ Tryz.func61 rfl (fun _ _=>by go_simp) (aL) ((fun s _=>¬s=emp)) ((fun s l=>(mustR s l).map fun l=>(mF,l))) (by rw [Tryz.ntmps61];decide) (fun s l h=>NM s l h)
theorem bb {id:Nat} {h:ag} {args:List AV}:(lU).run id h args=mj 1 (az (aL) ((fun s _=>¬s=emp))) (fun x=>cU (((fun s l=>(mustR s l).map fun l=>(mF,l))) x.1 x.2)) id h args:=rfl
theorem ba {id:Nat} {h:ag} {args:List AV}:(lU).pan id h args=lp (az (aL) ((fun s _=>¬s=emp))) (fun x=>cU (((fun s l=>(mustR s l).map fun l=>(mF,l))) x.1 x.2)) h args:=rfl
def Mo (v:Val):AV:=(jZ uo).enc v
theorem cz (v:Val):Mo v=.s (.agg [.v (.int .i64 v.add),.v (.string v.plus),.v (.string v.minus)]):=rfl
theorem IY (l:List Tok) (h:RdOk l):SW Tryz.prog ⟨none,1⟩ Tryz.f113.ntmps (Tryz.f113.body.getD .skip) ⟨1,aw 0 [pv 0 0 0],cu 0 [rdK l]⟩ (ji Tryz.prog Tryz.f113.results.toList 1 (cU ((valueR l).map fun p=>(Mo p.1,p.2)))):=by
 refine ab (ctx:=[⟨_,Ex.parseS⟩,⟨_,Ex.evalS⟩,⟨_,qD⟩,⟨_,eM⟩]) 4000 ?_
 rw [Tryz.ntmps113,Tryz.results113]
 simp only [Tryz.f113,Option.getD_some,aw]
 have hn:=Ex.parseF_nice h.named
 have hl6:=h.few
 rcases hp:Ex.parseF l with e | s
 ·rw [hp] at hn
  have hne:¬e=0:=hn
  have hv:valueR l=.error e:=by unfold valueR;rw [hp]
  rw [hv]
  simp only [go_sem,rdK,az,aM,aO,aL,xs2,xs1,xs0,aj,ae,Except.map,aD,aC,ao,ak,ai,ah,Ex.parse_run,Ex.parse_pan,Ex.outParse,hl6,hp,hne]
 ·rw [hp] at hn
  obtain ⟨g1,g2,g3,g4,g5⟩:=hn
  have q2:s.ts.length≤1099511627776:=by omega
  have q3:∀ t∈s.ts,t.sym.size≤140737488355328:=fun t ht=>by have:=Ex.termB_size (g2 t ht);omega
  have q4:(s.at_:Int)≤l.length:=by omega
  have q5:(0:Int)≤s.at_:=by omega
  rcases hev:Ex.evalAll s.ts with ⟨⟨va,vp,vm⟩,x⟩
  by_cases hx:x=0
  ·subst hx
   have hv:valueR l=.ok (⟨va,vp,vm⟩,l.drop s.at_):=by unfold valueR;rw [hp];simp only [hev,if_true]
   rw [hv]
   simp only [go_sem,rdK,az,aM,aO,aL,xs2,xs1,xs0,aj,ae,Except.map,aD,aC,ao,ak,ai,ah,Ex.parse_run,Ex.parse_pan,Ex.outParse,hl6,hp,Ex.eval_run,Ex.eval_pan,Ex.outEval,hev,q2,q4,q5,cz]
   exact ⟨q3,bZ rfl rfl⟩
  ·have hv:valueR l=.error x:=by unfold valueR;rw [hp];simp only [hev,if_neg hx]
   rw [hv]
   simp only [go_sem,rdK,az,aM,aO,aL,xs2,xs1,xs0,aj,ae,Except.map,aD,aC,ao,ak,ai,ah,Ex.parse_run,Ex.parse_pan,Ex.outParse,hl6,hp,Ex.eval_run,Ex.eval_pan,Ex.outEval,hev,q2,hx]
   exact q3
def kx:bq Tryz.prog 113 :=
 sT _ _ _ Tryz.func113 rfl (fun _ _=>by go_simp) (xs0) ((fun _ l=>RdOk l)) ((fun _ l=>(valueR l).map fun (p:Val×List Tok)=>(Mo p.1,p.2))) (by rw [Tryz.ntmps113];decide) (fun _ l h=>IY l h)
theorem aH {id:Nat} {h:ag} {args:List AV}:(kx).run id h args=mj 1 (az (xs0) ((fun _ l=>RdOk l))) (fun x=>cU (((fun _ l=>(valueR l).map fun (p:Val×List Tok)=>(Mo p.1,p.2))) x.1 x.2)) id h args:=rfl
theorem aG {id:Nat} {h:ag} {args:List AV}:(kx).pan id h args=lp (az (xs0) ((fun _ l=>RdOk l))) (fun x=>cU (((fun _ l=>(valueR l).map fun (p:Val×List Tok)=>(Mo p.1,p.2))) x.1 x.2)) h args:=rfl
theorem JL (l:List Tok) (h:RdOk l):SW Tryz.prog ⟨none,1⟩ Tryz.f144.ntmps (Tryz.f144.body.getD .skip) ⟨1,aw 0 [pv 0 0 0],cu 0 [rdK l]⟩ (ji Tryz.prog Tryz.f144.results.toList 1 (cU ((countR l).map fun p=>(iv p.1,p.2)))):=by
 refine ab (ctx:=[⟨_,lU⟩,⟨_,kx⟩,⟨_,uV⟩,⟨_,eM⟩]) 4000 ?_
 rw [Tryz.ntmps144,Tryz.results144]
 simp only [Tryz.f144,Option.getD_some,aw]
 have hsh:¬(⟨#[35]⟩:ByteArray)=emp:=by decide
 rcases h1:mustR ⟨#[35]⟩ l with e | l1
 ·have hc:countR l=.error e:=by unfold countR;rw [show mustR bc l=.error e from h1]
  rw [hc]
  simp only [go_sem,rdK,az,aM,aO,aL,xs2,xs1,xs0,aj,ae,Except.map,aD,aC,ao,ak,ai,ah,bb,ba,hsh,h1]
 ·obtain ⟨g1,-⟩:=eH hsh h h1
  rcases h2:valueR l1 with e | ⟨⟨va,vp,vm⟩,l2⟩
  ·have hc:countR l=.error e:=by unfold countR;rw [show mustR bc l=.ok l1 from h1];simp only [h2]
   rw [hc]
   simp only [go_sem,rdK,az,aM,aO,aL,xs2,xs1,xs0,aj,ae,Except.map,aD,aC,ao,ak,ai,ah,bb,ba,hsh,h1,aH,aG,g1,h2]
  ·have hc:countR l=if (vp=emp∧vm=emp)∧0≤va∧va≤63 then .ok (va,l2) else .error 100:=by unfold countR;rw [show mustR bc l=.ok l1 from h1];simp only [h2]
   by_cases ha:vp=emp∧vm=emp
   ·have hA:(decide (vp=emp)&&decide (vm=emp))=true:=by rw [ha.1,ha.2];rfl
    by_cases h0:va<0
    ·rw [hc,if_neg (by omega)]
     simp only [go_sem,rdK,az,aM,aO,aL,xs2,xs1,xs0,aj,ae,Except.map,aD,aC,ao,ak,ai,ah,bb,ba,hsh,h1,aH,aG,g1,h2,cz,g9,jo,jn,hA,h0]
    ·by_cases h63:63<va
     ·rw [hc,if_neg (by omega)]
      simp only [go_sem,rdK,az,aM,aO,aL,xs2,xs1,xs0,aj,ae,Except.map,aD,aC,ao,ak,ai,ah,bb,ba,hsh,h1,aH,aG,g1,h2,cz,g9,jo,jn,hA,h0,h63]
     ·rw [hc,if_pos ⟨ha,by omega,by omega⟩]
      simp only [go_sem,rdK,az,aM,aO,aL,xs2,xs1,xs0,aj,ae,Except.map,aD,aC,ao,ak,ai,ah,bb,ba,hsh,h1,aH,aG,g1,h2,cz,g9,jo,jn,hA,h0,h63]
      exact bZ rfl rfl
   ·have hA:(decide (vp=emp)&&decide (vm=emp))=false:=by
     rw [Bool.and_eq_false_iff,decide_eq_false_iff_not,decide_eq_false_iff_not]
     exact Decidable.not_and_iff_or_not.1 ha
    rw [hc,if_neg (fun h=>ha h.1)]
    simp only [go_sem,rdK,az,aM,aO,aL,xs2,xs1,xs0,aj,ae,Except.map,aD,aC,ao,ak,ai,ah,bb,ba,hsh,h1,aH,aG,g1,h2,cz,g9,jo,jn,hA]
def JI:bq Tryz.prog 144 :=
 sT _ _ _ Tryz.func144 rfl (fun _ _=>by go_simp) (xs0) ((fun _ l=>RdOk l)) ((fun _ l=>(countR l).map fun (p:Int×List Tok)=>(iv p.1,p.2))) (by rw [Tryz.ntmps144];decide) (fun _ l h=>JL l h)
theorem rH {id:Nat} {h:ag} {args:List AV}:(JI).run id h args=mj 1 (az (xs0) ((fun _ l=>RdOk l))) (fun x=>cU (((fun _ l=>(countR l).map fun (p:Int×List Tok)=>(iv p.1,p.2))) x.1 x.2)) id h args:=rfl
theorem rG {id:Nat} {h:ag} {args:List AV}:(JI).pan id h args=lp (az (xs0) ((fun _ l=>RdOk l))) (fun x=>cU (((fun _ l=>(countR l).map fun (p:Int×List Tok)=>(iv p.1,p.2))) x.1 x.2)) h args:=rfl
theorem QN (l:List Tok):SW Tryz.prog ⟨none,1⟩ Tryz.f114.ntmps (Tryz.f114.body.getD .skip) ⟨1,aw 0 [pv 0 0 0],cu 0 [rdK l]⟩ (ji Tryz.prog Tryz.f114.results.toList 1 (cU ((loR l).map fun p=>(bv p.1,p.2)))):=by
 refine ab (ctx:=[⟨_,atS⟩,⟨_,qD⟩,⟨_,eM⟩]) 4000 ?_
 rw [Tryz.ntmps114,Tryz.results114]
 simp only [Tryz.f114,Option.getD_some,aw]
 by_cases h0:atF l 4 0=⟨#[58]⟩
 ·by_cases h1:atF l 1 1=⟨#[108,111,49,50]⟩
  ·by_cases h2:atF l 4 2=⟨#[58]⟩
   ·have hl:(3:Int)≤l.length:=by have:=lI (l:=l) (k:=4) (n:=2) (by rw [h2];decide);omega
    have e:loR l=.ok (true,l.drop 3):=by unfold loR dO lR;rw [if_neg (fun h=>h h0),if_neg (by simp [h1,h2])]
    rw [e]
    simp only [go_sem,rdK,az,aM,aO,aL,xs2,xs1,xs0,aj,ae,Except.map,aD,aC,ao,ak,ai,ah,Int.toNat_zero,Int.toNat_one,h0,h1,h2,hl]
    exact bZ rfl rfl
   ·have e:loR l=.error 100:=by unfold loR dO lR;rw [if_neg (fun h=>h h0),if_pos (.inr h2)]
    rw [e]
    simp only [go_sem,rdK,az,aM,aO,aL,xs2,xs1,xs0,aj,ae,Except.map,aD,aC,ao,ak,ai,ah,Int.toNat_zero,Int.toNat_one,h0,h1,h2]
  ·have e:loR l=.error 100:=by unfold loR dO lR;rw [if_neg (fun h=>h h0),if_pos (.inl h1)]
   rw [e]
   simp only [go_sem,rdK,az,aM,aO,aL,xs2,xs1,xs0,aj,ae,Except.map,aD,aC,ao,ak,ai,ah,Int.toNat_zero,Int.toNat_one,h0,h1]
 ·have e:loR l=.ok (false,l):=by unfold loR dO;rw [if_pos h0]
  rw [e]
  simp only [go_sem,rdK,az,aM,aO,aL,xs2,xs1,xs0,aj,ae,Except.map,aD,aC,ao,ak,ai,ah,Int.toNat_zero,h0]
  exact bZ rfl rfl
def ui:bq Tryz.prog 114 :=
 sT _ _ _ Tryz.func114 rfl (fun _ _=>by go_simp) (xs0) ((fun _ _=>True)) ((fun _ l=>(loR l).map fun (p:Bool×List Tok)=>(bv p.1,p.2))) (by rw [Tryz.ntmps114];decide) (fun _ l h=>QN l)
theorem bx {id:Nat} {h:ag} {args:List AV}:(ui).run id h args=mj 1 (az (xs0) ((fun _ _=>True))) (fun x=>cU (((fun _ l=>(loR l).map fun (p:Bool×List Tok)=>(bv p.1,p.2))) x.1 x.2)) id h args:=rfl
theorem bw {id:Nat} {h:ag} {args:List AV}:(ui).pan id h args=lp (az (xs0) ((fun _ _=>True))) (fun x=>cU (((fun _ l=>(loR l).map fun (p:Bool×List Tok)=>(bv p.1,p.2))) x.1 x.2)) h args:=rfl
def cx (p:hP×Bool):AV:=.tup [.agg [.v (.int .i64 p.1.n),.v (.bool p.1.x),.v (.bool p.1.sp)],.l (.v (.bool p.2))]
theorem Cq (l:List Tok):SW Tryz.prog ⟨none,1⟩ Tryz.f109.ntmps (Tryz.f109.body.getD .skip) ⟨1,aw 0 [pv 0 0 0],cu 0 [rdK l]⟩ (ji Tryz.prog Tryz.f109.results.toList 1 (cU (.ok (cx (au l).1,(au l).2)))):=by
 refine ab (ctx:=[⟨_,atS⟩,⟨_,qD⟩,⟨_,Oc⟩]) 4000 ?_
 rw [Tryz.ntmps109,Tryz.results109]
 simp only [Tryz.f109,Option.getD_some,aw]
 by_cases h:(fm 3 (atF l 1 0)).2=0
 ·have hl:(1:Int)≤l.length:=by
   have:=lI (l:=l) (k:=1) (n:=0) (fun e=>by rw [e] at h;revert h;decide +kernel)
   omega
  have e:au l=(((fm 3 (atF l 1 0)).1,true),l.drop 1):=by unfold au gJ;rw [if_pos h];rfl
  rw [e]
  simp only [go_sem,rdK,az,aM,aO,aL,xs2,xs1,xs0,aj,ae,Except.map,aD,aC,ao,ak,ai,ah,Int.toNat_zero,Int.toNat_one,uJ,uI,pP,h,hl,cx]
  exact bZ rfl rfl
 ·have e:au l=((r0,false),l):=by unfold au gJ;rw [if_neg h];rfl
  rw [e]
  simp only [go_sem,rdK,az,aM,aO,aL,xs2,xs1,xs0,aj,ae,Except.map,aD,aC,ao,ak,ai,ah,Int.toNat_zero,Int.toNat_one,uJ,uI,pP,h,cx,r0]
  exact bZ rfl rfl
def gW:bq Tryz.prog 109 :=
 sT _ _ _ Tryz.func109 rfl (fun _ _=>by go_simp) (xs0) ((fun _ _=>True)) ((fun _ l=>.ok (cx (au l).1,(au l).2))) (by rw [Tryz.ntmps109];decide) (fun _ l h=>Cq l)
theorem aX {id:Nat} {h:ag} {args:List AV}:(gW).run id h args=mj 1 (az (xs0) ((fun _ _=>True))) (fun x=>cU (((fun _ l=>.ok (cx (au l).1,(au l).2))) x.1 x.2)) id h args:=rfl
theorem aW {id:Nat} {h:ag} {args:List AV}:(gW).pan id h args=lp (az (xs0) ((fun _ _=>True))) (fun x=>cU (((fun _ l=>.ok (cx (au l).1,(au l).2))) x.1 x.2)) h args:=rfl
end
end Go.Proofs.YthcoegkfpinlfaaGreatDoor
