import Derived.Test.YtpjlafmhoifkmaaGreatChecked
import Derived.Test.YtpjlafmhoifkmaaGreatN11
import Derived.Test.YtpjlafmhoifkmaaGreatN13
import Derived.Test.YtpjlafmhoifkmaaGreatN10
set_option linter.unusedVariables false
set_option linter.unusedSimpArgs false
set_option maxRecDepth 100000
set_option maxHeartbeats 8000000
namespace Go.Proofs.YtpjlafmhoifkmaaGreat
section
open Go.RowKit
theorem ax:Tryz.prog.follows .mixedOrders=true:=by kernel_rfl
def ae:kx Ins where
 dec:=fun | [.v (.int .i64 op),.v (.bool x),.v (.bool s),.v (.int .i64 rd),.v (.int .i64 rn),.v (.int .i64 rm),.v (.int .i64 ra),.v (.int .i64 a),.v (.int .i64 b),.v (.int .i64 c)]=>some ⟨op,x,s,rd,rn,rm,ra,a,b,c⟩ | _=>none
 enc:=fun x=>[.v (.int .i64 x.op),.v (.bool x.x),.v (.bool x.s),.v (.int .i64 x.rd),.v (.int .i64 x.rn),.v (.int .i64 x.rm),.v (.int .i64 x.ra),.v (.int .i64 x.a),.v (.int .i64 x.b),.v (.int .i64 x.c)]
 inv:=by
  intro c x h
  split at h
  ·injection h with h;subst h;rfl
  ·cases h
 back:=by intro x;rfl
def opE (o:OpV):List D:=[.v (.int .i64 o.kind),.v (.int .i64 o.r.n),.v (.bool o.r.x),.v (.bool o.r.sp),.v (.int .i64 o.m.n),.v (.bool o.m.x),.v (.bool o.m.sp),.v (.int .i64 o.md),.v (.int .i64 o.amt),.v (.int .i64 o.n),.v (.int .i64 o.add),.v (.string o.plus),.v (.string o.minus),.v (.bool o.lo),.v (.int .i64 o.mode)]
def opR:kx OpV where
 dec:=fun | [.v (.int .i64 kind),.v (.int .i64 rn),.v (.bool rx),.v (.bool rs),.v (.int .i64 mn),.v (.bool mx),.v (.bool ms),.v (.int .i64 md),.v (.int .i64 amt),.v (.int .i64 n),.v (.int .i64 add),.v (.string plus),.v (.string minus),.v (.bool lo),.v (.int .i64 mode)]=>some ⟨kind,⟨rn,rx,rs⟩,⟨mn,mx,ms⟩,md,amt,n,add,plus,minus,lo,mode⟩ | _=>none
 enc:=opE
 inv:=by
  intro c x h
  split at h
  ·injection h with h;subst h;rfl
  ·cases h
 back:=by intro x;rfl
def aw (x:Ins):List LV:=[.v (.int .i64 x.op),.v (.bool x.x),.v (.bool x.s),.v (.int .i64 x.rd),.v (.int .i64 x.rn),.v (.int .i64 x.rm),.v (.int .i64 x.ra),.v (.int .i64 x.a),.v (.int .i64 x.b),.v (.int .i64 x.c)]
def opV (o:OpV):AV:=(am opR).enc o
def opL (o:OpV):List LV:=bX (opE o)
def eU:aQ Tryz.prog 111 :=
 mk2 _ _ _ Tryz.func111 rfl (fun _ _=>by go_simp) (ar .i64) (ez) ((fun _ _=>True)) ((fun n x=>.ret (opV (ab n x)))) (by rw [Tryz.ntmps111];decide) (fun n x _=>by
 refine aa (ctx:=[]) 4000 ?_
 rw [Tryz.ntmps111,Tryz.results111]
 simp only [Tryz.f111,Option.getD_some,ag]
 simp only [go_sem,opV,ab,op0,r0,opR,opE,emp])
theorem bM {id:Nat} {h:ah} {args:List AV}:(eU).run id h args=bm (cq (ar .i64) (ez) ((fun _ _=>True))) (fun x=>((fun n x=>.ret (opV (ab n x)))) x.1 x.2) h args:=rfl
theorem bL {id:Nat} {h:ah} {args:List AV}:(eU).pan id h args=bt (cq (ar .i64) (ez) ((fun _ _=>True))) (fun x=>((fun n x=>.ret (opV (ab n x)))) x.1 x.2) h args:=rfl
end
section
open Go.RowKit
def wrK (x:Ins) (nm:ByteArray) (n tb:Nat):Blk:=⟨true,68,12,[aw x++[.v (.string nm),.sl tb 0 n]]⟩
def ay (l:List OpV):Blk:=⟨true,40,15,l.map opL⟩
def cB:List LV→Option OpV
 | [.v (.int .i64 kind),.v (.int .i64 rn),.v (.bool rx),.v (.bool rs),.v (.int .i64 mn),.v (.bool mx),.v (.bool ms),.v (.int .i64 md),.v (.int .i64 amt),.v (.int .i64 n),.v (.int .i64 add),.v (.string plus),.v (.string minus),.v (.bool lo),.v (.int .i64 mode)]=>some ⟨kind,⟨rn,rx,rs⟩,⟨mn,mx,ms⟩,md,amt,n,add,plus,minus,lo,mode⟩
 | _=>none
theorem oJ {c:List LV} {o:OpV} (h:cB c=some o):c=opL o:=by
 unfold cB at h
 split at h
 ·injection h with h;subst h;rfl
 ·cases h
def aL:List LV→Option (Ins×ByteArray×Nat×Nat)
 | [.v (.int .i64 op),.v (.bool x),.v (.bool s),.v (.int .i64 rd),.v (.int .i64 rn),.v (.int .i64 rm),.v (.int .i64 ra),.v (.int .i64 a),.v (.int .i64 b),.v (.int .i64 c),.v (.string nm),.sl tb 0 n]=>some (⟨op,x,s,rd,rn,rm,ra,a,b,c⟩,nm,tb,n)
 | _=>none
theorem wd {c:List LV} {x:Ins} {nm:ByteArray} {tb n:Nat} (h:aL c=some (x,nm,tb,n)):c=aw x++[.v (.string nm),.sl tb 0 n]:=by
 unfold aL at h
 split at h
 ·simp only [Option.some.injEq,Prod.mk.injEq] at h
  obtain ⟨rfl,rfl,rfl,rfl⟩:=h
  rfl
 ·cases h
def aX (h:ah):AV→Option (List Nat×(Ins×ByteArray×List OpV))
 | .s (.l (.p b 0 0))=>match hget h b with
  | some ⟨true,T,12,[e]⟩=>match aL e with
   | some (x,nm,tb,n)=>match hget h tb with
    | some ⟨true,T2,15,rows⟩=>match aG cB rows with
     | some l=>if T=68∧T2=40∧n=l.length∧b≠tb then some ([b,tb],(x,nm,l)) else none
     | none=>none
    | _=>none
   | none=>none
  | _=>none
 | _=>none
theorem iO {h:ah} {A:AV} {bs:List Nat} {x:Ins} {nm:ByteArray} {l:List OpV} (hd:aX h A=some (bs,x,nm,l)) :
  ∃ b tb,A=.s (.l (.p b 0 0))∧bs=[b,tb]∧b≠tb∧hget h b=some (wrK x nm l.length tb)∧hget h tb=some (ay l):=by
 unfold aX at hd
 split at hd
 case h_2=>cases hd
 rename_i b
 split at hd
 case h_2=>cases hd
 rename_i T e hb
 split at hd
 case h_2=>cases hd
 rename_i x' nm' tb n he
 split at hd
 case h_2=>cases hd
 rename_i T2 rows ht
 split at hd
 case h_2=>cases hd
 rename_i l' hl
 split at hd
 case isFalse=>cases hd
 rename_i hc
 obtain ⟨rfl,rfl,rfl,hne⟩:=hc
 simp only [Option.some.injEq,Prod.mk.injEq] at hd
 obtain ⟨rfl,rfl,rfl,rfl⟩:=hd
 refine ⟨b,tb,rfl,rfl,hne,?_,?_⟩
 ·rw [hb,wrK,wd he]
 ·rw [ht,ay,d6 (d:=cB) (e:=opL) (fun c x hc=>oJ hc) hl]
theorem fT {h h':ah} (hs:∀ b k,hget h b=some k→hget h' b=some k) {A:AV} {r:List Nat×(Ins×ByteArray×List OpV)} (hd:aX h A=some r):aX h' A=some r:=by
 unfold aX at hd ⊢
 split at hd
 case h_2=>cases hd
 split at hd
 case h_2=>cases hd
 rename_i T e hb
 simp only [hs _ _ hb]
 cases he:aL e with
 | none=>simp [he] at hd
 | some y =>
  obtain ⟨x,nm,tb,n⟩:=y
  simp only [he] at hd ⊢
  split at hd
  case h_2=>cases hd
  rename_i ht
  simp only [hs _ _ ht]
  exact hd
def bk:AV×(Ins×ByteArray×List OpV)→RO:=fun y=>.ret y.1 [some (wrK y.2.1 y.2.2.1 y.2.2.2.length 1)] [ay y.2.2.2]
structure Xw (X:Type) where
 dec:List AV→Option X
 enc:X→List AV
 len:Nat
 enc_len:∀ x,(enc x).length=len
 ok:∀ {zs:List AV} {x:X},dec zs=some x→∀ {ρ ρ':Nat→Loc} {al al':Al} {vals:List Value},AsRep ρ al zs vals→AsRep ρ' al' (enc x) vals
def xw0:Xw Unit where
 dec:=fun | []=>some () | _=>none
 enc:=fun _=>[]
 len:=0
 enc_len:=fun _=>rfl
 ok:=by
  intro zs x h ρ ρ' al al' vals hA
  split at h
  ·match vals,hA with
   | [],_=>trivial
  ·cases h
def xwT {X:Type} (T:Ty X) (hpl:∀ x,(T.enc x).plain=true):Xw X where
 dec:=fun | [A]=>T.dec A | _=>none
 enc:=fun x=>[T.enc x]
 len:=1
 enc_len:=fun _=>rfl
 ok:=by
  intro zs x h ρ ρ' al al' vals hA
  split at h
  ·match vals,hA with
   | [v],⟨a,_⟩=>exact ⟨(T.ok h a).plain (hpl _),trivial⟩
  ·cases h
def cp {X:Type} (T:Xw X) (q:X→Ins→List OpV→Prop) (h:ah):List AV→Option (Prop×List Nat×(X×(Ins×ByteArray×List OpV)))
 | A::zs=>match aX h A,T.dec zs with
  | some (bs,y),some x=>some (q x y.1 y.2.2,bs,(x,y))
  | _,_=>none
 | []=>none
theorem g9 (x:Ins) (nm:ByteArray) (n tb:Nat) (g:Nat→Nat):(wrK x nm n tb).ren g=wrK x nm n (g tb):=rfl
theorem dH (l:List OpV) (g:Nat→Nat):(ay l).ren g=ay l:=by
 unfold ay Blk.ren
 have:∀ o:OpV,(opL o).map (·.ren g)=opL o:=fun o=>lz
 simp [Function.comp_def,this]
def mkW {X:Type} (f:FuncId) (fn:Func) (c:Code) (hf:Tryz.prog.funcs[f]? = some fn) (hb:fn.body=some c)
  (hen:∀ (args:Array Value) (w:World),(callFunc f args).run Tryz.prog w=.ok (.enter f args) w) (T:Xw X) (q:X→Ins→List OpV→Prop) (F:X→Ins→ByteArray→List OpV→AV×(Ins×ByteArray×List OpV)) (hn:T.len+1≤fn.ntmps)
  (body:∀ x i nm l,q x i l→SW Tryz.prog ⟨none,1⟩ fn.ntmps c ⟨2,ag 0 (.s (.l (.p 0 0 0))::T.enc x),cn 0 [wrK i nm l.length 1,ay l]⟩ (gn Tryz.prog fn.results.toList 1 (bk (F x i nm l)))):aQ Tryz.prog f :=
 mkR 1 2 (by decide) f fn c hf hb hen (cp T q) (fun x=>.s (.l (.p 0 0 0))::T.enc x.1) (fun x=>[wrK x.2.1 x.2.2.1 x.2.2.2.length 1,ay x.2.2.2]) (fun x=>bk (F x.1 x.2.1 x.2.2.1 x.2.2.2))
  (by
   intro h h' args r hs hd
   unfold cp at hd ⊢
   split at hd
   ·split at hd
    ·rename_i h1 h2
     rw [fT hs h1,h2]
     exact hd
    ·cases hd
   ·cases hd)
  (by
   intro h zs q' bs x hd hq
   unfold cp at hd
   split at hd
   case h_2=>cases hd
   rename_i A zs'
   split at hd
   case h_2=>cases hd
   rename_i bs' y x' h1 h2
   injection hd with hd
   injection hd with e1 hd
   injection hd with e2 e3
   subst e2
   subst e3
   obtain ⟨i,nm,l⟩:=y
   obtain ⟨b,tb,rfl,rfl,hne,hb1,hb2⟩:=iO h1
   refine ⟨by rw [List.length_cons,T.enc_len];exact hn,rfl,rfl,by simp [hne],fun d=>⟨?_,?_⟩⟩
   ·intro j b' k hj hk
    match j,hj,hk with
    | 0,hj,hk =>
     simp at hj hk
     subst hj
     subst hk
     exact ⟨rfl,by rw [hb1,g9];rfl⟩
    | 1,hj,hk =>
     simp at hj hk
     subst hj
     subst hk
     exact ⟨rfl,by rw [hb2,dH]⟩
   ·intro ρ al vals hA
    match vals,hA with
    | v::vs,⟨a,r⟩=>exact ⟨a,T.ok (al:=al) h2 r⟩)
  (by
   intro h zs q' bs x hd hq
   unfold cp at hd
   split at hd
   case h_2=>cases hd
   split at hd
   case h_2=>cases hd
   injection hd with hd
   injection hd with e1 hd
   injection hd with e2 e3
   subst e1
   subst e3
   exact body _ _ _ _ hq)
theorem eK {st:St} {r:AV} {x:Ins} {nm:ByteArray} {l:List OpV} {tb:Nat} (hr:r.plain=true) (h1:hget st.h 0=some (wrK x nm l.length tb)) (h2:hget st.h tb=some (ay l)) (hn:tb≠0) :
  na 1 st (bk (r,x,nm,l)) (some r):=by
 refine ⟨hr,[some (wrK x nm l.length 1)],[ay l],rfl,rfl,by simp,by simp [wrK],by simp [ay],Wk.ren [0,tb] (by intro j hj;have:j=0:=(by simpa using hj);subst this;rfl) (Nat.le_refl _) (by simpa using fun h=>hn h.symm) (fun p hp=>by cases hp) ?_⟩
 intro p hp k hk
 simp only [dC,cn,List.cons_append,List.nil_append,List.mem_cons,List.not_mem_nil,or_false] at hp
 rcases hp with rfl | rfl
 ·simp only [Option.some.injEq] at hk
  subst hk
  simp only [List.getD_eq_getElem?_getD,List.getElem?_cons_zero,Option.getD_some,h1,g9]
  rfl
 ·simp only [Option.some.injEq] at hk
  subst hk
  simp only [List.getD_eq_getElem?_getD,List.getElem?_cons_succ,List.getElem?_cons_zero,Option.getD_some,h2,dH]
theorem JL (o:OpV) (x:Ins) (nm:ByteArray) (l:List OpV) (h:l.length≤1000):SW Tryz.prog ⟨none,1⟩ Tryz.f105.ntmps (Tryz.f105.body.getD .skip) ⟨2,ag 0 [.s (.l (.p 0 0 0)),opV o],cn 0 [wrK x nm l.length 1,ay l]⟩ (gn Tryz.prog Tryz.f105.results.toList 1 (bk (.tup [],x,nm,l++[o]))):=by
 refine aa (ctx:=[]) 4000 ?_
 rw [Tryz.ntmps105,Tryz.results105]
 simp only [Tryz.f105,Option.getD_some,ag]
 have hm:l.length+1≤maxLen:=by unfold maxLen;omega
 have hb:(l.length+1)*120≤140737488355328:=by omega
 simp only [go_sem,wrK,aw,ay,opV,opR,opE,hm,hb]
 refine aI (ctx:=[]) ax [8,12] (by kernel_rfl) ?_
 simp only [go_sem,hm,hb]
 refine eK (x:=x) (nm:=nm) (l:=l++[o]) (tb:=146) rfl ?_ ?_ (by decide)
 ·simp [hget,wrK,aw]
 ·simp [hget,ay,opL,opE,bX,ofD]
def dV:aQ Tryz.prog 105 :=
 mkW _ _ _ Tryz.func105 rfl (fun _ _=>by go_simp) (xwT (am opR) fun _=>rfl) (fun _ _ l=>l.length≤1000) (fun o x nm l=>(.tup [],x,nm,l++[o])) (by rw [Tryz.ntmps105];decide) (fun o x nm l h=>JL o x nm l h)
theorem bE {id:Nat} {h:ah} {args:List AV}:dV.run id h args=bK 1 (cp (xwT (am opR) fun _=>rfl) (fun _ _ l=>l.length≤1000)) (fun y=>bk ((fun o x nm l=>(.tup [],x,nm,l++[o])) y.1 y.2.1 y.2.2.1 y.2.2.2)) id h args:=rfl
theorem bF {id:Nat} {h:ah} {args:List AV}:dV.pan id h args=bO (cp (xwT (am opR) fun _=>rfl) (fun _ _ l=>l.length≤1000)) (fun y=>bk ((fun o x nm l=>(.tup [],x,nm,l++[o])) y.1 y.2.1 y.2.2.1 y.2.2.2)) h args:=rfl
end
end Go.Proofs.YtpjlafmhoifkmaaGreat
