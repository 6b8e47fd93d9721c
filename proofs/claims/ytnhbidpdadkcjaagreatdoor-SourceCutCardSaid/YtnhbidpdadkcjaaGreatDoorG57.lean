import Derived.Test.YtnhbidpdadkcjaaGreatDoorG45
open Go.RowKit
set_option linter.unusedVariables false
set_option linter.unusedSimpArgs false
set_option maxRecDepth 100000
set_option maxHeartbeats 8000000
open List (length_cons map_cons take_of_length_le length_drop)
open Nat (zero_le)
namespace Go.Proofs.YtnhbidpdadkcjaaGreatDoor
open Tryz
theorem D9 {l:List Tok}{x:Int}(h:RdOk l)(e:lW l=.error x):x≠0:=by
 unfold lW at e;rcases hl:bm l.length [] l with y | ⟨ls,r⟩
 ·rw[hl]at e;injection e with e;subst e;exact tP hl
 rw[hl]at e;simp only at e;obtain⟨hr,-⟩:=ni h (by simp) hl;split at e
 ·cases e
 rcases hq:lF ⟨r,{ st0 with labels:=ls }⟩ with y | q
 case ok=>rw[hq]at e;cases e
 rw[hq]at e;injection e with e;subst e;unfold lF at hq;rcases hn:aL 1 110 r with z | ⟨name,l1⟩
 ·simp only[hn]at hq;injection hq with hq;have:=sN hn;omega
 simp only[hn]at hq;obtain⟨g1,g2,g3,g4,g5⟩:=oN hr hn;split at hq
 ·injection hq with hq;omega
 split at hq
 ·unfold Dz at hq;rcases hd:mI name ⟨l1,{ st0 with labels:=ls }⟩ with z | q1
  ·rw[hd]at hq;injection hq with hq;subst hq;exact Ix (p:=⟨l1,{ st0 with labels:=ls }⟩) ⟨g1,Nat.le_refl _,Nat.le_refl _,fun v hv=>(by cases hv)⟩ hd
  ·rw[hd]at hq;simp only at hq;split at hq
   ·cases hq
   ·injection hq with hq;omega
 rcases ho:fP l1 with z | o
 ·rw[ho]at hq;injection hq with hq;subst hq;exact yb g1 ho
 ·rw[ho]at hq;cases hq
theorem U6 {t:ByteArray}{x:Int}(e:eh (aa t)=.error x):x≠0:=by
 unfold eh at e;rcases hl:eF (aa t) with ⟨ts,n,z⟩;rw[hl]at e;simp only at e;split at e
 ·rename_i h0;subst h0;exact D9 (DU hl) e
 ·rename_i h0;injection e with e;rw[←e];exact h0
def Blk.flatB (k:Blk):Bool:=k.els.all fun e=>e.all (·.flat)
theorem BRep.flat {ρ ρ':Nat→Loc}{al al':Al}{w:World}{b b':Nat}{k:Blk}(hM:al.M.le al'.M)(hl:ρ' b'=ρ b)(ha:al' b')(hf:k.flatB=true)(H:BRep ρ al w b k):BRep ρ' al' w b' k:=by
 obtain⟨a1,a2,a3,a4,a5,a6,a7⟩:=H;refine⟨ha,by rw[hl];exact a2,by rw[hl];exact a3,a4,by rw[hl];exact a5,?_,by rw[hl];exact a7⟩;intro i j x hx;obtain⟨y,h1,h2,h3⟩:=a6 i j x hx;refine⟨y,by rw[hl];exact h1,h2,h3.flat hM ?_⟩;obtain⟨e,g1,g2⟩:=aD.1 hx;unfold Blk.flatB at hf;rw[List.all_eq_true]at hf;have:=hf e (List.mem_of_getElem? g1);rw[List.all_eq_true]at this;exact this x (List.mem_of_getElem? g2)
def Co {α:Type}(dec:List AV→Option (Prop×α))(n:α→Nat)(k:α→Blk)(id:Nat)(zs:List AV):Option Res:=match dec zs with
 |some (q,x)=>some ⟨q,.s (.l (.sl id 0 (n x))),[(id,some (k x))]⟩
 |none=>none
def Tk {P:Program}{α:Type}(f:FuncId)(fn:Func)(c:Code)(hf:P.funcs[f]? = some fn)(hb:fn.body=some c)
  (hen:∀(args:Array Value) (w:World),(callFunc f args).run P w=.ok (.enter f args) w) (dec:List AV→Option (Prop×α)) (enc:α→List AV) (hT:∀x,(enc x).all (·.flat)=true)
  (hdec:∀{zs:List AV} {q:Prop} {x:α},dec zs=some (q,x)→q→(enc x).length≤fn.ntmps∧∀(ρ:Nat→Loc) (al:Al) (vals:List Value),AsRep ρ al zs vals→AsRep ρ al (enc x) vals) (n:α→Nat) (k:α→Blk) (hk:∀x,(k x).own=true∧(k x).flatB=true)
  (body:∀{zs:List AV} {q:Prop} {x:α},dec zs=some (q,x)→q→SW P ⟨none,0⟩ fn.ntmps c ⟨0,ax 0 (enc x),[]⟩ (mX (fun s=>∃b,kf P fn.results.toList s=some (.s (.l (.sl b 0 (n x))))∧ac s.h b=some (k x)) (fun _ _=>False))):am P f where
 enter:=hen
 run:=fun id _ zs=>Co dec n k id zs
 mono:=by
  intro id h h' args R hs hr;exact hr
 sound:=by
  intro id h args R hr hob B w0 ρ al w vals H hid hA;unfold Co at hr;split at hr
  case h_2=>cases hr
  rename_i q' x hd;injection hr with hr;subst hr;obtain⟨hn,hen'⟩:=hdec hd hob;have hA1:AsRep (fun _=>⟨0,0,0,0,false⟩) ⟨fun _=>False,dp al.M ρ h [] w⟩ (enc x) vals:=(hen' _ _ _ hA).flat kj (hT x)
  ·refine eP (B:=⟨fun k=>k<w.heap.size,dp al.M ρ h [] w,[],[],DM H []⟩) (ρ:=fun _=>⟨0,0,0,0,false⟩) (al:=⟨fun _=>False,dp al.M ρ h [] w⟩) (s0:=⟨0,ax 0 (enc x),[]⟩) hf hb rfl rfl ⟨by have:=AsRep.length hA1;simp;omega,Marks.nil _ _ _,gI hA1 _,vu H [],fun b hb=>hb.elim⟩ (body hd hob) ?_ ?_
   ·intro s ρ1 al1s a w1 hq1 H1;obtain⟨b,h1,h2⟩:=hq1;obtain⟨v',g1,g2⟩:=jg (fn:=fn) H1 h1;refine⟨v',g1,?_⟩;obtain⟨g4,g5⟩:=DS (U:=[]) (U1:=[]) H H1.w;obtain⟨M2,hM2⟩:∃M2,dp al1s.M ρ1 s.h [] w1=M2:=⟨_,rfl⟩;rw[hM2]at g4 g5;have hMle:al1s.M.le M2:=by rw[←hM2];exact kj
    have hid0:¬(⟨al.p,M2⟩:Al) id:=hid id (Nat.le_refl _) (by omega);have E2:Ext ρ (Go.Proofs.YtnhbidpdadkcjaaGreatDoor.ρ1 ρ id (ρ1 b)) ⟨al.p,M2⟩ (al1 ⟨al.p,M2⟩ id):=Ext.new hid0 _;have e:=CS ρ id (ρ1 b);obtain⟨ho,hfl⟩:=hk x;have hB1:=H1.w.blk b _ h2;have hown:=H1.w.own b _ h2 ho;have hsz:w.heap.size≤w1.heap.size:=H1.w.below.size;refine⟨v',Go.Proofs.YtnhbidpdadkcjaaGreatDoor.ρ1 ρ id (ρ1 b),al1 ⟨al.p,M2⟩ id,rfl,g4.trans E2,?_,?_,?_⟩
    ·rintro c (hc | rfl)
     ·exact .inl hc
     ·exact .inr ⟨Nat.le_refl _,by omega⟩
    ·obtain⟨_,A',e1,e2,e3⟩:=g2;refine⟨.inr rfl,A',?_,?_,?_⟩
     ·rw[e];exact e1
     ·rw[e];exact e2
     ·rw[e];exact e3
    ·have g6:WRep B w0 ρ ⟨al.p,M2⟩ h w1:=by simpa using g5
     refine(g6.step E2 g6.below (fun _ _ _ _=>rfl) (fun _ _=>rfl)).more (BRep.flat (al:=al1s) hMle e (.inr rfl) hfl hB1) ho ?_ ?_ ?_
     ·rw[e];exact fun hc hS=>hown hc (H.size _ hS)
     ·rw[e];intro hc o;show M2 _ o=none;cases hy:M2 (ρ1 b).blk o with
      |none=>rfl
      |some y =>
       rw[←hM2]at hy;rcases frzM_some hy with hy | ⟨⟨c,_,hc,_⟩,_⟩
       ·rw[H1.w.memOwn b _ h2 ho hc o]at hy;cases hy
       ·cases hc
     ·rw[e];intro c l hcl hol hcap hne hc2 heq;have hcne:Go.Proofs.YtnhbidpdadkcjaaGreatDoor.ρ1 ρ id (ρ1 b) c=ρ c:=by unfold Go.Proofs.YtnhbidpdadkcjaaGreatDoor.ρ1;rw[if_neg hne]
      rw[hcne]at hcap heq;have:=(H.blk c l hcl).lt hol hcap;exact hown hc2 (show(ρ1 b).blk<w.heap.size by rw[←heq];exact this)
   ·intro y s ρ1 al1 a w1 h1 H1;exact h1.elim
 psound:=by
  intro id h args ob y E hr;cases hr
structure Flt where
 file:Int
 line:Int
 err:Int
deriving DecidableEq
theorem oI (c:UInt8):∀l:List UInt8,Lib.indexByte l c<l.length ∧ -1≤Lib.indexByte l c
 |[]=>by simp[Lib.indexByte]
 |x::l=>by
  have ih:=oI c l;rw[Lib.indexByte,length_cons];split
  ·omega
  ·split
   ·omega
   ·rename_i h;rw[beq_iff_eq]at h;omega
def NU (s:ByteArray)(c:Int):Int:=Lib.indexByte s.data.toList c.toNat.toUInt8
abbrev UB:am prog 89 :=
 Bv _ (asP fun _ _=>by go_simp) aT (bq .u8) (fun _ _=>True) (fun s c=>iv (NU s c)) (asP fun _ _=>rfl) (asP fun s p hp M w u v _ hu hv=>by
  have hu':u=.string s:=hu;have hv':v=.int .u8 p:=hv;subst hu';subst hv';refine(jB s p w).mono ?_;rintro e w' ⟨rfl,rfl⟩;exact⟨⟨_,rfl,rfl⟩,.refl _ _⟩)
def j3 (s p:ByteArray):ByteArray×ByteArray×Bool:=if 0≤Lib.indexByte s.data.toList (hdU p) then(s.extract 0 (Lib.indexByte s.data.toList (hdU p)).toNat,s.extract ((Lib.indexByte s.data.toList (hdU p)).toNat+1) s.size,true) else(s,⟨#[]⟩,false)
def uX (r:ByteArray×ByteArray×Bool):AV:=.tup [.l (.v (.string r.1)),.l (.v (.string r.2.1)),.l (.v (.bool r.2.2))]
theorem OR (s p:ByteArray)(hp:p.size=1∧s.size≤1099511627776):Sw f143 0 ⟨0,ax 0 [aT.enc s,aT.enc p],[]⟩ (oQ f143 (.ret (uX (j3 s p)))):=by
 refine aq [⟨_,Tb⟩] rfl ?_;obtain⟨hp,hs⟩:=hp;have hlt:=oI (hdU p) s.data.toList;have hsz:s.data.toList.length=s.size:=by simp
 rw[hsz]at hlt;obtain⟨i,hi⟩:∃i,Lib.indexByte s.data.toList (hdU p)=i:=⟨_,rfl⟩;have hF:j3 s p=if 0≤i then(s.extract 0 i.toNat,s.extract (i.toNat+1) s.size,true) else(s,⟨#[]⟩,false):=by unfold j3;rw[hi]
 rw[hi]at hlt;by_cases h0:0≤i
 ·rw[if_pos h0]at hF;obtain⟨n,rfl⟩:∃n:Nat,i=n:=⟨i.toNat,by omega⟩;have e1:=wI n;have h2:n+1≤s.size:=by omega
  have h3:(n:Int)≤(s.size:Int):=by omega
  have h5:n≤s.size:=by omega
  have h4:((n+1:Nat):Int)≤(s.size:Int):=by omega
  have h6:(0:Int)≤((n+1:Nat):Int):=by omega
  simp only[Int.toNat_natCast]at hF;simp only[go_sem,hp,hi,h0];refine sD mixed [] [] ?_;simp only[go_sem,hp,h0,e1,h2,h3,h4,h5,h6,hF,uX]
 ·rw[if_neg h0]at hF;simp only[go_sem,hp,hi,h0,hF,uX]
abbrev TQ:am prog 143 :=
 mz2 func143 (aT) (aT) ((fun s p=>p.size=1∧s.size≤1099511627776)) ((fun s p=>.ret (uX (j3 s p)))) (asP fun s p hp=>OR s p hp)
abbrev TR:am prog 91 :=
 mz2 func91 (aT) (aT) ((fun s p=>p.size=1∧s.size≤1099511627776)) ((fun s p=>.ret (uX (j3 s p)))) (asP fun s p hp=>by
 refine aq [⟨_,TQ⟩] rfl ?_;simp only[go_sem,hp,uX])
def nlS:ByteArray:=⟨#[10]⟩
def dZ:Nat→Nat→ByteArray→List (Int×ByteArray)
 |0,_,_=>[]
 |f+1,n,s=>if s.size=0 then[] else((n:Int),(j3 s nlS).1)::dZ f (n+1) (j3 s nlS).2.1
def aB (s:ByteArray):List (Int×ByteArray):=dZ (s.size+1) 1 s
theorem qY {s:ByteArray}(h:¬s.size=0):(j3 s nlS).2.1.size<s.size:=by
 have hlt:=oI (hdU nlS) s.data.toList;have hsz:s.data.toList.length=s.size:=by simp
 rw[hsz]at hlt;unfold j3;split
 ·simp only[ByteArray.size_extract];omega
 ·show 0<s.size;omega
theorem mK:∀(f g n:Nat) (s:ByteArray),s.size<f→s.size<g→dZ f n s=dZ g n s
 |0,g,n,s,h,_=>absurd h (Nat.not_lt_zero _)
 |f+1,0,n,s,_,h=>absurd h (Nat.not_lt_zero _)
 |f+1,g+1,n,s,h1,h2=>by
  rw[dZ,dZ];by_cases h:s.size=0
  ·rw[if_pos h,if_pos h]
  ·rw[if_neg h,if_neg h,mK f g (n+1) _ (by have:=qY h;omega) (by have:=qY h;omega)]
def oJ (r:Int×ByteArray):List AV:=[iv r.1,sv r.2]
def PA:List D→Option (Prop×List (List AV))
 |[.pd [.v (.string s)]]=>some (s.size≤1099511627776,(aB s).map oJ)
 |_=>none
theorem He (l:Nat)(s:ByteArray)(hs:s.size≤1099511627776):SWy prog l ((aB s).map oJ) ⟨none,0⟩ f90.ntmps (f90.body.getD .skip) ⟨0,ax 0 [.s (.l (.v (.func (.yield l) #[] #[]))),.s (.l (.d (.pd [.v (.string s)])))],[]⟩ (0,true) (itQ ((aB s).map oJ)):=by
 refine jw (ctx:=[]) 4000 ?_;rw[ntmps90];simp only[f90,Option.getD_some,ax];simp only[go_sem];refine r8 (ι:=Nat×ByteArray) (fun p=>(aB s).drop p.1=dZ (p.2.size+1) (p.1+1) p.2∧p.2.size≤1099511627776∧p.1+p.2.size≤s.size∧p.1≤(aB s).length) (fun p=>⟨0,[(0,.s (.l (.v (.func (.yield l) #[] #[])))),(3,iv ((p.1:Int)+1)),(4,sv p.2)],[]⟩) (fun p=>(p.1,true)) (fun p=>p.2.size) (0,s) ⟨rfl,hs,by simp,zero_le _⟩ rfl (fun p _ b k hk=>by cases hk) (wR []) ?_;rintro⟨k,r⟩ ⟨h1,h2,h3,h4⟩;simp only at h1 h2 h3 h4;refine jw (ctx:=[⟨_,TR⟩]) 4000 ?_;by_cases hz:r=⟨#[]⟩
 ·subst hz;have e:(aB s).drop k=[]:=by rw[h1];rfl
  rw[List.drop_eq_nil_iff]at e;have e2:k=(aB s).length:=by omega
  simp only[go_sem,e2]
 ·have hr:¬r.size=0:=by
   intro h;apply hz;apply ByteArray.ext;exact Array.eq_empty_of_size_eq_zero h
  have hlt:=qY hr
  have hN:(aB s).drop k=(((k+1:Nat):Int),(j3 r nlS).1)::dZ ((j3 r nlS).2.1.size+1) (k+1+1) (j3 r nlS).2.1:=by
   rw[h1,dZ,if_neg hr,mK _ ((j3 r nlS).2.1.size+1) _ _ hlt (Nat.lt_succ_self _)]
  have hg:(aB s)[k]? = some (((k+1:Nat):Int),(j3 r nlS).1):=by
   have:((aB s).drop k)[0]? = some (((k+1:Nat):Int),(j3 r nlS).1):=by rw[hN];rfl
   rw[List.getElem?_drop,Nat.add_zero]at this;exact this
  have hkl:k<(aB s).length:=(List.getElem?_eq_some_iff.1 hg).1
  have hd:(aB s).drop (k+1)=dZ ((j3 r nlS).2.1.size+1) (k+1+1) (j3 r nlS).2.1:=by
   have:((aB s).drop k).drop 1=dZ ((j3 r nlS).2.1.size+1) (k+1+1) (j3 r nlS).2.1:=by rw[hN];rfl
   rw[List.drop_drop]at this;exact this
  have ei:IntKind.i64.wrap ((k:Int)+1+1)=((k+1:Nat):Int)+1:=by rw[IntKind.wrap_i64];omega
  have hp1:(⟨#[10]⟩:ByteArray).size=1:=rfl;obtain⟨c,hc⟩:∃c,j3 r nlS=c:=⟨_,rfl⟩;have hc':j3 r ⟨#[10]⟩=c:=hc;rw[hc]at hlt hg hd;simp only[go_sem,hz,hp1,h2,hc',uX,ei];refine⟨?_,(k+1,c.2.1),⟨hd,by simp only;omega,by simp only;omega,hkl⟩,hlt,rfl,wR []⟩;rw[hg];rfl
noncomputable def Bj:It prog 90 :=
 Tj _ _ _ func90 rfl rfl (fun _ _=>by go_simp) PA (by
  intro ds q L hd hq l;unfold PA at hd;split at hd
  case h_2=>cases hd
  rename_i s;injection hd with hd;injection hd with h1 hd;subst h1;subst hd;exact⟨by rw[ntmps90];show 1+1≤25;decide,He l s hq⟩)
theorem DV {s:ByteArray}:Bj.dec [.pd [.v (.string s)]]=some (s.size≤1099511627776,(aB s).map oJ):=rfl
abbrev Qy:am prog 39 :=
 mz1 func39 (aT) ((fun _=>True)) ((fun s=>.ret (.fn 90 [] [.d (.pd [.v (.string s)])]))) (asP fun s _=>by
 refine aq [] rfl ?_;simp only[go_sem])
def DI:kG Flt where
 dec:=fun | [.v (.int .i64 a),.v (.int .i64 b),.v (.int .i64 c)]=>some ⟨a,b,c⟩ | _=>none
 enc:=fun t=>[.v (.int .i64 t.file),.v (.int .i64 t.line),.v (.int .i64 t.err)]
 inv:=by
  intro c x h;split at h
  ·injection h with h;subst h;rfl
  ·cases h
 back:=by intro x;rfl
theorem Qn (t:Flt):DI.enc t=[.v (.int .i64 t.file),.v (.int .i64 t.line),.v (.int .i64 t.err)]:=rfl
theorem fltD (a b c:Int):DI.dec [.v (.int .i64 a),.v (.int .i64 b),.v (.int .i64 c)]=some ⟨a,b,c⟩:=rfl
abbrev Mg:Ty (List Flt):=tSl 3 DI
theorem A0:xR prog 31=some [1,1,1]:=by kernel_rfl
theorem Fs {x y:Operand}{a b:Flt}:iU prog (do eqGuard .neq 31 x y (.agg #[.int .i64 a.file,.int .i64 a.line,.int .i64 a.err]) (.agg #[.int .i64 b.file,.int .i64 b.line,.int .i64 b.err]);binOp .neq 31 (.agg #[.int .i64 a.file,.int .i64 a.line,.int .i64 a.err]) (.agg #[.int .i64 b.file,.int .i64 b.line,.int .i64 b.err]))=some (.bool (!decide (a=b))):=by
  have h:eU prog 31 [.int .i64 a.file,.int .i64 a.line,.int .i64 a.err] [.int .i64 b.file,.int .i64 b.line,.int .i64 b.err]=some (decide (a=b)):=by
    obtain⟨a1,a2,a3⟩:=a;obtain⟨b1,b2,b3⟩:=b;simp only[eU,A0,fN];by_cases h1:a1=b1<;>by_cases h2:a2=b2<;>by_cases h3:a3=b3<;>simp[h1,h2,h3]
  have:=gC (P:=prog) (t:=31) (x:=x) (y:=y) (xs:=[.int .i64 a.file,.int .i64 a.line,.int .i64 a.err]) (ys:=[.int .i64 b.file,.int .i64 b.line,.int .i64 b.err]);rw[h,kz]at this;exact this
structure fI where
 line:Int
 s:StV
deriving DecidableEq
def Bh (s:StV):Bool:=!decide (s.kind=0)||!decide (s.labels=[])
def row1 (r:Int×ByteArray):Option fI:=match eh (aa r.2) with
 |.ok s=>if Bh s=true then some ⟨r.1,s⟩ else none
 |.error _=>none
def flt1 (f:Int)(r:Int×ByteArray):Option Flt:=match eh (aa r.2) with
 |.ok _=>none
 |.error e=>some ⟨f,r.1,e⟩
def dF (ls:List (Int×ByteArray)):List fI:=ls.filterMap row1
def dI (f:Int)(ls:List (Int×ByteArray)):List Flt:=ls.filterMap (flt1 f)
def lh (k:Int)(r:fI):fI:=⟨r.line+k,r.s⟩
def nK (k:Int)(r:Flt):Flt:=⟨r.file,r.line+k,r.err⟩
def pi (k:Int)(r:Int×ByteArray):Int×ByteArray:=(r.1+k,r.2)
theorem Ci (k:Int)(ls:List (Int×ByteArray)):dF (ls.map (pi k))=(dF ls).map (lh k):=by
 unfold dF
 induction ls with
 |nil=>rfl
 |cons r ls ih =>
  rw[map_cons,List.filterMap_cons,List.filterMap_cons]
  have e:row1 (pi k r)=(row1 r).map (lh k):=by
   unfold row1 pi;simp only;split
   ·split
    ·rfl
    ·rfl
   ·rfl
  rw[e];cases row1 r with
  |none=>simpa using ih
  |some x=>simp[ih]
theorem A4 (f k:Int)(ls:List (Int×ByteArray)):dI f (ls.map (pi k))=(dI f ls).map (nK k):=by
 unfold dI
 induction ls with
 |nil=>rfl
 |cons r ls ih =>
  rw[map_cons,List.filterMap_cons,List.filterMap_cons]
  have e:flt1 f (pi k r)=(flt1 f r).map (nK k):=by
   unfold flt1 pi;simp only;split<;>rfl
  rw[e];cases flt1 f r with
  |none=>simpa using ih
  |some x=>simp[ih]
theorem Be {c:UInt8}:∀{l:List UInt8},Lib.indexByte l c = -1→∀r,Lib.indexByte (l++c::r) c=l.length
 |[],_,r=>by simp[Lib.indexByte]
 |x::l,h,r=>by
  have hl:=oI c l;have hl2:=oI c (l++c::r);rw[List.cons_append,Lib.indexByte,length_cons];rw[Lib.indexByte]at h;split
  ·rename_i hx;rw[if_pos hx]at h;omega
  ·rename_i hx;rw[if_neg hx]at h
   have h1:Lib.indexByte l c = -1:=by
    split at h
    ·rename_i h2;simpa using h2
    ·rename_i h2;have h2:¬Lib.indexByte l c = -1:=by simpa using h2
     omega
   have ih:=Be h1 r;rw[ih];split
   ·rename_i h3;simp at h3
   ·omega
theorem Bf {c:UInt8}:∀{l:List UInt8},0≤Lib.indexByte l c→∃p r,l=p++c::r∧Lib.indexByte p c = -1∧(p.length:Int)=Lib.indexByte l c
 |[],h=>by simp[Lib.indexByte]at h
 |x::l,h=>by
  have hl:=oI c l;rw[Lib.indexByte]at h ⊢;split
  ·rename_i hx;have hx:x=c:=by simpa using hx
   exact⟨[],l,by rw[hx];rfl,rfl,rfl⟩
  ·rename_i hx;rw[if_neg hx]at h;split at h
   ·omega
   ·rename_i h2;have h2:¬Lib.indexByte l c = -1:=by simpa using h2
    obtain⟨p,r,e,e1,e2⟩:=Bf (c:=c) (l:=l) (by omega);refine⟨x::p,r,by rw[e];rfl,?_,?_⟩
    ·rw[Lib.indexByte,if_neg hx,e1];rfl
    ·rw[if_neg (by simpa using h2),length_cons];omega
def bt (l:List UInt8):ByteArray:=⟨l.toArray⟩
theorem Pz (s:ByteArray):bt s.data.toList=s:=by
 apply ByteArray.ext;rfl
theorem jj (l:List UInt8)(a b:Nat):(bt l).extract a b=bt ((l.drop a).take (b-a)):=by
 apply ByteArray.ext;rw[←Array.toList_inj];simp[bt,ByteArray.data_extract,Array.toList_extract]
theorem eA (l:List UInt8):(bt l).size=l.length:=by simp[bt,ByteArray.size]
theorem AC {p r:List UInt8}(h:Lib.indexByte p 10 = -1):j3 (bt (p++10::r)) nlS=(bt p,bt r,true):=by
 have hi:Lib.indexByte (bt (p++10::r)).data.toList (hdU nlS)=p.length:=Be h r;unfold j3;rw[hi,pS,Int.toNat_natCast,jj,jj,eA];congr 1
 ·simp
 ·congr 1;rw[List.length_append,length_cons,List.drop_append,List.drop_eq_nil_of_le (by omega),show p.length+1-p.length=1 by omega];exact congrArg bt (take_of_length_le (by simp;omega))
def cF:Nat→List UInt8→Nat×Nat
 |0,_=>(0,0)
 |n+1,l=>if 0≤Lib.indexByte l 10 then((Lib.indexByte l 10).toNat+1+(cF n (l.drop ((Lib.indexByte l 10).toNat+1))).1,(cF n (l.drop ((Lib.indexByte l 10).toNat+1))).2+1) else(l.length,0)
theorem ow:∀(n:Nat) (l:List UInt8),(cF n l).1≤l.length∧(cF n l).2≤n
 |0,l=>⟨zero_le _,zero_le _⟩
 |n+1,l=>by
  unfold cF;split
  ·rename_i h;have h1:=ow n (l.drop ((Lib.indexByte l 10).toNat+1));have h2:=oI 10 l;rw[length_drop]at h1;simp only;omega
  ·simp
theorem Cl (f n:Nat):dZ f n (bt [])=[]:=by
 cases f with
 |zero=>rfl
 |succ f=>rw[dZ,if_pos (by rfl)]
theorem Ck:∀(n f g h m:Nat) (l:List UInt8),l.length<f→l.length<g→l.length<h →
  dZ f m (bt l)=dZ g m (bt (l.take (cF n l).1))++dZ h (m+(cF n l).2) (bt (l.drop (cF n l).1))
 |0,f,g,h,m,l,hf,hg,hh=>by
  show dZ f m (bt l)=dZ g m (bt (l.take 0))++dZ h (m+0) (bt (l.drop 0));rw[List.take_zero,Cl,List.drop_zero,Nat.add_zero,List.nil_append];exact mK f h m _ (by rw[eA];exact hf) (by rw[eA];exact hh)
 |n+1,f,g,h,m,l,hf,hg,hh=>by
  unfold cF;split
  ·rename_i h0;obtain⟨p,r,e,e1,e2⟩:=Bf h0;have ep:(Lib.indexByte l 10).toNat=p.length:=by omega
   rw[ep];have ed:l.drop (p.length+1)=r:=by rw[e];simp
   rw[ed];simp only;have hr:=ow n r;have hlen:l.length=p.length+1+r.length:=by rw[e];simp;omega
   have et:l.take (p.length+1+(cF n r).1)=p++10::r.take (cF n r).1:=by
    rw[e,List.take_append,take_of_length_le (by omega),show p.length+1+(cF n r).1-p.length=(cF n r).1+1 by omega];rfl
   have dt:l.drop (p.length+1+(cF n r).1)=r.drop (cF n r).1:=by rw[←List.drop_drop,ed]
   obtain⟨F,rfl⟩:∃F,f=F+1:=⟨f-1,by omega⟩;obtain⟨G,rfl⟩:∃G,g=G+1:=⟨g-1,by omega⟩;have ih:=Ck n F G h (m+1) r (by omega) (by omega) (by omega);have n1:¬(bt (p++10::r)).size=0:=by rw[eA];simp
   have n2:¬(bt (p++10::r.take (cF n r).1)).size=0:=by rw[eA];simp
   rw[et,dt,e,dZ,if_neg n1,AC e1,dZ,if_neg n2,AC e1];simp only;rw[ih,show m+1+(cF n r).2=m+((cF n r).2+1) by omega];rfl
  ·rename_i h0;simp only;rw[List.take_length,List.drop_length,Cl,List.append_nil];exact mK f g m _ (by rw[eA];exact hf) (by rw[eA];exact hg)
theorem ub (c:Nat):∀(f m:Nat) (s:ByteArray),dZ f (m+c) s=(dZ f m s).map (pi c)
 |0,m,s=>rfl
 |f+1,m,s=>by
  rw[dZ,dZ];split
  ·rfl
  ·rw[show m+c+1=m+1+c by omega,ub c f (m+1),map_cons];congr 1
theorem Hf (n:Nat)(s:ByteArray):aB s=aB (s.extract 0 (cF n s.data.toList).1)++(aB (s.extract (cF n s.data.toList).1 s.size)).map (pi ((cF n s.data.toList).2:Nat)):=by
 have hs:=Pz s;obtain⟨l,hl⟩:∃l,s.data.toList=l:=⟨_,rfl⟩;rw[hl]at hs ⊢;have hz:=ow n l;rw[←hs,jj,jj,eA];simp only[List.drop_zero,Nat.sub_zero];rw[take_of_length_le (l:=l.drop _) (by rw[length_drop];omega)];unfold aB;rw[eA,eA,eA,←ub];rw[Ck n (l.length+1) (l.length+1) (l.length+1) 1 l (Nat.lt_succ_self _) (Nat.lt_succ_self _) (Nat.lt_succ_self _)];rw[mK (l.length+1) ((l.take (cF n l).1).length+1) _ _ (by rw[eA,List.length_take];omega) (by rw[eA];omega)];rw[mK (l.length+1) ((l.drop (cF n l).1).length+1) _ _ (by rw[eA,length_drop];omega) (by rw[eA];omega)]
theorem GB (n:Nat)(s:ByteArray):s.extract 0 (cF n s.data.toList).1++s.extract (cF n s.data.toList).1 s.size=s:=by
 have hs:=Pz s;obtain⟨l,hl⟩:∃l,s.data.toList=l:=⟨_,rfl⟩;rw[hl]at hs ⊢;have hz:=ow n l;rw[←hs,jj,jj,eA];simp only[List.drop_zero,Nat.sub_zero];rw[take_of_length_le (l:=l.drop _) (by rw[length_drop];omega)];apply ByteArray.ext;rw[←Array.toList_inj];simp[bt,ByteArray.data_append]
theorem pg:∀(f m:Nat) (s:ByteArray),∀r∈dZ f m s,0≤r.1∧r.1≤(m+s.size:Nat)
 |0,m,s,r,h=>by cases h
 |f+1,m,s,r,h=>by
  rw[dZ]at h;split at h
  ·cases h
  ·rename_i hz;rcases List.mem_cons.1 h with rfl | h
   ·simp only;omega
   ·have:=pg f (m+1) _ r h;have:=qY hz;omega
abbrev TN:am prog 38 :=
 mz2 func38 (aT) (bq .u8) ((fun _ _=>True)) ((fun s c=>.ret (iv (NU s c)))) (asP fun s c _=>by
 refine aq [⟨_,UB⟩] rfl ?_;simp only[go_sem])
def Dn (s:ByteArray)(n:Nat):AV:=.tup [.l (.v (.string (s.extract 0 (cF n s.data.toList).1))),.l (.v (.string (s.extract (cF n s.data.toList).1 s.size))),.l (.v (.int .i64 ((cF n s.data.toList).2:Nat)))]
theorem GL (s:ByteArray)(a:Nat):(s.extract a s.size).data.toList=s.data.toList.drop a:=by
 have h:s.data.toList.length=s.size:=by simp
 rw[ByteArray.data_extract,Array.toList_extract];simp only[List.extract_eq_take_drop];rw[take_of_length_le (by rw[length_drop];omega)]
theorem UA (s:ByteArray)(a:Nat):NU (s.extract a s.size) 10=Lib.indexByte (s.data.toList.drop a) 10:=by
 unfold NU;rw[GL];rfl
theorem OL (s:ByteArray)(n:Nat)(hn:n≤100000)(hs:s.size≤1000000):Sw f11 0 ⟨0,ax 0 [aT.enc s,iv n],[]⟩ (oQ f11 (.ret (Dn s n))):=by
 refine aq [] rfl ?_;have hsz:s.data.toList.length=s.size:=by simp
 obtain⟨R,hR⟩:∃R,Dn s n=R:=⟨_,rfl⟩;rw[hR];simp only[go_sem];refine bF (ι:=Nat×Nat) (fun p=>p.1≤n∧p.2≤s.size∧cF n s.data.toList=(p.2+(cF (n-p.1) (s.data.toList.drop p.2)).1,p.1+(cF (n-p.1) (s.data.toList.drop p.2)).2)) (fun p=>⟨0,[(0,sv s),(1,iv n),(7,iv p.2),(8,iv p.1)],[]⟩) (fun p=>n-p.1) (0,0) ⟨zero_le _,zero_le _,by simp⟩ (wR []) ?_;rintro⟨i,a⟩ ⟨h1,h2,h3⟩;simp only at h1 h2 h3;refine aw [⟨_,TN⟩] ?_;have haI:(a:Int)≤s.size:=by omega
 by_cases hlt:i<n
 ·have hltI:(i:Int)<n:=by omega
  obtain⟨m,hm⟩:∃m,n-i=m+1:=⟨n-i-1,by omega⟩;rw[hm]at h3;rw[show cF (m+1) (s.data.toList.drop a)=if 0≤Lib.indexByte (s.data.toList.drop a) 10 then((Lib.indexByte (s.data.toList.drop a) 10).toNat+1+(cF m ((s.data.toList.drop a).drop ((Lib.indexByte (s.data.toList.drop a) 10).toNat+1))).1,(cF m ((s.data.toList.drop a).drop ((Lib.indexByte (s.data.toList.drop a) 10).toNat+1))).2+1) else((s.data.toList.drop a).length,0) from rfl]at h3;have hlt2:=oI 10 (s.data.toList.drop a);rw[length_drop,hsz]at hlt2;have hx:=UA s a;obtain⟨k,hk⟩:∃k,Lib.indexByte (s.data.toList.drop a) 10=k:=⟨_,rfl⟩;rw[hk]at h3 hlt2 hx;by_cases h0:0≤k
  ·obtain⟨q,rfl⟩:∃q:Nat,k=q:=⟨k.toNat,by omega⟩;rw[if_pos h0,Int.toNat_natCast,List.drop_drop]at h3;have f0:¬(q:Int)<0:=by omega
   have f1:=wI q;have f2:IntKind.i64.wrap ((a:Int)+((q+1:Nat):Int))=((a+(q+1):Nat):Int):=by rw[IntKind.wrap_i64];omega
   have f3:=wI i;simp only[go_sem,hltI,haI,h2,hx,f0,f1,f2,f3];refine⟨(i+1,a+(q+1)),⟨hlt,by simp only;omega,?_⟩,by simp only;omega,wR []⟩;simp only;rw[h3,show n-(i+1)=m by omega];simp only[Prod.mk.injEq];omega
  ·rw[if_neg h0]at h3;have f0:k<0:=by omega
   have e1:cF n s.data.toList=(s.size,i):=by
    rw[h3,length_drop,hsz];simp only[Nat.add_zero,Prod.mk.injEq,and_true];omega
   have e2:s.extract 0 s.size=s:=by
    apply ByteArray.ext;rw[ByteArray.data_extract,←Array.toList_inj];simp;rw[←hsz,List.take_length]
   have e3:s.extract s.size s.size=⟨#[]⟩:=by
    apply ByteArray.ext;rw[ByteArray.data_extract,←Array.toList_inj];simp
   unfold Dn at hR;rw[e1]at hR;simp only[e2,e3]at hR;simp only[go_sem,hltI,haI,h2,hx,f0,←hR]
 ·obtain rfl:i=n:=by omega
  have hI:¬(i:Int)<i:=by omega
  rw[Nat.sub_self]at h3;have e1:cF i s.data.toList=(a,i):=h3;unfold Dn at hR;rw[e1]at hR;simp only[go_sem,hI];refine sD mixed [] [] ?_;simp only[go_sem,haI,h2,Int.toNat_zero,←hR]
abbrev TL:am prog 11 :=
 mz2 func11 (aT) (bq .i64) ((fun s n=>(0≤n∧n≤100000)∧s.size≤1000000)) ((fun s n=>.ret (Dn s n.toNat))) (asP fun s n h=>by
 obtain⟨m,rfl⟩:=Int.eq_ofNat_of_zero_le h.1.1;exact OL s m (by omega) h.2)
end Go.Proofs.YtnhbidpdadkcjaaGreatDoor
