import Derived.Test.YtpjlafmhoifkmaaGreatM21
import Derived.Test.YtpjlafmhoifkmaaGreatM16
import Derived.Test.YtpjlafmhoifkmaaGreatM13
set_option linter.unusedVariables false
set_option linter.unusedSimpArgs false
set_option maxRecDepth 100000
set_option maxHeartbeats 8000000
namespace Go.Proofs.YtpjlafmhoifkmaaGreat
section
open Go.RowKit
theorem bH (a b:Int):(a==b)=decide (a=b):=by by_cases h:a=b<;>simp [h]
theorem ew (a b:Int):(a !=b) = !decide (a=b):=by by_cases h:a=b<;>simp [h]
def q9:aJ Tryz.prog 100 :=
 mk1 _ _ _ Tryz.func100 rfl (fun _ _=>by go_simp) (ai ac) ((fun _=>True)) ((fun x=>.ret (bv (fw x)))) (by rw [Tryz.ntmps100];decide) (fun x _=>by
 refine aa (ctx:=[]) 4000 ?_
 rw [Tryz.ntmps100,Tryz.results100]
 simp only [Tryz.f100,Option.getD_some,ag]
 simp only [go_sem,ac]
 repeat' (first | (refine And.intro ?_ ?_) | (refine fun _=>?_))
 all_goals first | (exfalso;omega) | (unfold fw;simp [*];done) | (unfold fw;simp [*];omega))
theorem pi {id:Nat} {h:am} {args:List AV}:(q9).run id h args=aY (au (ai ac) ((fun _=>True))) ((fun x=>.ret (bv (fw x)))) h args:=rfl
theorem o8 {id:Nat} {h:am} {args:List AV}:(q9).pan id h args=aZ (au (ai ac) ((fun _=>True))) ((fun x=>.ret (bv (fw x)))) h args:=rfl
def zq:aJ Tryz.prog 99 :=
 mk1 _ _ _ Tryz.func99 rfl (fun _ _=>by go_simp) (ai ac) ((fun _=>True)) ((fun x=>.ret (bv (ke x)))) (by rw [Tryz.ntmps99];decide) (fun x _=>by
 refine aa (ctx:=[]) 4000 ?_
 rw [Tryz.ntmps99,Tryz.results99]
 simp only [Tryz.f99,Option.getD_some,ag]
 obtain ⟨op,xx,ss,rd,rn,rm,ra,a,b,c⟩:=x
 cases ss<;>simp only [go_sem,ac]
 all_goals
  repeat' (first | (refine And.intro ?_ ?_) | (refine fun _=>?_))
  all_goals first | (exfalso;omega) | (unfold ke;simp [*];done) | (unfold ke;simp [*];omega))
theorem CJ {id:Nat} {h:am} {args:List AV}:(zq).run id h args=aY (au (ai ac) ((fun _=>True))) ((fun x=>.ret (bv (ke x)))) h args:=rfl
theorem Bk {id:Nat} {h:am} {args:List AV}:(zq).pan id h args=aZ (au (ai ac) ((fun _=>True))) ((fun x=>.ret (bv (ke x)))) h args:=rfl
def se:aJ Tryz.prog 103 :=
 mk1 _ _ _ Tryz.func103 rfl (fun _ _=>by go_simp) (ai ac) ((fun _=>True)) ((fun x=>.ret (bv (fk x)))) (by rw [Tryz.ntmps103];decide) (fun x _=>by
 refine aa (ctx:=[]) 4000 ?_
 rw [Tryz.ntmps103,Tryz.results103]
 simp only [Tryz.f103,Option.getD_some,ag]
 simp only [go_sem,ac]
 repeat' (first | (refine And.intro ?_ ?_) | (refine fun _=>?_))
 all_goals first | (exfalso;omega) | (unfold fk;simp [*];done) | (unfold fk;simp [*];omega))
theorem wm {id:Nat} {h:am} {args:List AV}:(se).run id h args=aY (au (ai ac) ((fun _=>True))) ((fun x=>.ret (bv (fk x)))) h args:=rfl
theorem wA {id:Nat} {h:am} {args:List AV}:(se).pan id h args=aZ (au (ai ac) ((fun _=>True))) ((fun x=>.ret (bv (fk x)))) h args:=rfl
def sa:aJ Tryz.prog 101 :=
 mk1 _ _ _ Tryz.func101 rfl (fun _ _=>by go_simp) (ai ac) ((fun _=>True)) ((fun x=>.ret (bv (nU x)))) (by rw [Tryz.ntmps101];decide) (fun x _=>by
 refine aa (ctx:=[⟨_,q9⟩]) 4000 ?_
 rw [Tryz.ntmps101,Tryz.results101]
 simp only [Tryz.f101,Option.getD_some,ag]
 obtain ⟨q,hq⟩:∃ q,fw x=q:=⟨_,rfl⟩
 cases q<;>simp only [go_sem,ac,pi,o8,hq]
 all_goals
  repeat' (first | (refine And.intro ?_ ?_) | (refine fun _=>?_))
  all_goals first | (exfalso;omega) | (unfold nU;simp [*];done) | (unfold nU;simp [*];omega) | (unfold nU;simp [*,bH];done))
theorem vL {id:Nat} {h:am} {args:List AV}:(sa).run id h args=aY (au (ai ac) ((fun _=>True))) ((fun x=>.ret (bv (nU x)))) h args:=rfl
theorem wD {id:Nat} {h:am} {args:List AV}:(sa).pan id h args=aZ (au (ai ac) ((fun _=>True))) ((fun x=>.ret (bv (nU x)))) h args:=rfl
theorem Gj (x:Ins):SW Tryz.prog ⟨none,0⟩ Tryz.f102.ntmps (Tryz.f102.body.getD .skip) ⟨0,ag 0 [(ai ac).enc x],[]⟩ (ax Tryz.prog Tryz.f102.results.toList (.ret (bv (dS x)))):=by
 refine aa (ctx:=[]) 4000 ?_
 rw [Tryz.ntmps102,Tryz.results102]
 simp only [Tryz.f102,Option.getD_some,ag]
 obtain ⟨op,xx,ss,rd,rn,rm,ra,a,b,c⟩:=x
 simp only [go_sem,ac]
 refine aP (ctx:=[]) ak [] (by kernel_rfl) ?_
 have h3:a=1∨a=2∨(¬a=1∧¬a=2):=by omega
 rcases h3 with rfl | rfl | ⟨h1,h2⟩
 ·cases ss<;>cases xx<;>simp only [go_sem]
  all_goals
   repeat' (first | (refine And.intro ?_ ?_) | (refine fun _=>?_))
   all_goals first | (exfalso;omega) | (unfold dS;simp [*];done) | (unfold dS;simp [*,bH,ew];done) | (unfold dS;simp [*];omega) | (unfold dS;simp [*,bH,ew];intro _;omega)
 ·cases ss<;>cases xx<;>simp only [go_sem]
  all_goals
   repeat' (first | (refine And.intro ?_ ?_) | (refine fun _=>?_))
   all_goals first | (exfalso;omega) | (unfold dS;simp [*];done) | (unfold dS;simp [*,bH,ew];done) | (unfold dS;simp [*];omega) | (unfold dS;simp [*,bH,ew];intro _;omega)
 ·have b1:(a==1)=false:=by simpa using h1
  have b2:(a==2)=false:=by simpa using h2
  cases ss<;>cases xx<;>simp only [go_sem,b1,b2]
  all_goals
   repeat' (first | (refine And.intro ?_ ?_) | (refine fun _=>?_))
   all_goals first | (exfalso;omega) | (unfold dS;simp [*];done) | (unfold dS;simp [*,bH,ew];done) | (unfold dS;simp [*];omega) | (unfold dS;simp [*,bH,ew];intro _;omega)
def zH:aJ Tryz.prog 102 :=
 mk1 _ _ _ Tryz.func102 rfl (fun _ _=>by go_simp) (ai ac) ((fun _=>True)) ((fun x=>.ret (bv (dS x)))) (by rw [Tryz.ntmps102];decide) (fun x _=>Gj x)
theorem Bb {id:Nat} {h:am} {args:List AV}:(zH).run id h args=aY (au (ai ac) ((fun _=>True))) ((fun x=>.ret (bv (dS x)))) h args:=rfl
theorem BF {id:Nat} {h:am} {args:List AV}:(zH).pan id h args=aZ (au (ai ac) ((fun _=>True))) ((fun x=>.ret (bv (dS x)))) h args:=rfl
end
section
open Go.RowKit
theorem JG (xx ss:Bool) (rd rn rm ra a b c:Int):SW Tryz.prog ⟨none,0⟩ Tryz.f43.ntmps (Tryz.f43.body.getD .skip) ⟨0,ag 0 [(ai ac).enc ⟨22,xx,ss,rd,rn,rm,ra,a,b,c⟩],[]⟩ (ax Tryz.prog Tryz.f43.results.toList (.ret (bv (de ⟨22,xx,ss,rd,rn,rm,ra,a,b,c⟩)))):=by
 refine aa (ctx:=[⟨_,q9⟩]) 4000 ?_
 rw [Tryz.ntmps43,Tryz.results43]
 simp only [Tryz.f43,Option.getD_some,ag]
 have e:de ⟨22,xx,ss,rd,rn,rm,ra,a,b,c⟩=(fw ⟨22,xx,ss,rd,rn,rm,ra,a,b,c⟩&&decide (¬a=4)&&decide (¬a=5)):=rfl
 rw [e]
 cases hq:fw ⟨22,xx,ss,rd,rn,rm,ra,a,b,c⟩<;>cases xx<;>simp only [go_sem,ac,pi,o8,hq]
 all_goals
  repeat' (first | (refine And.intro ?_ ?_) | (refine fun _=>?_))
  all_goals first | rfl | (exfalso;omega) | (simp [*,bH,ew];done)
theorem F2 (x:Ins) (h:opQ x.op):SW Tryz.prog ⟨none,0⟩ Tryz.f43.ntmps (Tryz.f43.body.getD .skip) ⟨0,ag 0 [(ai ac).enc x],[]⟩ (ax Tryz.prog Tryz.f43.results.toList (.ret (bv (de x)))):=by
 obtain ⟨op,xx,ss,rd,rn,rm,ra,a,b,c⟩:=x
 simp only at h
 by_cases h22:op=22
 ·subst h22
  exact JG xx ss rd rn rm ra a b c
 refine aa (ctx:=[⟨_,rJ⟩,⟨_,zq⟩,⟨_,q9⟩,⟨_,sa⟩,⟨_,zH⟩,⟨_,se⟩]) 4000 ?_
 rw [Tryz.ntmps43,Tryz.results43]
 simp only [Tryz.f43,Option.getD_some,ag]
 have hop:op=1∨op=2∨op=3∨op=4∨op=5∨op=6∨op=7∨op=8∨op=9∨op=10∨op=11∨op=12∨op=13∨op=14∨op=15∨op=16∨op=17∨op=18∨op=19∨op=20∨op=21∨op=23∨op=24∨op=25∨op=26∨op=27∨op=28∨op=29∨op=30∨op=31∨op=32:=by
  have:=op_cases h
  omega
 rcases hop with rfl | rfl | rfl | rfl | rfl | rfl | rfl | rfl | rfl | rfl | rfl | rfl | rfl | rfl | rfl | rfl | rfl | rfl | rfl | rfl | rfl | rfl | rfl | rfl | rfl | rfl | rfl | rfl | rfl | rfl | rfl
 all_goals
  cases xx<;>simp only [go_sem,ac,wi,ws,CJ,Bk,pi,o8,vL,wD,Bb,BF,wm,wA]
  all_goals
   repeat' (first | (refine And.intro ?_ ?_) | (refine fun _=>?_))
   all_goals first | rfl | (exfalso;omega) | (unfold de;simp [*];done) | (unfold de;simp [*,bH,ew];done) | (unfold de;simp [*];omega)
def yb:aJ Tryz.prog 43 :=
 mk1 _ _ _ Tryz.func43 rfl (fun _ _=>by go_simp) (ai ac) ((fun x=>opQ x.op)) ((fun x=>.ret (bv (de x)))) (by rw [Tryz.ntmps43];decide) (fun x h=>F2 x h)
theorem tC {id:Nat} {h:am} {args:List AV}:(yb).run id h args=aY (au (ai ac) ((fun x=>opQ x.op))) ((fun x=>.ret (bv (de x)))) h args:=rfl
theorem sV {id:Nat} {h:am} {args:List AV}:(yb).pan id h args=aZ (au (ai ac) ((fun x=>opQ x.op))) ((fun x=>.ret (bv (de x)))) h args:=rfl
def qB:aJ Tryz.prog 25 :=
 mk1 _ _ _ Tryz.func25 rfl (fun _ _=>by go_simp) (ai ac) ((fun _=>True)) ((fun x=>.ret (iv (ay x)))) (by rw [Tryz.ntmps25];decide) (fun x _=>by
 refine aa (ctx:=[⟨_,uD⟩,⟨_,yb⟩]) 4000 ?_
 rw [Tryz.ntmps25,Tryz.results25]
 simp only [Tryz.f25,Option.getD_some,ag]
 unfold ay
 cases h1:cr x
 ·simp only [go_sem,ac,nu,nX,h1,Bool.false_and]
 ·have h:opQ x.op:=by
   rcases Classical.em (opQ x.op) with h | h
   ·exact h
   ·unfold cr at h1
    rw [ud h] at h1
    simp at h1
  cases h2:de x
  ·simp only [go_sem,ac,nu,nX,tC,sV,h,h1,h2,Bool.true_and]
  ·simp only [go_sem,ac,nu,nX,tC,sV,h,h1,h2,Bool.true_and])
theorem j0 {id:Nat} {h:am} {args:List AV}:(qB).run id h args=aY (au (ai ac) ((fun _=>True))) ((fun x=>.ret (iv (ay x)))) h args:=rfl
theorem jO {id:Nat} {h:am} {args:List AV}:(qB).pan id h args=aZ (au (ai ac) ((fun _=>True))) ((fun x=>.ret (iv (ay x)))) h args:=rfl
end
section
open Go.RowKit
theorem o5 {x:Ins} {l:List OpV} (h:x.a=0∧x.c=0):cK x l=l:=by unfold cK;rw [if_pos h]
theorem zP (l:List OpV) (i:Nat) (o:OpV):(l.map opL).set i (opL o)=(l.set i o).map opL:=by rw [List.map_set]
theorem Ih (x:Ins) (nm:ByteArray) (l:List OpV) (hl:l.length≤1000∧l≠[]) (hc:0≤x.c∧x.c≤7):SW Tryz.prog ⟨none,1⟩ Tryz.f113.ntmps (Tryz.f113.body.getD .skip) ⟨2,ag 0 [.s (.l (.p 0 0 0))],cX 0 [wrK x nm l.length 1,aD l]⟩ (jq Tryz.prog Tryz.f113.results.toList 1 (bI (.tup [],x,nm,cK x l))):=by
 refine aa (ctx:=[]) 4000 ?_
 rw [Tryz.ntmps113,Tryz.results113]
 simp only [Tryz.f113,Option.getD_some,ag]
 cases h1:x.a==0
 case true =>
  cases h2:x.c==0
  case true =>
   have e:=o5 (l:=l) (x:=x) ⟨by simpa using h1,by simpa using h2⟩
   rw [e]
   simp only [go_sem,wrK,az,aD,h1,h2]
   refine gN (x:=x) (nm:=nm) (l:=l) (tb:=1) rfl ?_ ?_ (by decide)
   ·simp [hget,wrK,az]
   ·simp [hget,aD]
  case false =>
   have hne:¬(x.a=0∧x.c=0):=by
    rintro ⟨g1,g2⟩
    simp [g1,g2] at h1 h2
   have hpos:0<l.length:=List.length_pos_iff.2 hl.2
   obtain ⟨o,ho⟩:∃ o,l[l.length-1]? = some o:=⟨_,List.getElem?_eq_getElem (by omega)⟩
   have hd:l.getD (l.length-1) (op0 0)=o:=by rw [List.getD_eq_getElem?_getD,ho];rfl
   have e:cK x l=l.set (l.length-1) (cw o (1+x.c) x.a):=by unfold cK;rw [if_neg hne,hd]
   have e1:IntKind.i64.wrap ((l.length:Int)-1)=((l.length-1:Nat):Int):=by rw [IntKind.wrap_i64];omega
   have e2:IntKind.i64.wrap (1+x.c)=1+x.c:=by rw [IntKind.wrap_i64];omega
   have t:∀ n:Nat,Int.toNat (n:Int)=n:=fun _=>rfl
   have i0:(0:Int)≤((l.length-1:Nat):Int):=Int.natCast_nonneg _
   have ilt:((l.length-1:Nat):Int)<(l.length:Int):=by omega
   have iltN:l.length-1<l.length:=by omega
   have hrow:(l.map opL)[l.length-1]? = some (opL o):=by rw [List.getElem?_map,ho];rfl
   rw [e]
   simp only [go_sem,wrK,az,aD,h1,h2,e1]
   refine aP (ctx:=[⟨_,mg⟩]) ak [27] (by kernel_rfl) ?_
   simp only [go_sem,e2,t,i0,ilt,iltN,hrow,opL,cG,ofD,opE,iK,iJ,opV,opR,cw,List.length_map,ho]
   refine gN (x:=x) (nm:=nm) (l:=l.set (l.length-1) (cw o (1+x.c) x.a)) (tb:=1) rfl ?_ ?_ (by decide)
   ·rw [List.length_set]
    rfl
   ·exact congrArg (fun r=>some (⟨true,40,15,r⟩:Blk)) (zP l (l.length-1) (cw o (1+x.c) x.a))
 case false =>
   have hne:¬(x.a=0∧x.c=0):=by
    rintro ⟨g1,g2⟩
    simp [g1,g2] at h1
   have hpos:0<l.length:=List.length_pos_iff.2 hl.2
   obtain ⟨o,ho⟩:∃ o,l[l.length-1]? = some o:=⟨_,List.getElem?_eq_getElem (by omega)⟩
   have hd:l.getD (l.length-1) (op0 0)=o:=by rw [List.getD_eq_getElem?_getD,ho];rfl
   have e:cK x l=l.set (l.length-1) (cw o (1+x.c) x.a):=by unfold cK;rw [if_neg hne,hd]
   have e1:IntKind.i64.wrap ((l.length:Int)-1)=((l.length-1:Nat):Int):=by rw [IntKind.wrap_i64];omega
   have e2:IntKind.i64.wrap (1+x.c)=1+x.c:=by rw [IntKind.wrap_i64];omega
   have t:∀ n:Nat,Int.toNat (n:Int)=n:=fun _=>rfl
   have i0:(0:Int)≤((l.length-1:Nat):Int):=Int.natCast_nonneg _
   have ilt:((l.length-1:Nat):Int)<(l.length:Int):=by omega
   have iltN:l.length-1<l.length:=by omega
   have hrow:(l.map opL)[l.length-1]? = some (opL o):=by rw [List.getElem?_map,ho];rfl
   rw [e]
   simp only [go_sem,wrK,az,aD,h1,e1]
   refine aP (ctx:=[⟨_,mg⟩]) ak [27] (by kernel_rfl) ?_
   simp only [go_sem,e2,t,i0,ilt,iltN,hrow,opL,cG,ofD,opE,iK,iJ,opV,opR,cw,List.length_map,ho]
   refine gN (x:=x) (nm:=nm) (l:=l.set (l.length-1) (cw o (1+x.c) x.a)) (tb:=1) rfl ?_ ?_ (by decide)
   ·rw [List.length_set]
    rfl
   ·exact congrArg (fun r=>some (⟨true,40,15,r⟩:Blk)) (zP l (l.length-1) (cw o (1+x.c) x.a))
def Pa:aJ Tryz.prog 113 :=
 mkW _ _ _ Tryz.func113 rfl (fun _ _=>by go_simp) xw0 (fun _ x l=>(l.length≤1000∧l≠[])∧(0≤x.c∧x.c≤7)) (fun _ x nm l=>(.tup [],x,nm,cK x l)) (by rw [Tryz.ntmps113];decide) (fun _ x nm l h=>Ih x nm l h.1 h.2)
def mK:Stp:=⟨113,cK,fun x l=>(l.length≤1000∧l≠[])∧(0≤x.c∧x.c≤7),Pa,fun _ _ _=>rfl,fun _ _ _=>rfl⟩
theorem and3 {c:Int} (h:0≤c∧c≤7):bits .and .i64 c 3=c % 4:=by
 have:c=0∨c=1∨c=2∨c=3∨c=4∨c=5∨c=6∨c=7:=by omega
 rcases this with rfl | rfl | rfl | rfl | rfl | rfl | rfl | rfl<;>decide
theorem IY (x:Ins) (nm:ByteArray) (l:List OpV) (h:l.length≤1000) (hc:0≤x.c∧x.c≤7):SW Tryz.prog ⟨none,1⟩ Tryz.f114.ntmps (Tryz.f114.body.getD .skip) ⟨2,ag 0 [.s (.l (.p 0 0 0))],cX 0 [wrK x nm l.length 1,aD l]⟩ (jq Tryz.prog Tryz.f114.results.toList 1 (bI (.tup [],x,nm,l++[dK x]))):=by
 refine aa (ctx:=[⟨_,g9⟩,⟨_,mg⟩,⟨_,fE⟩]) 4000 ?_
 rw [Tryz.ntmps114,Tryz.results114]
 simp only [Tryz.f114,Option.getD_some,ag]
 have e1:=and3 hc
 have e2:(x.c % 4==3)=decide (x.c % 4=3):=by by_cases h:x.c % 4=3<;>simp [h]
 have e3:IntKind.i64.wrap (5+x.c)=5+x.c:=by rw [IntKind.wrap_i64];omega
 simp only [go_sem,wrK,az,aD]
 refine aP (ctx:=[⟨_,g9⟩,⟨_,mg⟩,⟨_,fE⟩]) ak [26] (by kernel_rfl) ?_
 simp only [go_sem,e1,e2,e3,cu,cv,iK,iJ,ce,ca,opV,ah,cw,op0,r0,opR,opE,emp,db,bp,aT,aq,xwT,bI,wrK,az,aD,dn,h]
 refine gN (x:=x) (nm:=nm) (l:=l++[dK x]) (tb:=418) rfl ?_ ?_ (by decide)
 ·simp [hget,wrK,az,dK]
 ·simp [hget,aD,dK,ah,cw,op0,r0,emp]
def QG:aJ Tryz.prog 114 :=
 mkW _ _ _ Tryz.func114 rfl (fun _ _=>by go_simp) xw0 (fun _ x l=>l.length≤1000∧(0≤x.c∧x.c≤7)) (fun _ x nm l=>(.tup [],x,nm,l++[dK x])) (by rw [Tryz.ntmps114];decide) (fun _ x nm l h=>IY x nm l h.1 h.2)
def lO:Stp:=⟨114,fun x l=>l++[dK x],fun x l=>l.length≤1000∧(0≤x.c∧x.c≤7),QG,fun _ _ _=>rfl,fun _ _ _=>rfl⟩
def kJ (x:Ins) (i:Nat):OpV:=[aw (bits .and .i64 (x.a.fdiv 2048) 7),aw (bits .and .i64 (x.a.fdiv 128) 15),aw (bits .and .i64 (x.a.fdiv 8) 15),aw (bits .and .i64 (x.a.fdiv 1) 7)].getD i (aw 0)
theorem sj (L:List Nat) (j:Nat) (hj:j<1):(0::L)[j]? = some j:=by
 obtain rfl:j=0:=Nat.lt_one_iff.1 hj
 rfl
def pu (x:Ins):List OpV:=[kJ x 0,kJ x 1,kJ x 2,kJ x 3]
def pa:AV:=.s (.agg [.v (.int .i64 11),.v (.int .i64 7),.v (.int .i64 7),.v (.int .i64 15),.v (.int .i64 3),.v (.int .i64 15),.v (.int .i64 0),.v (.int .i64 7)])
def syI (x:Ins) (nm:ByteArray) (l:List OpV) (i:Nat):St:=⟨2,[(0,.s (.l (.p 0 0 0))),(8,pa),(9,iv i)],[(0,some (wrK x nm (l++(pu x).take i).length 1)),(1,some (aD (l++(pu x).take i)))]⟩
theorem IV (x:Ins) (nm:ByteArray) (l:List OpV) (h:l.length≤900):SW Tryz.prog ⟨none,1⟩ Tryz.f118.ntmps (Tryz.f118.body.getD .skip) ⟨2,ag 0 [.s (.l (.p 0 0 0))],cX 0 [wrK x nm l.length 1,aD l]⟩ (jq Tryz.prog Tryz.f118.results.toList 1 (bI (.tup [],x,nm,l++pu x))):=by
 refine aa (ctx:=[]) 4000 ?_
 rw [Tryz.ntmps118,Tryz.results118]
 simp only [Tryz.f118,Option.getD_some,ag]
 simp only [go_sem,wrK,az,aD]
 refine cM (ι:=Nat) (fun i=>i≤4) (syI x nm l) (fun i=>4-i) 0 (Nat.zero_le _) (Wk.renL [0,1] (sj [1]) (Nat.le_refl 2) (by decide) rfl (by simp [syI,hget,Blk.ren,wrK,az,aD,opL,opE,cG,ofD,LV.ren,Function.comp_def])) ?_
 intro i hi
 obtain ⟨L,hL⟩:∃ L,l++(pu x).take i=L:=⟨_,rfl⟩
 have hlen:L.length≤1000:=by
  rw [← hL,List.length_append,List.length_take]
  omega
 have hp0:(2:Int) ^ min 11 64=2048:=by decide
 have hp1:(2:Int) ^ min 7 64=128:=by decide
 have hp2:(2:Int) ^ min 3 64=8:=by decide
 have hp3:(2:Int) ^ min 0 64=1:=by decide
 refine aa (ctx:=[]) 4000 ?_
 have:i=0∨i=1∨i=2∨i=3∨i=4:=by omega
 rcases this with rfl | rfl | rfl | rfl | rfl
 ·have h0:L=l:=by rw [← hL];simp
  subst h0
  have hn:L++(pu x).take 1=L++[kJ x 0]:=rfl
  have hv:kJ x 0=aw (bits .and .i64 (x.a.fdiv 2048) 7):=rfl
  simp only [go_sem,syI,pa,hL,wrK,az,aD]
  refine aP (ctx:=[⟨_,ly⟩,⟨_,fE⟩]) ak [13] (by kernel_rfl) ?_
  simp only [go_sem,hp0,d9,ef,ce,ca,opV,aw,op0,r0,opR,opE,emp,db,bp,aT,aq,xwT,bI,wrK,az,aD,dn,hlen]
  refine ⟨1,by omega,by omega,Wk.renL [0,274] (sj [274]) (Nat.le_refl 2) (by decide) rfl ?_⟩
  simp only [syI]
  rw [hn,hv]
  simp [hget,Blk.ren,wrK,az,aD,opL,opE,cG,ofD,LV.ren,Function.comp_def,aw,op0,r0,emp]
 ·have hn:l++(pu x).take 2=L++[kJ x 1]:=by rw [← hL,List.append_assoc];rfl
  have hv:kJ x 1=aw (bits .and .i64 (x.a.fdiv 128) 15):=rfl
  simp only [go_sem,syI,pa,hL,wrK,az,aD]
  refine aP (ctx:=[⟨_,ly⟩,⟨_,fE⟩]) ak [13] (by kernel_rfl) ?_
  simp only [go_sem,hp1,d9,ef,ce,ca,opV,aw,op0,r0,opR,opE,emp,db,bp,aT,aq,xwT,bI,wrK,az,aD,dn,hlen]
  refine ⟨2,by omega,by omega,Wk.renL [0,274] (sj [274]) (Nat.le_refl 2) (by decide) rfl ?_⟩
  simp only [syI]
  rw [hn,hv]
  simp [hget,Blk.ren,wrK,az,aD,opL,opE,cG,ofD,LV.ren,Function.comp_def,aw,op0,r0,emp]
 ·have hn:l++(pu x).take 3=L++[kJ x 2]:=by rw [← hL,List.append_assoc];rfl
  have hv:kJ x 2=aw (bits .and .i64 (x.a.fdiv 8) 15):=rfl
  simp only [go_sem,syI,pa,hL,wrK,az,aD]
  refine aP (ctx:=[⟨_,ly⟩,⟨_,fE⟩]) ak [13] (by kernel_rfl) ?_
  simp only [go_sem,hp2,d9,ef,ce,ca,opV,aw,op0,r0,opR,opE,emp,db,bp,aT,aq,xwT,bI,wrK,az,aD,dn,hlen]
  refine ⟨3,by omega,by omega,Wk.renL [0,274] (sj [274]) (Nat.le_refl 2) (by decide) rfl ?_⟩
  simp only [syI]
  rw [hn,hv]
  simp [hget,Blk.ren,wrK,az,aD,opL,opE,cG,ofD,LV.ren,Function.comp_def,aw,op0,r0,emp]
 ·have hn:l++(pu x).take 4=L++[kJ x 3]:=by rw [← hL,List.append_assoc];rfl
  have hv:kJ x 3=aw (bits .and .i64 (x.a.fdiv 1) 7):=rfl
  simp only [go_sem,syI,pa,hL,wrK,az,aD]
  refine aP (ctx:=[⟨_,ly⟩,⟨_,fE⟩]) ak [13] (by kernel_rfl) ?_
  simp only [go_sem,hp3,d9,ef,ce,ca,opV,aw,op0,r0,opR,opE,emp,db,bp,aT,aq,xwT,bI,wrK,az,aD,dn,hlen]
  refine ⟨4,by omega,by omega,Wk.renL [0,274] (sj [274]) (Nat.le_refl 2) (by decide) rfl ?_⟩
  simp only [syI]
  rw [hn,hv]
  simp [hget,Blk.ren,wrK,az,aD,opL,opE,cG,ofD,LV.ren,Function.comp_def,aw,op0,r0,emp]
 ·have hF:l++pu x=L:=by rw [← hL];rfl
  rw [hF]
  simp only [go_sem,syI,pa,hL,wrK,az,aD]
  refine gN (x:=x) (nm:=nm) (l:=L) (tb:=1) rfl ?_ ?_ (by decide)
  ·simp [hget,wrK,az]
  ·simp [hget,aD]
def Rg:aJ Tryz.prog 118 :=
 mkW _ _ _ Tryz.func118 rfl (fun _ _=>by go_simp) xw0 (fun _ x l=>l.length≤900∧True) (fun _ x nm l=>(.tup [],x,nm,l++pu x)) (by rw [Tryz.ntmps118];decide) (fun _ x nm l h=>IV x nm l h.1)
def oC:Stp:=⟨118,fun x l=>l++pu x,fun _ l=>l.length≤900∧True,Rg,fun _ _ _=>rfl,fun _ _ _=>rfl⟩
end
section
open Go.RowKit
def wr3 (x:Ins):St:=⟨4,[(1,.s (.l (.p 0 0 0))),(2,.s (.l (.p 1 0 0))),(3,.s (.l (.p 2 0 0)))],[(0,some ⟨true,27,10,[az x]⟩),(1,some bQ),(2,some (wrK x emp 0 3)),(3,some (aD []))]⟩
theorem Qy {b:Int} (h:0≤b∧b≤23):bits .and .i64 b 3=b % 4:=by
 have:b=0∨b=1∨b=2∨b=3∨b=4∨b=5∨b=6∨b=7∨b=8∨b=9∨b=10∨b=11∨b=12∨b=13∨b=14∨b=15∨b=16∨b=17∨b=18∨b=19∨b=20∨b=21∨b=22∨b=23:=by omega
 rcases this with rfl | rfl | rfl | rfl | rfl | rfl | rfl | rfl | rfl | rfl | rfl | rfl | rfl | rfl | rfl | rfl | rfl | rfl | rfl | rfl | rfl | rfl | rfl | rfl<;>decide
theorem PK (x:Ins) (h:2≤x.b∧x.b≤3):SW Tryz.prog ⟨none,0⟩ Tryz.f129.ntmps (Tryz.f129.body.getD .skip) ⟨0,ag 0 [(ai ac).enc x],[]⟩ (ax Tryz.prog Tryz.f129.results.toList (.ret (aj (jv x)))):=by
 rw [Tryz.ntmps129,Tryz.results129]
 simp only [Tryz.f129,Option.getD_some,ag]
 refine aE (aa (ctx:=[]) 4000 ?_)
 simp only [go_sem,aS,ac]
 refine aE (aa (ctx:=[]) 4000 ?_)
 simp only [go_sem,aS]
 refine SW.wk (s':=wr3 x) ?_ ((Wk.nilC 64 11 40 15 (k:=⟨true,68,12,[az x++[.v (.string emp),.v (.slice none 0 0)]]⟩) rfl rfl rfl).trans (Wk.renL [0,16,64,96] (by simp) (by simp [wr3]) (by decide) rfl rfl))
 refine aa (ctx:=[⟨_,bJ⟩,⟨_,cI cC⟩]) 4000 ?_
 obtain ⟨P,hP⟩:∃ P,ae (x.b-2) [(⟨#[117,100,105,118]⟩:ByteArray),(⟨#[115,100,105,118]⟩:ByteArray)]=P:=⟨_,rfl⟩
 have e:jv x=(P,[dO x,nO x,mO x]):=by unfold jv;rw [if_pos h.2,hP]
 have e1:IntKind.i64.wrap (x.b-2)=x.b-2:=by rw [IntKind.wrap_i64];omega
 have h3:x.b≤3:=h.2
 simp only [go_sem,h3,e1,hP,e,wr3,az,wrK,aD,bQ,aV,bV,aL,aK,bU,bW,bu,aC,aH,bm,bj,bk,co,bX,bp,aT,aq,aX,ci,gOf,aF,aI,aj,cn,bF,bh,lU,gS,oM,iO,wc,kF]
theorem Ns (x:Ins) (h:4≤x.b∧x.b≤11):SW Tryz.prog ⟨none,0⟩ Tryz.f129.ntmps (Tryz.f129.body.getD .skip) ⟨0,ag 0 [(ai ac).enc x],[]⟩ (ax Tryz.prog Tryz.f129.results.toList (.ret (aj (jv x)))):=by
 rw [Tryz.ntmps129,Tryz.results129]
 simp only [Tryz.f129,Option.getD_some,ag]
 refine aE (aa (ctx:=[]) 4000 ?_)
 simp only [go_sem,aS,ac]
 refine aE (aa (ctx:=[]) 4000 ?_)
 simp only [go_sem,aS]
 refine SW.wk (s':=wr3 x) ?_ ((Wk.nilC 64 11 40 15 (k:=⟨true,68,12,[az x++[.v (.string emp),.v (.slice none 0 0)]]⟩) rfl rfl rfl).trans (Wk.renL [0,16,64,96] (by simp) (by simp [wr3]) (by decide) rfl rfl))
 refine aa (ctx:=[⟨_,bJ⟩,⟨_,cI cC⟩]) 4000 ?_
 obtain ⟨P,hP⟩:∃ P,ae (x.b-8) [(⟨#[108,115,108,118]⟩:ByteArray),(⟨#[108,115,114,118]⟩:ByteArray),(⟨#[97,115,114,118]⟩:ByteArray),(⟨#[114,111,114,118]⟩:ByteArray)]=P:=⟨_,rfl⟩
 have h3:¬x.b≤3:=by omega
 have h4:x.b≤11:=h.2
 have e:jv x=(P,[dO x,nO x,mO x]):=by unfold jv;rw [if_neg h3,if_pos h4,hP]
 have e1:IntKind.i64.wrap (x.b-8)=x.b-8:=by rw [IntKind.wrap_i64];omega
 simp only [go_sem,h3,h4,e1,hP,e,wr3,az,wrK,aD,bQ,aV,bV,aL,aK,bU,bW,bu,aC,aH,bm,bj,bk,co,bX,bp,aT,aq,aX,ci,gOf,aF,aI,aj,cn,bF,bh,lU,gS,oM,iO,wc,kF]
theorem Nv (x:Ins) (h:12≤x.b∧x.b≤23):SW Tryz.prog ⟨none,0⟩ Tryz.f129.ntmps (Tryz.f129.body.getD .skip) ⟨0,ag 0 [(ai ac).enc x],[]⟩ (ax Tryz.prog Tryz.f129.results.toList (.ret (aj (jv x)))):=by
 rw [Tryz.ntmps129,Tryz.results129]
 simp only [Tryz.f129,Option.getD_some,ag]
 refine aE (aa (ctx:=[]) 4000 ?_)
 simp only [go_sem,aS,ac]
 refine aE (aa (ctx:=[]) 4000 ?_)
 simp only [go_sem,aS]
 refine SW.wk (s':=wr3 x) ?_ ((Wk.nilC 64 11 40 15 (k:=⟨true,68,12,[az x++[.v (.string emp),.v (.slice none 0 0)]]⟩) rfl rfl rfl).trans (Wk.renL [0,16,64,96] (by simp) (by simp [wr3]) (by decide) rfl rfl))
 refine aa (ctx:=[]) 4000 ?_
 obtain ⟨P,hP⟩:∃ P,ae ((x.b-16).fdiv 4) [emp,(⟨#[99]⟩:ByteArray)]=P:=⟨_,rfl⟩
 obtain ⟨R,hR⟩:∃ R,ae (x.b % 4) [(⟨#[98]⟩:ByteArray),(⟨#[104]⟩:ByteArray),(⟨#[119]⟩:ByteArray),(⟨#[120]⟩:ByteArray)]=R:=⟨_,rfl⟩
 have lP:P.size≤1:=by rw [← hP];exact av (by decide)
 have lR:R.size≤1:=by rw [← hR];exact av (by decide)
 have h3:¬x.b≤3:=by omega
 have h4:¬x.b≤11:=by omega
 have e:jv x=((⟨#[99,114,99,51,50]⟩:ByteArray)++P++R,[ah x.rd false,ah x.rn false,ah x.rm (decide (x.b % 4=3))]):=by unfold jv;rw [if_neg h3,if_neg h4,hP,hR]
 have e1:IntKind.i64.wrap (x.b-16)=x.b-16:=by rw [IntKind.wrap_i64];omega
 have e2:=Qy (b:=x.b) (by omega)
 have e3:(x.b % 4==3)=decide (x.b % 4=3):=by by_cases h:x.b % 4=3<;>simp [h]
 have m1:5+P.size≤maxLen:=by unfold maxLen;omega
 have m2:5+P.size+R.size≤maxLen:=by unfold maxLen;omega
 have s5:(⟨#[99,114,99,51,50]⟩:ByteArray).size=5:=rfl
 have pw:(2:Int) ^ min 2 64=4:=by decide
 rw [e]
 simp only [go_sem,wr3,az,wrK,aD,bQ,h3,h4]
 refine ab (ctx:=[⟨_,bJ⟩]) ak ⟨[],[(5,[196]),(11,[292])],[(6,[292]),(7,[196]),(8,[196]),(9,[196]),(10,[196])]⟩ (by kernel_rfl) ?_
 have hP':ae ((x.b-16).fdiv 4) [⟨#[]⟩,(⟨#[99]⟩:ByteArray)]=P:=hP
 simp only [go_sem,e1,e2,pw,aL,aK,bU,bW,bu,aC,aH,bm,gOf,hP',hR,s5,m1,m2]
 refine aP (ctx:=[⟨_,g9⟩]) ak [16] (by kernel_rfl) ?_
 simp only [go_sem,e2,e3,cu,cv,opV,ah,op0,r0,opR,opE,emp,aj]
theorem Kd (x:Ins) (h:2≤x.b∧x.b≤23):SW Tryz.prog ⟨none,0⟩ Tryz.f129.ntmps (Tryz.f129.body.getD .skip) ⟨0,ag 0 [(ai ac).enc x],[]⟩ (ax Tryz.prog Tryz.f129.results.toList (.ret (aj (jv x)))):=by
 by_cases h1:x.b≤3
 ·exact PK x ⟨h.1,h1⟩
 by_cases h2:x.b≤11
 ·exact Ns x ⟨by omega,h2⟩
 ·exact Nv x ⟨by omega,h.2⟩
def Fe:aJ Tryz.prog 129 :=
 mk1 _ _ _ Tryz.func129 rfl (fun _ _=>by go_simp) (ai ac) ((fun x=>2≤x.b∧x.b≤23)) ((fun x=>.ret (aj (jv x)))) (by rw [Tryz.ntmps129];decide) (fun x h=>Kd x h)
theorem F0 {id:Nat} {h:am} {args:List AV}:(Fe).run id h args=aY (au (ai ac) ((fun x=>2≤x.b∧x.b≤23))) ((fun x=>.ret (aj (jv x)))) h args:=rfl
theorem FO {id:Nat} {h:am} {args:List AV}:(Fe).pan id h args=aZ (au (ai ac) ((fun x=>2≤x.b∧x.b≤23))) ((fun x=>.ret (aj (jv x)))) h args:=rfl
theorem OT (x:Ins) (h:x.op=29):SW Tryz.prog ⟨none,0⟩ Tryz.f64.ntmps (Tryz.f64.body.getD .skip) ⟨0,ag 0 [(ai ac).enc x],[]⟩ (ax Tryz.prog Tryz.f64.results.toList (.ret (aj (bM x)))):=by
 rw [Tryz.ntmps64,Tryz.results64]
 simp only [Tryz.f64,Option.getD_some,ag]
 refine aE (aa (ctx:=[]) 4000 ?_)
 simp only [go_sem,aS,ac]
 refine aE (aa (ctx:=[]) 4000 ?_)
 simp only [go_sem,aS]
 refine SW.wk (s':=wr3 x) ?_ ((Wk.nilC 64 11 40 15 (k:=⟨true,68,12,[az x++[.v (.string emp),.v (.slice none 0 0)]]⟩) rfl rfl rfl).trans (Wk.renL [0,16,64,96] (by simp) (by simp [wr3]) (by decide) rfl rfl))
 refine aa (ctx:=[⟨_,bJ⟩,⟨_,cI cC⟩]) 4000 ?_
 obtain ⟨P,hP⟩:∃ P,ae x.b [(⟨#[99,115,101,108]⟩:ByteArray),(⟨#[99,115,105,110,99]⟩:ByteArray),(⟨#[99,115,105,110,118]⟩:ByteArray),(⟨#[99,115,110,101,103]⟩:ByteArray)]=P:=⟨_,rfl⟩
 have e:bM x=(P,[dO x,nO x,mO x,nk x]):=by unfold bM;rw [if_pos h,hP]
 have b1:(x.op==29)=true:=by rw [h];decide
 simp only [go_sem,b1,hP,e,wr3,az,wrK,aD,bQ,aV,bV,aL,aK,bU,bW,bu,aC,aH,bm,bj,bk,co,bX,bp,aT,aq,aX,ci,gOf,aF,aI,aj,cn,bF,bh,lU,gS,oM,iO,wc,kF,Ki,t8]
theorem Ni (x:Ins) (h:x.op=30) (h2:x.b=2) (h3:x.x=false):SW Tryz.prog ⟨none,0⟩ Tryz.f64.ntmps (Tryz.f64.body.getD .skip) ⟨0,ag 0 [(ai ac).enc x],[]⟩ (ax Tryz.prog Tryz.f64.results.toList (.ret (aj (bM x)))):=by
 rw [Tryz.ntmps64,Tryz.results64]
 simp only [Tryz.f64,Option.getD_some,ag]
 refine aE (aa (ctx:=[]) 4000 ?_)
 simp only [go_sem,aS,ac]
 refine aE (aa (ctx:=[]) 4000 ?_)
 simp only [go_sem,aS]
 refine SW.wk (s':=wr3 x) ?_ ((Wk.nilC 64 11 40 15 (k:=⟨true,68,12,[az x++[.v (.string emp),.v (.slice none 0 0)]]⟩) rfl rfl rfl).trans (Wk.renL [0,16,64,96] (by simp) (by simp [wr3]) (by decide) rfl rfl))
 refine aa (ctx:=[⟨_,bJ⟩,⟨_,cI cC⟩]) 4000 ?_
 obtain ⟨P,hP⟩:∃ P,ae x.b [(⟨#[114,98,105,116]⟩:ByteArray),(⟨#[114,101,118,49,54]⟩:ByteArray),(⟨#[114,101,118,51,50]⟩:ByteArray),(⟨#[114,101,118]⟩:ByteArray),(⟨#[99,108,122]⟩:ByteArray),(⟨#[99,108,115]⟩:ByteArray)]=P:=⟨_,rfl⟩
 have e:bM x=((⟨#[114,101,118]⟩:ByteArray),[dO x,nO x]):=by unfold bM;rw [if_neg (by omega),if_pos h,hP,if_pos ⟨h2,h3⟩]
 have b0:(x.op==29)=false:=by rw [h];decide
 have b1:(x.op==30)=true:=by rw [h];decide
 have b2:(x.b==2)=true:=by rw [h2];decide
 simp only [go_sem,b0,b1,b2,h3,hP,e,wr3,az,wrK,aD,bQ,aV,bV,aL,aK,bU,bW,bu,aC,aH,bm,bj,bk,co,bX,bp,aT,aq,aX,ci,gOf,aF,aI,aj,cn,bF,bh,lU,gS,oM,iO]
 all_goals simp only [dO,nO,h3]
theorem Nx (x:Ins) (h:x.op=30) (h2:x.b=2) (h3:x.x=true):SW Tryz.prog ⟨none,0⟩ Tryz.f64.ntmps (Tryz.f64.body.getD .skip) ⟨0,ag 0 [(ai ac).enc x],[]⟩ (ax Tryz.prog Tryz.f64.results.toList (.ret (aj (bM x)))):=by
 rw [Tryz.ntmps64,Tryz.results64]
 simp only [Tryz.f64,Option.getD_some,ag]
 refine aE (aa (ctx:=[]) 4000 ?_)
 simp only [go_sem,aS,ac]
 refine aE (aa (ctx:=[]) 4000 ?_)
 simp only [go_sem,aS]
 refine SW.wk (s':=wr3 x) ?_ ((Wk.nilC 64 11 40 15 (k:=⟨true,68,12,[az x++[.v (.string emp),.v (.slice none 0 0)]]⟩) rfl rfl rfl).trans (Wk.renL [0,16,64,96] (by simp) (by simp [wr3]) (by decide) rfl rfl))
 refine aa (ctx:=[⟨_,bJ⟩,⟨_,cI cC⟩]) 4000 ?_
 obtain ⟨P,hP⟩:∃ P,ae x.b [(⟨#[114,98,105,116]⟩:ByteArray),(⟨#[114,101,118,49,54]⟩:ByteArray),(⟨#[114,101,118,51,50]⟩:ByteArray),(⟨#[114,101,118]⟩:ByteArray),(⟨#[99,108,122]⟩:ByteArray),(⟨#[99,108,115]⟩:ByteArray)]=P:=⟨_,rfl⟩
 have e:bM x=(P,[dO x,nO x]):=by unfold bM;rw [if_neg (by omega),if_pos h,hP,if_neg (fun h=>by rw [h3] at h;cases h.2)]
 have b0:(x.op==29)=false:=by rw [h];decide
 have b1:(x.op==30)=true:=by rw [h];decide
 have b2:(x.b==2)=true:=by rw [h2];decide
 simp only [go_sem,b0,b1,b2,h3,hP,e,wr3,az,wrK,aD,bQ,aV,bV,aL,aK,bU,bW,bu,aC,aH,bm,bj,bk,co,bX,bp,aT,aq,aX,ci,gOf,aF,aI,aj,cn,bF,bh,lU,gS,oM,iO]
 all_goals simp only [dO,nO,h3]
theorem LK (x:Ins) (h:x.op=30) (h2:¬x.b=2):SW Tryz.prog ⟨none,0⟩ Tryz.f64.ntmps (Tryz.f64.body.getD .skip) ⟨0,ag 0 [(ai ac).enc x],[]⟩ (ax Tryz.prog Tryz.f64.results.toList (.ret (aj (bM x)))):=by
 rw [Tryz.ntmps64,Tryz.results64]
 simp only [Tryz.f64,Option.getD_some,ag]
 refine aE (aa (ctx:=[]) 4000 ?_)
 simp only [go_sem,aS,ac]
 refine aE (aa (ctx:=[]) 4000 ?_)
 simp only [go_sem,aS]
 refine SW.wk (s':=wr3 x) ?_ ((Wk.nilC 64 11 40 15 (k:=⟨true,68,12,[az x++[.v (.string emp),.v (.slice none 0 0)]]⟩) rfl rfl rfl).trans (Wk.renL [0,16,64,96] (by simp) (by simp [wr3]) (by decide) rfl rfl))
 refine aa (ctx:=[⟨_,bJ⟩,⟨_,cI cC⟩]) 4000 ?_
 obtain ⟨P,hP⟩:∃ P,ae x.b [(⟨#[114,98,105,116]⟩:ByteArray),(⟨#[114,101,118,49,54]⟩:ByteArray),(⟨#[114,101,118,51,50]⟩:ByteArray),(⟨#[114,101,118]⟩:ByteArray),(⟨#[99,108,122]⟩:ByteArray),(⟨#[99,108,115]⟩:ByteArray)]=P:=⟨_,rfl⟩
 have e:bM x=(P,[dO x,nO x]):=by unfold bM;rw [if_neg (by omega),if_pos h,hP,if_neg (fun h=>h2 h.1)]
 have b0:(x.op==29)=false:=by rw [h];decide
 have b1:(x.op==30)=true:=by rw [h];decide
 have b2:(x.b==2)=false:=by simpa using h2
 simp only [go_sem,b0,b1,b2,hP,e,wr3,az,wrK,aD,bQ,aV,bV,aL,aK,bU,bW,bu,aC,aH,bm,bj,bk,co,bX,bp,aT,aq,aX,ci,gOf,aF,aI,aj,cn,bF,bh,lU,gS,oM,iO]
theorem Ph (x:Ins) (h:x.op=31) (hb:2≤x.b∧x.b≤23):SW Tryz.prog ⟨none,0⟩ Tryz.f64.ntmps (Tryz.f64.body.getD .skip) ⟨0,ag 0 [(ai ac).enc x],[]⟩ (ax Tryz.prog Tryz.f64.results.toList (.ret (aj (bM x)))):=by
 refine aa (ctx:=[⟨_,Fe⟩]) 4000 ?_
 rw [Tryz.ntmps64,Tryz.results64]
 simp only [Tryz.f64,Option.getD_some,ag]
 have e:bM x=jv x:=by unfold bM;rw [if_neg (by omega),if_neg (by omega),if_pos h]
 have b0:(x.op==29)=false:=by rw [h];decide
 have b1:(x.op==30)=false:=by rw [h];decide
 have b2:(x.op==31)=true:=by rw [h];decide
 rw [e]
 simp only [go_sem,ac,b0,b1,b2,F0,FO,hb.1,hb.2,aj]
theorem Lv (x:Ins) (h:x.op=32) (hb:x.b<2):SW Tryz.prog ⟨none,0⟩ Tryz.f64.ntmps (Tryz.f64.body.getD .skip) ⟨0,ag 0 [(ai ac).enc x],[]⟩ (ax Tryz.prog Tryz.f64.results.toList (.ret (aj (bM x)))):=by
 rw [Tryz.ntmps64,Tryz.results64]
 simp only [Tryz.f64,Option.getD_some,ag]
 refine aE (aa (ctx:=[]) 4000 ?_)
 simp only [go_sem,aS,ac]
 refine aE (aa (ctx:=[]) 4000 ?_)
 simp only [go_sem,aS]
 refine SW.wk (s':=wr3 x) ?_ ((Wk.nilC 64 11 40 15 (k:=⟨true,68,12,[az x++[.v (.string emp),.v (.slice none 0 0)]]⟩) rfl rfl rfl).trans (Wk.renL [0,16,64,96] (by simp) (by simp [wr3]) (by decide) rfl rfl))
 refine aa (ctx:=[⟨_,bJ⟩,⟨_,cI cC⟩]) 4000 ?_
 obtain ⟨P,hP⟩:∃ P,ae x.b [(⟨#[109,97,100,100]⟩:ByteArray),(⟨#[109,115,117,98]⟩:ByteArray),(⟨#[115,109,97,100,100,108]⟩:ByteArray),(⟨#[115,109,115,117,98,108]⟩:ByteArray),(⟨#[115,109,117,108,104]⟩:ByteArray),(⟨#[117,109,97,100,100,108]⟩:ByteArray),(⟨#[117,109,115,117,98,108]⟩:ByteArray),(⟨#[117,109,117,108,104]⟩:ByteArray)]=P:=⟨_,rfl⟩
 have b0:(x.op==29)=false:=by rw [h];decide
 have b1:(x.op==30)=false:=by rw [h];decide
 have b2:(x.op==31)=false:=by rw [h];decide
 have hb2:¬2≤x.b:=by omega
 have e:bM x=(P,[dO x,nO x,mO x,aO x]):=by unfold bM;rw [if_neg (by omega),if_neg (by omega),if_neg (by omega),if_pos hb];unfold g7;rw [hP]
 simp only [go_sem,b0,b1,b2,hb2,hP,e,wr3,az,wrK,aD,bQ,aV,bV,aL,aK,bU,bW,bu,aC,aH,bm,bj,bk,co,bX,bp,aT,aq,aX,ci,gOf,aF,aI,aj,cn,bF,bh,lU,gS,oM,iO,wc,kF,at_A,Md]
theorem Mm (x:Ins) (h:x.op=32) (hb:x.b=4):SW Tryz.prog ⟨none,0⟩ Tryz.f64.ntmps (Tryz.f64.body.getD .skip) ⟨0,ag 0 [(ai ac).enc x],[]⟩ (ax Tryz.prog Tryz.f64.results.toList (.ret (aj (bM x)))):=by
 rw [Tryz.ntmps64,Tryz.results64]
 simp only [Tryz.f64,Option.getD_some,ag]
 refine aE (aa (ctx:=[]) 4000 ?_)
 simp only [go_sem,aS,ac]
 refine aE (aa (ctx:=[]) 4000 ?_)
 simp only [go_sem,aS]
 refine SW.wk (s':=wr3 x) ?_ ((Wk.nilC 64 11 40 15 (k:=⟨true,68,12,[az x++[.v (.string emp),.v (.slice none 0 0)]]⟩) rfl rfl rfl).trans (Wk.renL [0,16,64,96] (by simp) (by simp [wr3]) (by decide) rfl rfl))
 refine aa (ctx:=[⟨_,bJ⟩,⟨_,cI cC⟩]) 4000 ?_
 obtain ⟨P,hP⟩:∃ P,ae x.b [(⟨#[109,97,100,100]⟩:ByteArray),(⟨#[109,115,117,98]⟩:ByteArray),(⟨#[115,109,97,100,100,108]⟩:ByteArray),(⟨#[115,109,115,117,98,108]⟩:ByteArray),(⟨#[115,109,117,108,104]⟩:ByteArray),(⟨#[117,109,97,100,100,108]⟩:ByteArray),(⟨#[117,109,115,117,98,108]⟩:ByteArray),(⟨#[117,109,117,108,104]⟩:ByteArray)]=P:=⟨_,rfl⟩
 have b0:(x.op==29)=false:=by rw [h];decide
 have b1:(x.op==30)=false:=by rw [h];decide
 have b2:(x.op==31)=false:=by rw [h];decide
 have hb2:2≤x.b:=by omega
 have b4:(x.b==4)=true:=by rw [hb];decide
 have b7:(x.b==7)=false:=by rw [hb];decide
 have e:bM x=(P,[dO x,nO x,mO x]):=by unfold bM;rw [if_neg (by omega),if_neg (by omega),if_neg (by omega),if_neg (by omega),if_pos (by omega)];unfold g7;rw [hP]
 simp only [go_sem,b0,b1,b2,hb2,b4,b7,hP,e,wr3,az,wrK,aD,bQ,aV,bV,aL,aK,bU,bW,bu,aC,aH,bm,bj,bk,co,bX,bp,aT,aq,aX,ci,gOf,aF,aI,aj,cn,bF,bh,lU,gS,oM,iO,wc,kF]
theorem Nk (x:Ins) (h:x.op=32) (hb:x.b=7):SW Tryz.prog ⟨none,0⟩ Tryz.f64.ntmps (Tryz.f64.body.getD .skip) ⟨0,ag 0 [(ai ac).enc x],[]⟩ (ax Tryz.prog Tryz.f64.results.toList (.ret (aj (bM x)))):=by
 rw [Tryz.ntmps64,Tryz.results64]
 simp only [Tryz.f64,Option.getD_some,ag]
 refine aE (aa (ctx:=[]) 4000 ?_)
 simp only [go_sem,aS,ac]
 refine aE (aa (ctx:=[]) 4000 ?_)
 simp only [go_sem,aS]
 refine SW.wk (s':=wr3 x) ?_ ((Wk.nilC 64 11 40 15 (k:=⟨true,68,12,[az x++[.v (.string emp),.v (.slice none 0 0)]]⟩) rfl rfl rfl).trans (Wk.renL [0,16,64,96] (by simp) (by simp [wr3]) (by decide) rfl rfl))
 refine aa (ctx:=[⟨_,bJ⟩,⟨_,cI cC⟩]) 4000 ?_
 obtain ⟨P,hP⟩:∃ P,ae x.b [(⟨#[109,97,100,100]⟩:ByteArray),(⟨#[109,115,117,98]⟩:ByteArray),(⟨#[115,109,97,100,100,108]⟩:ByteArray),(⟨#[115,109,115,117,98,108]⟩:ByteArray),(⟨#[115,109,117,108,104]⟩:ByteArray),(⟨#[117,109,97,100,100,108]⟩:ByteArray),(⟨#[117,109,115,117,98,108]⟩:ByteArray),(⟨#[117,109,117,108,104]⟩:ByteArray)]=P:=⟨_,rfl⟩
 have b0:(x.op==29)=false:=by rw [h];decide
 have b1:(x.op==30)=false:=by rw [h];decide
 have b2:(x.op==31)=false:=by rw [h];decide
 have hb2:2≤x.b:=by omega
 have b4:(x.b==4)=false:=by rw [hb];decide
 have b7:(x.b==7)=true:=by rw [hb];decide
 have e:bM x=(P,[dO x,nO x,mO x]):=by unfold bM;rw [if_neg (by omega),if_neg (by omega),if_neg (by omega),if_neg (by omega),if_pos (by omega)];unfold g7;rw [hP]
 simp only [go_sem,b0,b1,b2,hb2,b4,b7,hP,e,wr3,az,wrK,aD,bQ,aV,bV,aL,aK,bU,bW,bu,aC,aH,bm,bj,bk,co,bX,bp,aT,aq,aX,ci,gOf,aF,aI,aj,cn,bF,bh,lU,gS,oM,iO,wc,kF]
theorem ME (x:Ins) (h:x.op=32) (hb:2≤x.b) (h4:¬x.b=4) (h7:¬x.b=7):SW Tryz.prog ⟨none,0⟩ Tryz.f64.ntmps (Tryz.f64.body.getD .skip) ⟨0,ag 0 [(ai ac).enc x],[]⟩ (ax Tryz.prog Tryz.f64.results.toList (.ret (aj (bM x)))):=by
 refine aa (ctx:=[⟨_,bJ⟩]) 4000 ?_
 rw [Tryz.ntmps64,Tryz.results64]
 simp only [Tryz.f64,Option.getD_some,ag]
 obtain ⟨P,hP⟩:∃ P,ae x.b [(⟨#[109,97,100,100]⟩:ByteArray),(⟨#[109,115,117,98]⟩:ByteArray),(⟨#[115,109,97,100,100,108]⟩:ByteArray),(⟨#[115,109,115,117,98,108]⟩:ByteArray),(⟨#[115,109,117,108,104]⟩:ByteArray),(⟨#[117,109,97,100,100,108]⟩:ByteArray),(⟨#[117,109,115,117,98,108]⟩:ByteArray),(⟨#[117,109,117,108,104]⟩:ByteArray)]=P:=⟨_,rfl⟩
 have b0:(x.op==29)=false:=by rw [h];decide
 have b1:(x.op==30)=false:=by rw [h];decide
 have b2:(x.op==31)=false:=by rw [h];decide
 have b4:(x.b==4)=false:=by simpa using h4
 have b7:(x.b==7)=false:=by simpa using h7
 have e:bM x=(P,[ah x.rd true,ah x.rn false,ah x.rm false,ah x.ra true]):=by unfold bM;rw [if_neg (by omega),if_neg (by omega),if_neg (by omega),if_neg (by omega),if_neg (by omega)];unfold g7;rw [hP]
 rw [e]
 simp only [go_sem,ac,b0,b1,b2,hb,b4,b7,aL,aK,bU,bW,bu,aC,aH,bm,gOf,hP]
 refine aP (ctx:=[⟨_,g9⟩]) ak [15] (by kernel_rfl) ?_
 simp only [go_sem,cu,cv,opV,ah,op0,r0,opR,opE,emp,aj]
def DR (x:Ins):Prop:=29≤x.op∧x.op≤32∧(x.op=31→2≤x.b∧x.b≤23)
theorem Be (x:Ins) (h:DR x):SW Tryz.prog ⟨none,0⟩ Tryz.f64.ntmps (Tryz.f64.body.getD .skip) ⟨0,ag 0 [(ai ac).enc x],[]⟩ (ax Tryz.prog Tryz.f64.results.toList (.ret (aj (bM x)))):=by
 obtain ⟨h1,h2,h3⟩:=h
 have:x.op=29∨x.op=30∨x.op=31∨x.op=32:=by omega
 rcases this with h | h | h | h
 ·exact OT x h
 ·by_cases hb:x.b=2
  ·cases hx:x.x
   ·exact Ni x h hb hx
   ·exact Nx x h hb hx
  ·exact LK x h hb
 ·exact Ph x h (h3 h)
 ·by_cases hb:x.b<2
  ·exact Lv x h hb
  by_cases h4:x.b=4
  ·exact Mm x h h4
  by_cases h7:x.b=7
  ·exact Nk x h h7
  ·exact ME x h (by omega) h4 h7
def uE:aJ Tryz.prog 64 :=
 mk1 _ _ _ Tryz.func64 rfl (fun _ _=>by go_simp) (ai ac) (DR) ((fun x=>.ret (aj (bM x)))) (by rw [Tryz.ntmps64];decide) (fun x h=>Be x h)
theorem zI {id:Nat} {h:am} {args:List AV}:(uE).run id h args=aY (au (ai ac) (DR)) ((fun x=>.ret (aj (bM x)))) h args:=rfl
theorem yH {id:Nat} {h:am} {args:List AV}:(uE).pan id h args=aZ (au (ai ac) (DR)) ((fun x=>.ret (aj (bM x)))) h args:=rfl
end
end Go.Proofs.YtpjlafmhoifkmaaGreat
