import Derived.Test.YtpjlafmhoifkmaaGreatN21
import Derived.Test.YtpjlafmhoifkmaaGreatN16
import Derived.Test.YtpjlafmhoifkmaaGreatN13
set_option linter.unusedVariables false
set_option linter.unusedSimpArgs false
set_option maxRecDepth 100000
set_option maxHeartbeats 8000000
namespace Go.Proofs.YtpjlafmhoifkmaaGreat
section
open Go.RowKit
theorem db (a b:Int):(a==b)=decide (a=b):=by by_cases h:a=b<;>simp [h]
theorem dl (a b:Int):(a !=b) = !decide (a=b):=by by_cases h:a=b<;>simp [h]
def pA:aQ Tryz.prog 100 :=
 mk1 _ _ _ Tryz.func100 rfl (fun _ _=>by go_simp) (am ae) ((fun _=>True)) ((fun x=>.ret (bv (dL x)))) (by rw [Tryz.ntmps100];decide) (fun x _=>by
 refine aa (ctx:=[]) 4000 ?_
 rw [Tryz.ntmps100,Tryz.results100]
 simp only [Tryz.f100,Option.getD_some,ag]
 simp only [go_sem,ae]
 repeat' (first | (refine And.intro ?_ ?_) | (refine fun _=>?_))
 all_goals first | (exfalso;omega) | (unfold dL;simp [*];done) | (unfold dL;simp [*];omega))
theorem mF {id:Nat} {h:ah} {args:List AV}:(pA).run id h args=bm (av (am ae) ((fun _=>True))) ((fun x=>.ret (bv (dL x)))) h args:=rfl
theorem mf {id:Nat} {h:ah} {args:List AV}:(pA).pan id h args=bt (av (am ae) ((fun _=>True))) ((fun x=>.ret (bv (dL x)))) h args:=rfl
def vJ:aQ Tryz.prog 99 :=
 mk1 _ _ _ Tryz.func99 rfl (fun _ _=>by go_simp) (am ae) ((fun _=>True)) ((fun x=>.ret (bv (gZ x)))) (by rw [Tryz.ntmps99];decide) (fun x _=>by
 refine aa (ctx:=[]) 4000 ?_
 rw [Tryz.ntmps99,Tryz.results99]
 simp only [Tryz.f99,Option.getD_some,ag]
 obtain ⟨op,xx,ss,rd,rn,rm,ra,a,b,c⟩:=x
 cases ss<;>simp only [go_sem,ae]
 all_goals
  repeat' (first | (refine And.intro ?_ ?_) | (refine fun _=>?_))
  all_goals first | (exfalso;omega) | (unfold gZ;simp [*];done) | (unfold gZ;simp [*];omega))
theorem yg {id:Nat} {h:ah} {args:List AV}:(vJ).run id h args=bm (av (am ae) ((fun _=>True))) ((fun x=>.ret (bv (gZ x)))) h args:=rfl
theorem xY {id:Nat} {h:ah} {args:List AV}:(vJ).pan id h args=bt (av (am ae) ((fun _=>True))) ((fun x=>.ret (bv (gZ x)))) h args:=rfl
def ov:aQ Tryz.prog 103 :=
 mk1 _ _ _ Tryz.func103 rfl (fun _ _=>by go_simp) (am ae) ((fun _=>True)) ((fun x=>.ret (bv (dK x)))) (by rw [Tryz.ntmps103];decide) (fun x _=>by
 refine aa (ctx:=[]) 4000 ?_
 rw [Tryz.ntmps103,Tryz.results103]
 simp only [Tryz.f103,Option.getD_some,ag]
 simp only [go_sem,ae]
 repeat' (first | (refine And.intro ?_ ?_) | (refine fun _=>?_))
 all_goals first | (exfalso;omega) | (unfold dK;simp [*];done) | (unfold dK;simp [*];omega))
theorem t5 {id:Nat} {h:ah} {args:List AV}:(ov).run id h args=bm (av (am ae) ((fun _=>True))) ((fun x=>.ret (bv (dK x)))) h args:=rfl
theorem tL {id:Nat} {h:ah} {args:List AV}:(ov).pan id h args=bt (av (am ae) ((fun _=>True))) ((fun x=>.ret (bv (dK x)))) h args:=rfl
def pC:aQ Tryz.prog 101 :=
 mk1 _ _ _ Tryz.func101 rfl (fun _ _=>by go_simp) (am ae) ((fun _=>True)) ((fun x=>.ret (bv (mA x)))) (by rw [Tryz.ntmps101];decide) (fun x _=>by
 refine aa (ctx:=[⟨_,pA⟩]) 4000 ?_
 rw [Tryz.ntmps101,Tryz.results101]
 simp only [Tryz.f101,Option.getD_some,ag]
 obtain ⟨q,hq⟩:∃ q,dL x=q:=⟨_,rfl⟩
 cases q<;>simp only [go_sem,ae,mF,mf,hq]
 all_goals
  repeat' (first | (refine And.intro ?_ ?_) | (refine fun _=>?_))
  all_goals first | (exfalso;omega) | (unfold mA;simp [*];done) | (unfold mA;simp [*];omega) | (unfold mA;simp [*,db];done))
theorem sY {id:Nat} {h:ah} {args:List AV}:(pC).run id h args=bm (av (am ae) ((fun _=>True))) ((fun x=>.ret (bv (mA x)))) h args:=rfl
theorem ti {id:Nat} {h:ah} {args:List AV}:(pC).pan id h args=bt (av (am ae) ((fun _=>True))) ((fun x=>.ret (bv (mA x)))) h args:=rfl
theorem C6 (x:Ins):SW Tryz.prog ⟨none,0⟩ Tryz.f102.ntmps (Tryz.f102.body.getD .skip) ⟨0,ag 0 [(am ae).enc x],[]⟩ (aH Tryz.prog Tryz.f102.results.toList (.ret (bv (cV x)))):=by
 refine aa (ctx:=[]) 4000 ?_
 rw [Tryz.ntmps102,Tryz.results102]
 simp only [Tryz.f102,Option.getD_some,ag]
 obtain ⟨op,xx,ss,rd,rn,rm,ra,a,b,c⟩:=x
 simp only [go_sem,ae]
 refine aI (ctx:=[]) ax [] (by kernel_rfl) ?_
 have h3:a=1∨a=2∨(¬a=1∧¬a=2):=by omega
 rcases h3 with rfl | rfl | ⟨h1,h2⟩
 ·cases ss<;>cases xx<;>simp only [go_sem]
  all_goals
   repeat' (first | (refine And.intro ?_ ?_) | (refine fun _=>?_))
   all_goals first | (exfalso;omega) | (unfold cV;simp [*];done) | (unfold cV;simp [*,db,dl];done) | (unfold cV;simp [*];omega) | (unfold cV;simp [*,db,dl];intro _;omega)
 ·cases ss<;>cases xx<;>simp only [go_sem]
  all_goals
   repeat' (first | (refine And.intro ?_ ?_) | (refine fun _=>?_))
   all_goals first | (exfalso;omega) | (unfold cV;simp [*];done) | (unfold cV;simp [*,db,dl];done) | (unfold cV;simp [*];omega) | (unfold cV;simp [*,db,dl];intro _;omega)
 ·have b1:(a==1)=false:=by simpa using h1
  have b2:(a==2)=false:=by simpa using h2
  cases ss<;>cases xx<;>simp only [go_sem,b1,b2]
  all_goals
   repeat' (first | (refine And.intro ?_ ?_) | (refine fun _=>?_))
   all_goals first | (exfalso;omega) | (unfold cV;simp [*];done) | (unfold cV;simp [*,db,dl];done) | (unfold cV;simp [*];omega) | (unfold cV;simp [*,db,dl];intro _;omega)
def vH:aQ Tryz.prog 102 :=
 mk1 _ _ _ Tryz.func102 rfl (fun _ _=>by go_simp) (am ae) ((fun _=>True)) ((fun x=>.ret (bv (cV x)))) (by rw [Tryz.ntmps102];decide) (fun x _=>C6 x)
theorem zN {id:Nat} {h:ah} {args:List AV}:(vH).run id h args=bm (av (am ae) ((fun _=>True))) ((fun x=>.ret (bv (cV x)))) h args:=rfl
theorem zi {id:Nat} {h:ah} {args:List AV}:(vH).pan id h args=bt (av (am ae) ((fun _=>True))) ((fun x=>.ret (bv (cV x)))) h args:=rfl
end
section
open Go.RowKit
theorem FX (xx ss:Bool) (rd rn rm ra a b c:Int):SW Tryz.prog ⟨none,0⟩ Tryz.f43.ntmps (Tryz.f43.body.getD .skip) ⟨0,ag 0 [(am ae).enc ⟨22,xx,ss,rd,rn,rm,ra,a,b,c⟩],[]⟩ (aH Tryz.prog Tryz.f43.results.toList (.ret (bv (ce ⟨22,xx,ss,rd,rn,rm,ra,a,b,c⟩)))):=by
 refine aa (ctx:=[⟨_,pA⟩]) 4000 ?_
 rw [Tryz.ntmps43,Tryz.results43]
 simp only [Tryz.f43,Option.getD_some,ag]
 have e:ce ⟨22,xx,ss,rd,rn,rm,ra,a,b,c⟩=(dL ⟨22,xx,ss,rd,rn,rm,ra,a,b,c⟩&&decide (¬a=4)&&decide (¬a=5)):=rfl
 rw [e]
 cases hq:dL ⟨22,xx,ss,rd,rn,rm,ra,a,b,c⟩<;>cases xx<;>simp only [go_sem,ae,mF,mf,hq]
 all_goals
  repeat' (first | (refine And.intro ?_ ?_) | (refine fun _=>?_))
  all_goals first | rfl | (exfalso;omega) | (simp [*,db,dl];done)
theorem BF (x:Ins) (h:opQ x.op):SW Tryz.prog ⟨none,0⟩ Tryz.f43.ntmps (Tryz.f43.body.getD .skip) ⟨0,ag 0 [(am ae).enc x],[]⟩ (aH Tryz.prog Tryz.f43.results.toList (.ret (bv (ce x)))):=by
 obtain ⟨op,xx,ss,rd,rn,rm,ra,a,b,c⟩:=x
 simp only at h
 by_cases h22:op=22
 ·subst h22
  exact FX xx ss rd rn rm ra a b c
 refine aa (ctx:=[⟨_,oZ⟩,⟨_,vJ⟩,⟨_,pA⟩,⟨_,pC⟩,⟨_,vH⟩,⟨_,ov⟩]) 4000 ?_
 rw [Tryz.ntmps43,Tryz.results43]
 simp only [Tryz.f43,Option.getD_some,ag]
 have hop:op=1∨op=2∨op=3∨op=4∨op=5∨op=6∨op=7∨op=8∨op=9∨op=10∨op=11∨op=12∨op=13∨op=14∨op=15∨op=16∨op=17∨op=18∨op=19∨op=20∨op=21∨op=23∨op=24∨op=25∨op=26∨op=27∨op=28∨op=29∨op=30∨op=31∨op=32:=by
  have:=op_cases h
  omega
 rcases hop with rfl | rfl | rfl | rfl | rfl | rfl | rfl | rfl | rfl | rfl | rfl | rfl | rfl | rfl | rfl | rfl | rfl | rfl | rfl | rfl | rfl | rfl | rfl | rfl | rfl | rfl | rfl | rfl | rfl | rfl | rfl
 all_goals
  cases xx<;>simp only [go_sem,ae,tv,sN,yg,xY,mF,mf,sY,ti,zN,zi,t5,tL]
  all_goals
   repeat' (first | (refine And.intro ?_ ?_) | (refine fun _=>?_))
   all_goals first | rfl | (exfalso;omega) | (unfold ce;simp [*];done) | (unfold ce;simp [*,db,dl];done) | (unfold ce;simp [*];omega)
def va:aQ Tryz.prog 43 :=
 mk1 _ _ _ Tryz.func43 rfl (fun _ _=>by go_simp) (am ae) ((fun x=>opQ x.op)) ((fun x=>.ret (bv (ce x)))) (by rw [Tryz.ntmps43];decide) (fun x h=>BF x h)
theorem pR {id:Nat} {h:ah} {args:List AV}:(va).run id h args=bm (av (am ae) ((fun x=>opQ x.op))) ((fun x=>.ret (bv (ce x)))) h args:=rfl
theorem qb {id:Nat} {h:ah} {args:List AV}:(va).pan id h args=bt (av (am ae) ((fun x=>opQ x.op))) ((fun x=>.ret (bv (ce x)))) h args:=rfl
def lu:aQ Tryz.prog 25 :=
 mk1 _ _ _ Tryz.func25 rfl (fun _ _=>by go_simp) (am ae) ((fun _=>True)) ((fun x=>.ret (iv (ao x)))) (by rw [Tryz.ntmps25];decide) (fun x _=>by
 refine aa (ctx:=[⟨_,rO⟩,⟨_,va⟩]) 4000 ?_
 rw [Tryz.ntmps25,Tryz.results25]
 simp only [Tryz.f25,Option.getD_some,ag]
 unfold ao
 cases h1:aP x
 ·simp only [go_sem,ae,kY,kX,h1,Bool.false_and]
 ·have h:opQ x.op:=by
   rcases Classical.em (opQ x.op) with h | h
   ·exact h
   ·unfold aP at h1
    rw [sj h] at h1
    simp at h1
  cases h2:ce x
  ·simp only [go_sem,ae,kY,kX,pR,qb,h,h1,h2,Bool.true_and]
  ·simp only [go_sem,ae,kY,kX,pR,qb,h,h1,h2,Bool.true_and])
theorem fa {id:Nat} {h:ah} {args:List AV}:(lu).run id h args=bm (av (am ae) ((fun _=>True))) ((fun x=>.ret (iv (ao x)))) h args:=rfl
theorem eW {id:Nat} {h:ah} {args:List AV}:(lu).pan id h args=bt (av (am ae) ((fun _=>True))) ((fun x=>.ret (iv (ao x)))) h args:=rfl
end
section
open Go.RowKit
theorem mC {x:Ins} {l:List OpV} (h:x.a=0∧x.c=0):bS x l=l:=by unfold bS;rw [if_pos h]
theorem xz (l:List OpV) (i:Nat) (o:OpV):(l.map opL).set i (opL o)=(l.set i o).map opL:=by rw [List.map_set]
theorem Gl (x:Ins) (nm:ByteArray) (l:List OpV) (hl:l.length≤1000∧l≠[]) (hc:0≤x.c∧x.c≤7):SW Tryz.prog ⟨none,1⟩ Tryz.f113.ntmps (Tryz.f113.body.getD .skip) ⟨2,ag 0 [.s (.l (.p 0 0 0))],cn 0 [wrK x nm l.length 1,ay l]⟩ (gn Tryz.prog Tryz.f113.results.toList 1 (bk (.tup [],x,nm,bS x l))):=by
 refine aa (ctx:=[]) 4000 ?_
 rw [Tryz.ntmps113,Tryz.results113]
 simp only [Tryz.f113,Option.getD_some,ag]
 cases h1:x.a==0
 case true =>
  cases h2:x.c==0
  case true =>
   have e:=mC (l:=l) (x:=x) ⟨by simpa using h1,by simpa using h2⟩
   rw [e]
   simp only [go_sem,wrK,aw,ay,h1,h2]
   refine eK (x:=x) (nm:=nm) (l:=l) (tb:=1) rfl ?_ ?_ (by decide)
   ·simp [hget,wrK,aw]
   ·simp [hget,ay]
  case false =>
   have hne:¬(x.a=0∧x.c=0):=by
    rintro ⟨g1,g2⟩
    simp [g1,g2] at h1 h2
   have hpos:0<l.length:=List.length_pos_iff.2 hl.2
   obtain ⟨o,ho⟩:∃ o,l[l.length-1]? = some o:=⟨_,List.getElem?_eq_getElem (by omega)⟩
   have hd:l.getD (l.length-1) (op0 0)=o:=by rw [List.getD_eq_getElem?_getD,ho];rfl
   have e:bS x l=l.set (l.length-1) (cW o (1+x.c) x.a):=by unfold bS;rw [if_neg hne,hd]
   have e1:IntKind.i64.wrap ((l.length:Int)-1)=((l.length-1:Nat):Int):=by rw [IntKind.wrap_i64];omega
   have e2:IntKind.i64.wrap (1+x.c)=1+x.c:=by rw [IntKind.wrap_i64];omega
   have t:∀ n:Nat,Int.toNat (n:Int)=n:=fun _=>rfl
   have i0:(0:Int)≤((l.length-1:Nat):Int):=Int.natCast_nonneg _
   have ilt:((l.length-1:Nat):Int)<(l.length:Int):=by omega
   have iltN:l.length-1<l.length:=by omega
   have hrow:(l.map opL)[l.length-1]? = some (opL o):=by rw [List.getElem?_map,ho];rfl
   rw [e]
   simp only [go_sem,wrK,aw,ay,h1,h2,e1]
   refine aI (ctx:=[⟨_,jN⟩]) ax [27] (by kernel_rfl) ?_
   simp only [go_sem,e2,t,i0,ilt,iltN,hrow,opL,bX,ofD,opE,fD,fx,opV,opR,cW,List.length_map,ho]
   refine eK (x:=x) (nm:=nm) (l:=l.set (l.length-1) (cW o (1+x.c) x.a)) (tb:=1) rfl ?_ ?_ (by decide)
   ·rw [List.length_set]
    rfl
   ·exact congrArg (fun r=>some (⟨true,40,15,r⟩:Blk)) (xz l (l.length-1) (cW o (1+x.c) x.a))
 case false =>
   have hne:¬(x.a=0∧x.c=0):=by
    rintro ⟨g1,g2⟩
    simp [g1,g2] at h1
   have hpos:0<l.length:=List.length_pos_iff.2 hl.2
   obtain ⟨o,ho⟩:∃ o,l[l.length-1]? = some o:=⟨_,List.getElem?_eq_getElem (by omega)⟩
   have hd:l.getD (l.length-1) (op0 0)=o:=by rw [List.getD_eq_getElem?_getD,ho];rfl
   have e:bS x l=l.set (l.length-1) (cW o (1+x.c) x.a):=by unfold bS;rw [if_neg hne,hd]
   have e1:IntKind.i64.wrap ((l.length:Int)-1)=((l.length-1:Nat):Int):=by rw [IntKind.wrap_i64];omega
   have e2:IntKind.i64.wrap (1+x.c)=1+x.c:=by rw [IntKind.wrap_i64];omega
   have t:∀ n:Nat,Int.toNat (n:Int)=n:=fun _=>rfl
   have i0:(0:Int)≤((l.length-1:Nat):Int):=Int.natCast_nonneg _
   have ilt:((l.length-1:Nat):Int)<(l.length:Int):=by omega
   have iltN:l.length-1<l.length:=by omega
   have hrow:(l.map opL)[l.length-1]? = some (opL o):=by rw [List.getElem?_map,ho];rfl
   rw [e]
   simp only [go_sem,wrK,aw,ay,h1,e1]
   refine aI (ctx:=[⟨_,jN⟩]) ax [27] (by kernel_rfl) ?_
   simp only [go_sem,e2,t,i0,ilt,iltN,hrow,opL,bX,ofD,opE,fD,fx,opV,opR,cW,List.length_map,ho]
   refine eK (x:=x) (nm:=nm) (l:=l.set (l.length-1) (cW o (1+x.c) x.a)) (tb:=1) rfl ?_ ?_ (by decide)
   ·rw [List.length_set]
    rfl
   ·exact congrArg (fun r=>some (⟨true,40,15,r⟩:Blk)) (xz l (l.length-1) (cW o (1+x.c) x.a))
def MD:aQ Tryz.prog 113 :=
 mkW _ _ _ Tryz.func113 rfl (fun _ _=>by go_simp) xw0 (fun _ x l=>(l.length≤1000∧l≠[])∧(0≤x.c∧x.c≤7)) (fun _ x nm l=>(.tup [],x,nm,bS x l)) (by rw [Tryz.ntmps113];decide) (fun _ x nm l h=>Gl x nm l h.1 h.2)
def jE:Stp:=⟨113,bS,fun x l=>(l.length≤1000∧l≠[])∧(0≤x.c∧x.c≤7),MD,fun _ _ _=>rfl,fun _ _ _=>rfl⟩
theorem and3 {c:Int} (h:0≤c∧c≤7):bits .and .i64 c 3=c % 4:=by
 have:c=0∨c=1∨c=2∨c=3∨c=4∨c=5∨c=6∨c=7:=by omega
 rcases this with rfl | rfl | rfl | rfl | rfl | rfl | rfl | rfl<;>decide
theorem EY (x:Ins) (nm:ByteArray) (l:List OpV) (h:l.length≤1000) (hc:0≤x.c∧x.c≤7):SW Tryz.prog ⟨none,1⟩ Tryz.f114.ntmps (Tryz.f114.body.getD .skip) ⟨2,ag 0 [.s (.l (.p 0 0 0))],cn 0 [wrK x nm l.length 1,ay l]⟩ (gn Tryz.prog Tryz.f114.results.toList 1 (bk (.tup [],x,nm,l++[im x]))):=by
 refine aa (ctx:=[⟨_,eU⟩,⟨_,jN⟩,⟨_,dV⟩]) 4000 ?_
 rw [Tryz.ntmps114,Tryz.results114]
 simp only [Tryz.f114,Option.getD_some,ag]
 have e1:=and3 hc
 have e2:(x.c % 4==3)=decide (x.c % 4=3):=by by_cases h:x.c % 4=3<;>simp [h]
 have e3:IntKind.i64.wrap (5+x.c)=5+x.c:=by rw [IntKind.wrap_i64];omega
 simp only [go_sem,wrK,aw,ay]
 refine aI (ctx:=[⟨_,eU⟩,⟨_,jN⟩,⟨_,dV⟩]) ax [26] (by kernel_rfl) ?_
 simp only [go_sem,e1,e2,e3,bM,bL,fD,fx,bE,bF,opV,ab,cW,op0,r0,opR,opE,emp,cp,aX,aL,ap,xwT,bk,wrK,aw,ay,cz,h]
 refine eK (x:=x) (nm:=nm) (l:=l++[im x]) (tb:=418) rfl ?_ ?_ (by decide)
 ·simp [hget,wrK,aw,im]
 ·simp [hget,ay,im,ab,cW,op0,r0,emp]
def LZ:aQ Tryz.prog 114 :=
 mkW _ _ _ Tryz.func114 rfl (fun _ _=>by go_simp) xw0 (fun _ x l=>l.length≤1000∧(0≤x.c∧x.c≤7)) (fun _ x nm l=>(.tup [],x,nm,l++[im x])) (by rw [Tryz.ntmps114];decide) (fun _ x nm l h=>EY x nm l h.1 h.2)
def jr:Stp:=⟨114,fun x l=>l++[im x],fun x l=>l.length≤1000∧(0≤x.c∧x.c≤7),LZ,fun _ _ _=>rfl,fun _ _ _=>rfl⟩
def iP (x:Ins) (i:Nat):OpV:=[aB (bits .and .i64 (x.a.fdiv 2048) 7),aB (bits .and .i64 (x.a.fdiv 128) 15),aB (bits .and .i64 (x.a.fdiv 8) 15),aB (bits .and .i64 (x.a.fdiv 1) 7)].getD i (aB 0)
theorem pE (L:List Nat) (j:Nat) (hj:j<1):(0::L)[j]? = some j:=by
 obtain rfl:j=0:=Nat.lt_one_iff.1 hj
 rfl
def mJ (x:Ins):List OpV:=[iP x 0,iP x 1,iP x 2,iP x 3]
def mB:AV:=.s (.agg [.v (.int .i64 11),.v (.int .i64 7),.v (.int .i64 7),.v (.int .i64 15),.v (.int .i64 3),.v (.int .i64 15),.v (.int .i64 0),.v (.int .i64 7)])
def syI (x:Ins) (nm:ByteArray) (l:List OpV) (i:Nat):St:=⟨2,[(0,.s (.l (.p 0 0 0))),(8,mB),(9,iv i)],[(0,some (wrK x nm (l++(mJ x).take i).length 1)),(1,some (ay (l++(mJ x).take i)))]⟩
theorem EM (x:Ins) (nm:ByteArray) (l:List OpV) (h:l.length≤900):SW Tryz.prog ⟨none,1⟩ Tryz.f118.ntmps (Tryz.f118.body.getD .skip) ⟨2,ag 0 [.s (.l (.p 0 0 0))],cn 0 [wrK x nm l.length 1,ay l]⟩ (gn Tryz.prog Tryz.f118.results.toList 1 (bk (.tup [],x,nm,l++mJ x))):=by
 refine aa (ctx:=[]) 4000 ?_
 rw [Tryz.ntmps118,Tryz.results118]
 simp only [Tryz.f118,Option.getD_some,ag]
 simp only [go_sem,wrK,aw,ay]
 refine cM (ι:=Nat) (fun i=>i≤4) (syI x nm l) (fun i=>4-i) 0 (Nat.zero_le _) (Wk.renL [0,1] (pE [1]) (Nat.le_refl 2) (by decide) rfl (by simp [syI,hget,Blk.ren,wrK,aw,ay,opL,opE,bX,ofD,LV.ren,Function.comp_def])) ?_
 intro i hi
 obtain ⟨L,hL⟩:∃ L,l++(mJ x).take i=L:=⟨_,rfl⟩
 have hlen:L.length≤1000:=by
  rw [← hL,List.length_append,List.length_take]
  omega
 have hp0:(2:Int) ^ min 11 64=2048:=by decide
 have hp1:(2:Int) ^ min 7 64=128:=by decide
 have hp2:(2:Int) ^ min 3 64=8:=by decide
 have hp3:(2:Int) ^ min 0 64=1:=by decide
 refine aa (ctx:=[]) 4000 ?_
 have:i=0∨i=1∨i=2∨i=3∨i=4:=by omega
 rcases this with rfl | rfl | rfl | rfl | rfl
 ·have h0:L=l:=by rw [← hL];simp
  subst h0
  have hn:L++(mJ x).take 1=L++[iP x 0]:=rfl
  have hv:iP x 0=aB (bits .and .i64 (x.a.fdiv 2048) 7):=rfl
  simp only [go_sem,syI,mB,hL,wrK,aw,ay]
  refine aI (ctx:=[⟨_,ji⟩,⟨_,dV⟩]) ax [13] (by kernel_rfl) ?_
  simp only [go_sem,hp0,dc,da,bE,bF,opV,aB,op0,r0,opR,opE,emp,cp,aX,aL,ap,xwT,bk,wrK,aw,ay,cz,hlen]
  refine ⟨1,by omega,by omega,Wk.renL [0,274] (pE [274]) (Nat.le_refl 2) (by decide) rfl ?_⟩
  simp only [syI]
  rw [hn,hv]
  simp [hget,Blk.ren,wrK,aw,ay,opL,opE,bX,ofD,LV.ren,Function.comp_def,aB,op0,r0,emp]
 ·have hn:l++(mJ x).take 2=L++[iP x 1]:=by rw [← hL,List.append_assoc];rfl
  have hv:iP x 1=aB (bits .and .i64 (x.a.fdiv 128) 15):=rfl
  simp only [go_sem,syI,mB,hL,wrK,aw,ay]
  refine aI (ctx:=[⟨_,ji⟩,⟨_,dV⟩]) ax [13] (by kernel_rfl) ?_
  simp only [go_sem,hp1,dc,da,bE,bF,opV,aB,op0,r0,opR,opE,emp,cp,aX,aL,ap,xwT,bk,wrK,aw,ay,cz,hlen]
  refine ⟨2,by omega,by omega,Wk.renL [0,274] (pE [274]) (Nat.le_refl 2) (by decide) rfl ?_⟩
  simp only [syI]
  rw [hn,hv]
  simp [hget,Blk.ren,wrK,aw,ay,opL,opE,bX,ofD,LV.ren,Function.comp_def,aB,op0,r0,emp]
 ·have hn:l++(mJ x).take 3=L++[iP x 2]:=by rw [← hL,List.append_assoc];rfl
  have hv:iP x 2=aB (bits .and .i64 (x.a.fdiv 8) 15):=rfl
  simp only [go_sem,syI,mB,hL,wrK,aw,ay]
  refine aI (ctx:=[⟨_,ji⟩,⟨_,dV⟩]) ax [13] (by kernel_rfl) ?_
  simp only [go_sem,hp2,dc,da,bE,bF,opV,aB,op0,r0,opR,opE,emp,cp,aX,aL,ap,xwT,bk,wrK,aw,ay,cz,hlen]
  refine ⟨3,by omega,by omega,Wk.renL [0,274] (pE [274]) (Nat.le_refl 2) (by decide) rfl ?_⟩
  simp only [syI]
  rw [hn,hv]
  simp [hget,Blk.ren,wrK,aw,ay,opL,opE,bX,ofD,LV.ren,Function.comp_def,aB,op0,r0,emp]
 ·have hn:l++(mJ x).take 4=L++[iP x 3]:=by rw [← hL,List.append_assoc];rfl
  have hv:iP x 3=aB (bits .and .i64 (x.a.fdiv 1) 7):=rfl
  simp only [go_sem,syI,mB,hL,wrK,aw,ay]
  refine aI (ctx:=[⟨_,ji⟩,⟨_,dV⟩]) ax [13] (by kernel_rfl) ?_
  simp only [go_sem,hp3,dc,da,bE,bF,opV,aB,op0,r0,opR,opE,emp,cp,aX,aL,ap,xwT,bk,wrK,aw,ay,cz,hlen]
  refine ⟨4,by omega,by omega,Wk.renL [0,274] (pE [274]) (Nat.le_refl 2) (by decide) rfl ?_⟩
  simp only [syI]
  rw [hn,hv]
  simp [hget,Blk.ren,wrK,aw,ay,opL,opE,bX,ofD,LV.ren,Function.comp_def,aB,op0,r0,emp]
 ·have hF:l++mJ x=L:=by rw [← hL];rfl
  rw [hF]
  simp only [go_sem,syI,mB,hL,wrK,aw,ay]
  refine eK (x:=x) (nm:=nm) (l:=L) (tb:=1) rfl ?_ ?_ (by decide)
  ·simp [hget,wrK,aw]
  ·simp [hget,ay]
def Nb:aQ Tryz.prog 118 :=
 mkW _ _ _ Tryz.func118 rfl (fun _ _=>by go_simp) xw0 (fun _ x l=>l.length≤900∧True) (fun _ x nm l=>(.tup [],x,nm,l++mJ x)) (by rw [Tryz.ntmps118];decide) (fun _ x nm l h=>EM x nm l h.1)
def ll:Stp:=⟨118,fun x l=>l++mJ x,fun _ l=>l.length≤900∧True,Nb,fun _ _ _=>rfl,fun _ _ _=>rfl⟩
end
section
open Go.RowKit
def wr3 (x:Ins):St:=⟨4,[(1,.s (.l (.p 0 0 0))),(2,.s (.l (.p 1 0 0))),(3,.s (.l (.p 2 0 0)))],[(0,some ⟨true,27,10,[aw x]⟩),(1,some bB),(2,some (wrK x emp 0 3)),(3,some (ay []))]⟩
theorem Nk {b:Int} (h:0≤b∧b≤23):bits .and .i64 b 3=b % 4:=by
 have:b=0∨b=1∨b=2∨b=3∨b=4∨b=5∨b=6∨b=7∨b=8∨b=9∨b=10∨b=11∨b=12∨b=13∨b=14∨b=15∨b=16∨b=17∨b=18∨b=19∨b=20∨b=21∨b=22∨b=23:=by omega
 rcases this with rfl | rfl | rfl | rfl | rfl | rfl | rfl | rfl | rfl | rfl | rfl | rfl | rfl | rfl | rfl | rfl | rfl | rfl | rfl | rfl | rfl | rfl | rfl | rfl<;>decide
theorem MA (x:Ins) (h:2≤x.b∧x.b≤3):SW Tryz.prog ⟨none,0⟩ Tryz.f129.ntmps (Tryz.f129.body.getD .skip) ⟨0,ag 0 [(am ae).enc x],[]⟩ (aH Tryz.prog Tryz.f129.results.toList (.ret (au (fM x)))):=by
 rw [Tryz.ntmps129,Tryz.results129]
 simp only [Tryz.f129,Option.getD_some,ag]
 refine az (aa (ctx:=[]) 4000 ?_)
 simp only [go_sem,aJ,ae]
 refine az (aa (ctx:=[]) 4000 ?_)
 simp only [go_sem,aJ]
 refine SW.wk (s':=wr3 x) ?_ ((Wk.nilC 64 11 40 15 (k:=⟨true,68,12,[aw x++[.v (.string emp),.v (.slice none 0 0)]]⟩) rfl rfl rfl).trans (Wk.renL [0,16,64,96] (by simp) (by simp [wr3]) (by decide) rfl rfl))
 refine aa (ctx:=[⟨_,bp⟩,⟨_,bZ bU⟩]) 4000 ?_
 obtain ⟨P,hP⟩:∃ P,ak (x.b-2) [(⟨#[117,100,105,118]⟩:ByteArray),(⟨#[115,100,105,118]⟩:ByteArray)]=P:=⟨_,rfl⟩
 have e:fM x=(P,[dO x,nO x,mO x]):=by unfold fM;rw [if_pos h.2,hP]
 have e1:IntKind.i64.wrap (x.b-2)=x.b-2:=by rw [IntKind.wrap_i64];omega
 have h3:x.b≤3:=h.2
 simp only [go_sem,h3,e1,hP,e,wr3,aw,wrK,ay,bB,aM,bC,aE,aD,bK,bO,bu,aC,aG,bj,aW,aV,bT,bD,aX,aL,ap,aS,bH,gOf,aF,aK,au,bI,bg,aT,ju,eM,lG,fH,th,iw]
theorem JD (x:Ins) (h:4≤x.b∧x.b≤11):SW Tryz.prog ⟨none,0⟩ Tryz.f129.ntmps (Tryz.f129.body.getD .skip) ⟨0,ag 0 [(am ae).enc x],[]⟩ (aH Tryz.prog Tryz.f129.results.toList (.ret (au (fM x)))):=by
 rw [Tryz.ntmps129,Tryz.results129]
 simp only [Tryz.f129,Option.getD_some,ag]
 refine az (aa (ctx:=[]) 4000 ?_)
 simp only [go_sem,aJ,ae]
 refine az (aa (ctx:=[]) 4000 ?_)
 simp only [go_sem,aJ]
 refine SW.wk (s':=wr3 x) ?_ ((Wk.nilC 64 11 40 15 (k:=⟨true,68,12,[aw x++[.v (.string emp),.v (.slice none 0 0)]]⟩) rfl rfl rfl).trans (Wk.renL [0,16,64,96] (by simp) (by simp [wr3]) (by decide) rfl rfl))
 refine aa (ctx:=[⟨_,bp⟩,⟨_,bZ bU⟩]) 4000 ?_
 obtain ⟨P,hP⟩:∃ P,ak (x.b-8) [(⟨#[108,115,108,118]⟩:ByteArray),(⟨#[108,115,114,118]⟩:ByteArray),(⟨#[97,115,114,118]⟩:ByteArray),(⟨#[114,111,114,118]⟩:ByteArray)]=P:=⟨_,rfl⟩
 have h3:¬x.b≤3:=by omega
 have h4:x.b≤11:=h.2
 have e:fM x=(P,[dO x,nO x,mO x]):=by unfold fM;rw [if_neg h3,if_pos h4,hP]
 have e1:IntKind.i64.wrap (x.b-8)=x.b-8:=by rw [IntKind.wrap_i64];omega
 simp only [go_sem,h3,h4,e1,hP,e,wr3,aw,wrK,ay,bB,aM,bC,aE,aD,bK,bO,bu,aC,aG,bj,aW,aV,bT,bD,aX,aL,ap,aS,bH,gOf,aF,aK,au,bI,bg,aT,ju,eM,lG,fH,th,iw]
theorem J1 (x:Ins) (h:12≤x.b∧x.b≤23):SW Tryz.prog ⟨none,0⟩ Tryz.f129.ntmps (Tryz.f129.body.getD .skip) ⟨0,ag 0 [(am ae).enc x],[]⟩ (aH Tryz.prog Tryz.f129.results.toList (.ret (au (fM x)))):=by
 rw [Tryz.ntmps129,Tryz.results129]
 simp only [Tryz.f129,Option.getD_some,ag]
 refine az (aa (ctx:=[]) 4000 ?_)
 simp only [go_sem,aJ,ae]
 refine az (aa (ctx:=[]) 4000 ?_)
 simp only [go_sem,aJ]
 refine SW.wk (s':=wr3 x) ?_ ((Wk.nilC 64 11 40 15 (k:=⟨true,68,12,[aw x++[.v (.string emp),.v (.slice none 0 0)]]⟩) rfl rfl rfl).trans (Wk.renL [0,16,64,96] (by simp) (by simp [wr3]) (by decide) rfl rfl))
 refine aa (ctx:=[]) 4000 ?_
 obtain ⟨P,hP⟩:∃ P,ak ((x.b-16).fdiv 4) [emp,(⟨#[99]⟩:ByteArray)]=P:=⟨_,rfl⟩
 obtain ⟨R,hR⟩:∃ R,ak (x.b % 4) [(⟨#[98]⟩:ByteArray),(⟨#[104]⟩:ByteArray),(⟨#[119]⟩:ByteArray),(⟨#[120]⟩:ByteArray)]=R:=⟨_,rfl⟩
 have lP:P.size≤1:=by rw [← hP];exact bz (by decide)
 have lR:R.size≤1:=by rw [← hR];exact bz (by decide)
 have h3:¬x.b≤3:=by omega
 have h4:¬x.b≤11:=by omega
 have e:fM x=((⟨#[99,114,99,51,50]⟩:ByteArray)++P++R,[ab x.rd false,ab x.rn false,ab x.rm (decide (x.b % 4=3))]):=by unfold fM;rw [if_neg h3,if_neg h4,hP,hR]
 have e1:IntKind.i64.wrap (x.b-16)=x.b-16:=by rw [IntKind.wrap_i64];omega
 have e2:=Nk (b:=x.b) (by omega)
 have e3:(x.b % 4==3)=decide (x.b % 4=3):=by by_cases h:x.b % 4=3<;>simp [h]
 have m1:5+P.size≤maxLen:=by unfold maxLen;omega
 have m2:5+P.size+R.size≤maxLen:=by unfold maxLen;omega
 have s5:(⟨#[99,114,99,51,50]⟩:ByteArray).size=5:=rfl
 have pw:(2:Int) ^ min 2 64=4:=by decide
 rw [e]
 simp only [go_sem,wr3,aw,wrK,ay,bB,h3,h4]
 refine aq (ctx:=[⟨_,bp⟩]) ax ⟨[],[(5,[196]),(11,[292])],[(6,[292]),(7,[196]),(8,[196]),(9,[196]),(10,[196])]⟩ (by kernel_rfl) ?_
 have hP':ak ((x.b-16).fdiv 4) [⟨#[]⟩,(⟨#[99]⟩:ByteArray)]=P:=hP
 simp only [go_sem,e1,e2,pw,aE,aD,bK,bO,bu,aC,aG,bj,gOf,hP',hR,s5,m1,m2]
 refine aI (ctx:=[⟨_,eU⟩]) ax [16] (by kernel_rfl) ?_
 simp only [go_sem,e2,e3,bM,bL,opV,ab,op0,r0,opR,opE,emp,au]
theorem Gh (x:Ins) (h:2≤x.b∧x.b≤23):SW Tryz.prog ⟨none,0⟩ Tryz.f129.ntmps (Tryz.f129.body.getD .skip) ⟨0,ag 0 [(am ae).enc x],[]⟩ (aH Tryz.prog Tryz.f129.results.toList (.ret (au (fM x)))):=by
 by_cases h1:x.b≤3
 ·exact MA x ⟨h.1,h1⟩
 by_cases h2:x.b≤11
 ·exact JD x ⟨by omega,h2⟩
 ·exact J1 x ⟨by omega,h.2⟩
def CE:aQ Tryz.prog 129 :=
 mk1 _ _ _ Tryz.func129 rfl (fun _ _=>by go_simp) (am ae) ((fun x=>2≤x.b∧x.b≤23)) ((fun x=>.ret (au (fM x)))) (by rw [Tryz.ntmps129];decide) (fun x h=>Gh x h)
theorem DT {id:Nat} {h:ah} {args:List AV}:(CE).run id h args=bm (av (am ae) ((fun x=>2≤x.b∧x.b≤23))) ((fun x=>.ret (au (fM x)))) h args:=rfl
theorem AW {id:Nat} {h:ah} {args:List AV}:(CE).pan id h args=bt (av (am ae) ((fun x=>2≤x.b∧x.b≤23))) ((fun x=>.ret (au (fM x)))) h args:=rfl
theorem LW (x:Ins) (h:x.op=29):SW Tryz.prog ⟨none,0⟩ Tryz.f64.ntmps (Tryz.f64.body.getD .skip) ⟨0,ag 0 [(am ae).enc x],[]⟩ (aH Tryz.prog Tryz.f64.results.toList (.ret (au (bG x)))):=by
 rw [Tryz.ntmps64,Tryz.results64]
 simp only [Tryz.f64,Option.getD_some,ag]
 refine az (aa (ctx:=[]) 4000 ?_)
 simp only [go_sem,aJ,ae]
 refine az (aa (ctx:=[]) 4000 ?_)
 simp only [go_sem,aJ]
 refine SW.wk (s':=wr3 x) ?_ ((Wk.nilC 64 11 40 15 (k:=⟨true,68,12,[aw x++[.v (.string emp),.v (.slice none 0 0)]]⟩) rfl rfl rfl).trans (Wk.renL [0,16,64,96] (by simp) (by simp [wr3]) (by decide) rfl rfl))
 refine aa (ctx:=[⟨_,bp⟩,⟨_,bZ bU⟩]) 4000 ?_
 obtain ⟨P,hP⟩:∃ P,ak x.b [(⟨#[99,115,101,108]⟩:ByteArray),(⟨#[99,115,105,110,99]⟩:ByteArray),(⟨#[99,115,105,110,118]⟩:ByteArray),(⟨#[99,115,110,101,103]⟩:ByteArray)]=P:=⟨_,rfl⟩
 have e:bG x=(P,[dO x,nO x,mO x,jS x]):=by unfold bG;rw [if_pos h,hP]
 have b1:(x.op==29)=true:=by rw [h];decide
 simp only [go_sem,b1,hP,e,wr3,aw,wrK,ay,bB,aM,bC,aE,aD,bK,bO,bu,aC,aG,bj,aW,aV,bT,bD,aX,aL,ap,aS,bH,gOf,aF,aK,au,bI,bg,aT,ju,eM,lG,fH,th,iw,E2,rZ]
theorem I4 (x:Ins) (h:x.op=30) (h2:x.b=2) (h3:x.x=false):SW Tryz.prog ⟨none,0⟩ Tryz.f64.ntmps (Tryz.f64.body.getD .skip) ⟨0,ag 0 [(am ae).enc x],[]⟩ (aH Tryz.prog Tryz.f64.results.toList (.ret (au (bG x)))):=by
 rw [Tryz.ntmps64,Tryz.results64]
 simp only [Tryz.f64,Option.getD_some,ag]
 refine az (aa (ctx:=[]) 4000 ?_)
 simp only [go_sem,aJ,ae]
 refine az (aa (ctx:=[]) 4000 ?_)
 simp only [go_sem,aJ]
 refine SW.wk (s':=wr3 x) ?_ ((Wk.nilC 64 11 40 15 (k:=⟨true,68,12,[aw x++[.v (.string emp),.v (.slice none 0 0)]]⟩) rfl rfl rfl).trans (Wk.renL [0,16,64,96] (by simp) (by simp [wr3]) (by decide) rfl rfl))
 refine aa (ctx:=[⟨_,bp⟩,⟨_,bZ bU⟩]) 4000 ?_
 obtain ⟨P,hP⟩:∃ P,ak x.b [(⟨#[114,98,105,116]⟩:ByteArray),(⟨#[114,101,118,49,54]⟩:ByteArray),(⟨#[114,101,118,51,50]⟩:ByteArray),(⟨#[114,101,118]⟩:ByteArray),(⟨#[99,108,122]⟩:ByteArray),(⟨#[99,108,115]⟩:ByteArray)]=P:=⟨_,rfl⟩
 have e:bG x=((⟨#[114,101,118]⟩:ByteArray),[dO x,nO x]):=by unfold bG;rw [if_neg (by omega),if_pos h,hP,if_pos ⟨h2,h3⟩]
 have b0:(x.op==29)=false:=by rw [h];decide
 have b1:(x.op==30)=true:=by rw [h];decide
 have b2:(x.b==2)=true:=by rw [h2];decide
 simp only [go_sem,b0,b1,b2,h3,hP,e,wr3,aw,wrK,ay,bB,aM,bC,aE,aD,bK,bO,bu,aC,aG,bj,aW,aV,bT,bD,aX,aL,ap,aS,bH,gOf,aF,aK,au,bI,bg,aT,ju,eM,lG,fH]
 all_goals simp only [dO,nO,h3]
theorem KP (x:Ins) (h:x.op=30) (h2:x.b=2) (h3:x.x=true):SW Tryz.prog ⟨none,0⟩ Tryz.f64.ntmps (Tryz.f64.body.getD .skip) ⟨0,ag 0 [(am ae).enc x],[]⟩ (aH Tryz.prog Tryz.f64.results.toList (.ret (au (bG x)))):=by
 rw [Tryz.ntmps64,Tryz.results64]
 simp only [Tryz.f64,Option.getD_some,ag]
 refine az (aa (ctx:=[]) 4000 ?_)
 simp only [go_sem,aJ,ae]
 refine az (aa (ctx:=[]) 4000 ?_)
 simp only [go_sem,aJ]
 refine SW.wk (s':=wr3 x) ?_ ((Wk.nilC 64 11 40 15 (k:=⟨true,68,12,[aw x++[.v (.string emp),.v (.slice none 0 0)]]⟩) rfl rfl rfl).trans (Wk.renL [0,16,64,96] (by simp) (by simp [wr3]) (by decide) rfl rfl))
 refine aa (ctx:=[⟨_,bp⟩,⟨_,bZ bU⟩]) 4000 ?_
 obtain ⟨P,hP⟩:∃ P,ak x.b [(⟨#[114,98,105,116]⟩:ByteArray),(⟨#[114,101,118,49,54]⟩:ByteArray),(⟨#[114,101,118,51,50]⟩:ByteArray),(⟨#[114,101,118]⟩:ByteArray),(⟨#[99,108,122]⟩:ByteArray),(⟨#[99,108,115]⟩:ByteArray)]=P:=⟨_,rfl⟩
 have e:bG x=(P,[dO x,nO x]):=by unfold bG;rw [if_neg (by omega),if_pos h,hP,if_neg (fun h=>by rw [h3] at h;cases h.2)]
 have b0:(x.op==29)=false:=by rw [h];decide
 have b1:(x.op==30)=true:=by rw [h];decide
 have b2:(x.b==2)=true:=by rw [h2];decide
 simp only [go_sem,b0,b1,b2,h3,hP,e,wr3,aw,wrK,ay,bB,aM,bC,aE,aD,bK,bO,bu,aC,aG,bj,aW,aV,bT,bD,aX,aL,ap,aS,bH,gOf,aF,aK,au,bI,bg,aT,ju,eM,lG,fH]
 all_goals simp only [dO,nO,h3]
theorem IE (x:Ins) (h:x.op=30) (h2:¬x.b=2):SW Tryz.prog ⟨none,0⟩ Tryz.f64.ntmps (Tryz.f64.body.getD .skip) ⟨0,ag 0 [(am ae).enc x],[]⟩ (aH Tryz.prog Tryz.f64.results.toList (.ret (au (bG x)))):=by
 rw [Tryz.ntmps64,Tryz.results64]
 simp only [Tryz.f64,Option.getD_some,ag]
 refine az (aa (ctx:=[]) 4000 ?_)
 simp only [go_sem,aJ,ae]
 refine az (aa (ctx:=[]) 4000 ?_)
 simp only [go_sem,aJ]
 refine SW.wk (s':=wr3 x) ?_ ((Wk.nilC 64 11 40 15 (k:=⟨true,68,12,[aw x++[.v (.string emp),.v (.slice none 0 0)]]⟩) rfl rfl rfl).trans (Wk.renL [0,16,64,96] (by simp) (by simp [wr3]) (by decide) rfl rfl))
 refine aa (ctx:=[⟨_,bp⟩,⟨_,bZ bU⟩]) 4000 ?_
 obtain ⟨P,hP⟩:∃ P,ak x.b [(⟨#[114,98,105,116]⟩:ByteArray),(⟨#[114,101,118,49,54]⟩:ByteArray),(⟨#[114,101,118,51,50]⟩:ByteArray),(⟨#[114,101,118]⟩:ByteArray),(⟨#[99,108,122]⟩:ByteArray),(⟨#[99,108,115]⟩:ByteArray)]=P:=⟨_,rfl⟩
 have e:bG x=(P,[dO x,nO x]):=by unfold bG;rw [if_neg (by omega),if_pos h,hP,if_neg (fun h=>h2 h.1)]
 have b0:(x.op==29)=false:=by rw [h];decide
 have b1:(x.op==30)=true:=by rw [h];decide
 have b2:(x.b==2)=false:=by simpa using h2
 simp only [go_sem,b0,b1,b2,hP,e,wr3,aw,wrK,ay,bB,aM,bC,aE,aD,bK,bO,bu,aC,aG,bj,aW,aV,bT,bD,aX,aL,ap,aS,bH,gOf,aF,aK,au,bI,bg,aT,ju,eM,lG,fH]
theorem NC (x:Ins) (h:x.op=31) (hb:2≤x.b∧x.b≤23):SW Tryz.prog ⟨none,0⟩ Tryz.f64.ntmps (Tryz.f64.body.getD .skip) ⟨0,ag 0 [(am ae).enc x],[]⟩ (aH Tryz.prog Tryz.f64.results.toList (.ret (au (bG x)))):=by
 refine aa (ctx:=[⟨_,CE⟩]) 4000 ?_
 rw [Tryz.ntmps64,Tryz.results64]
 simp only [Tryz.f64,Option.getD_some,ag]
 have e:bG x=fM x:=by unfold bG;rw [if_neg (by omega),if_neg (by omega),if_pos h]
 have b0:(x.op==29)=false:=by rw [h];decide
 have b1:(x.op==30)=false:=by rw [h];decide
 have b2:(x.op==31)=true:=by rw [h];decide
 rw [e]
 simp only [go_sem,ae,b0,b1,b2,DT,AW,hb.1,hb.2,au]
theorem IV (x:Ins) (h:x.op=32) (hb:x.b<2):SW Tryz.prog ⟨none,0⟩ Tryz.f64.ntmps (Tryz.f64.body.getD .skip) ⟨0,ag 0 [(am ae).enc x],[]⟩ (aH Tryz.prog Tryz.f64.results.toList (.ret (au (bG x)))):=by
 rw [Tryz.ntmps64,Tryz.results64]
 simp only [Tryz.f64,Option.getD_some,ag]
 refine az (aa (ctx:=[]) 4000 ?_)
 simp only [go_sem,aJ,ae]
 refine az (aa (ctx:=[]) 4000 ?_)
 simp only [go_sem,aJ]
 refine SW.wk (s':=wr3 x) ?_ ((Wk.nilC 64 11 40 15 (k:=⟨true,68,12,[aw x++[.v (.string emp),.v (.slice none 0 0)]]⟩) rfl rfl rfl).trans (Wk.renL [0,16,64,96] (by simp) (by simp [wr3]) (by decide) rfl rfl))
 refine aa (ctx:=[⟨_,bp⟩,⟨_,bZ bU⟩]) 4000 ?_
 obtain ⟨P,hP⟩:∃ P,ak x.b [(⟨#[109,97,100,100]⟩:ByteArray),(⟨#[109,115,117,98]⟩:ByteArray),(⟨#[115,109,97,100,100,108]⟩:ByteArray),(⟨#[115,109,115,117,98,108]⟩:ByteArray),(⟨#[115,109,117,108,104]⟩:ByteArray),(⟨#[117,109,97,100,100,108]⟩:ByteArray),(⟨#[117,109,115,117,98,108]⟩:ByteArray),(⟨#[117,109,117,108,104]⟩:ByteArray)]=P:=⟨_,rfl⟩
 have b0:(x.op==29)=false:=by rw [h];decide
 have b1:(x.op==30)=false:=by rw [h];decide
 have b2:(x.op==31)=false:=by rw [h];decide
 have hb2:¬2≤x.b:=by omega
 have e:bG x=(P,[dO x,nO x,mO x,aO x]):=by unfold bG;rw [if_neg (by omega),if_neg (by omega),if_neg (by omega),if_pos hb];unfold tJ;rw [hP]
 simp only [go_sem,b0,b1,b2,hb2,hP,e,wr3,aw,wrK,ay,bB,aM,bC,aE,aD,bK,bO,bu,aC,aG,bj,aW,aV,bT,bD,aX,aL,ap,aS,bH,gOf,aF,aK,au,bI,bg,aT,ju,eM,lG,fH,th,iw,at_A,IR]
theorem KA (x:Ins) (h:x.op=32) (hb:x.b=4):SW Tryz.prog ⟨none,0⟩ Tryz.f64.ntmps (Tryz.f64.body.getD .skip) ⟨0,ag 0 [(am ae).enc x],[]⟩ (aH Tryz.prog Tryz.f64.results.toList (.ret (au (bG x)))):=by
 rw [Tryz.ntmps64,Tryz.results64]
 simp only [Tryz.f64,Option.getD_some,ag]
 refine az (aa (ctx:=[]) 4000 ?_)
 simp only [go_sem,aJ,ae]
 refine az (aa (ctx:=[]) 4000 ?_)
 simp only [go_sem,aJ]
 refine SW.wk (s':=wr3 x) ?_ ((Wk.nilC 64 11 40 15 (k:=⟨true,68,12,[aw x++[.v (.string emp),.v (.slice none 0 0)]]⟩) rfl rfl rfl).trans (Wk.renL [0,16,64,96] (by simp) (by simp [wr3]) (by decide) rfl rfl))
 refine aa (ctx:=[⟨_,bp⟩,⟨_,bZ bU⟩]) 4000 ?_
 obtain ⟨P,hP⟩:∃ P,ak x.b [(⟨#[109,97,100,100]⟩:ByteArray),(⟨#[109,115,117,98]⟩:ByteArray),(⟨#[115,109,97,100,100,108]⟩:ByteArray),(⟨#[115,109,115,117,98,108]⟩:ByteArray),(⟨#[115,109,117,108,104]⟩:ByteArray),(⟨#[117,109,97,100,100,108]⟩:ByteArray),(⟨#[117,109,115,117,98,108]⟩:ByteArray),(⟨#[117,109,117,108,104]⟩:ByteArray)]=P:=⟨_,rfl⟩
 have b0:(x.op==29)=false:=by rw [h];decide
 have b1:(x.op==30)=false:=by rw [h];decide
 have b2:(x.op==31)=false:=by rw [h];decide
 have hb2:2≤x.b:=by omega
 have b4:(x.b==4)=true:=by rw [hb];decide
 have b7:(x.b==7)=false:=by rw [hb];decide
 have e:bG x=(P,[dO x,nO x,mO x]):=by unfold bG;rw [if_neg (by omega),if_neg (by omega),if_neg (by omega),if_neg (by omega),if_pos (by omega)];unfold tJ;rw [hP]
 simp only [go_sem,b0,b1,b2,hb2,b4,b7,hP,e,wr3,aw,wrK,ay,bB,aM,bC,aE,aD,bK,bO,bu,aC,aG,bj,aW,aV,bT,bD,aX,aL,ap,aS,bH,gOf,aF,aK,au,bI,bg,aT,ju,eM,lG,fH,th,iw]
theorem K4 (x:Ins) (h:x.op=32) (hb:x.b=7):SW Tryz.prog ⟨none,0⟩ Tryz.f64.ntmps (Tryz.f64.body.getD .skip) ⟨0,ag 0 [(am ae).enc x],[]⟩ (aH Tryz.prog Tryz.f64.results.toList (.ret (au (bG x)))):=by
 rw [Tryz.ntmps64,Tryz.results64]
 simp only [Tryz.f64,Option.getD_some,ag]
 refine az (aa (ctx:=[]) 4000 ?_)
 simp only [go_sem,aJ,ae]
 refine az (aa (ctx:=[]) 4000 ?_)
 simp only [go_sem,aJ]
 refine SW.wk (s':=wr3 x) ?_ ((Wk.nilC 64 11 40 15 (k:=⟨true,68,12,[aw x++[.v (.string emp),.v (.slice none 0 0)]]⟩) rfl rfl rfl).trans (Wk.renL [0,16,64,96] (by simp) (by simp [wr3]) (by decide) rfl rfl))
 refine aa (ctx:=[⟨_,bp⟩,⟨_,bZ bU⟩]) 4000 ?_
 obtain ⟨P,hP⟩:∃ P,ak x.b [(⟨#[109,97,100,100]⟩:ByteArray),(⟨#[109,115,117,98]⟩:ByteArray),(⟨#[115,109,97,100,100,108]⟩:ByteArray),(⟨#[115,109,115,117,98,108]⟩:ByteArray),(⟨#[115,109,117,108,104]⟩:ByteArray),(⟨#[117,109,97,100,100,108]⟩:ByteArray),(⟨#[117,109,115,117,98,108]⟩:ByteArray),(⟨#[117,109,117,108,104]⟩:ByteArray)]=P:=⟨_,rfl⟩
 have b0:(x.op==29)=false:=by rw [h];decide
 have b1:(x.op==30)=false:=by rw [h];decide
 have b2:(x.op==31)=false:=by rw [h];decide
 have hb2:2≤x.b:=by omega
 have b4:(x.b==4)=false:=by rw [hb];decide
 have b7:(x.b==7)=true:=by rw [hb];decide
 have e:bG x=(P,[dO x,nO x,mO x]):=by unfold bG;rw [if_neg (by omega),if_neg (by omega),if_neg (by omega),if_neg (by omega),if_pos (by omega)];unfold tJ;rw [hP]
 simp only [go_sem,b0,b1,b2,hb2,b4,b7,hP,e,wr3,aw,wrK,ay,bB,aM,bC,aE,aD,bK,bO,bu,aC,aG,bj,aW,aV,bT,bD,aX,aL,ap,aS,bH,gOf,aF,aK,au,bI,bg,aT,ju,eM,lG,fH,th,iw]
theorem Kv (x:Ins) (h:x.op=32) (hb:2≤x.b) (h4:¬x.b=4) (h7:¬x.b=7):SW Tryz.prog ⟨none,0⟩ Tryz.f64.ntmps (Tryz.f64.body.getD .skip) ⟨0,ag 0 [(am ae).enc x],[]⟩ (aH Tryz.prog Tryz.f64.results.toList (.ret (au (bG x)))):=by
 refine aa (ctx:=[⟨_,bp⟩]) 4000 ?_
 rw [Tryz.ntmps64,Tryz.results64]
 simp only [Tryz.f64,Option.getD_some,ag]
 obtain ⟨P,hP⟩:∃ P,ak x.b [(⟨#[109,97,100,100]⟩:ByteArray),(⟨#[109,115,117,98]⟩:ByteArray),(⟨#[115,109,97,100,100,108]⟩:ByteArray),(⟨#[115,109,115,117,98,108]⟩:ByteArray),(⟨#[115,109,117,108,104]⟩:ByteArray),(⟨#[117,109,97,100,100,108]⟩:ByteArray),(⟨#[117,109,115,117,98,108]⟩:ByteArray),(⟨#[117,109,117,108,104]⟩:ByteArray)]=P:=⟨_,rfl⟩
 have b0:(x.op==29)=false:=by rw [h];decide
 have b1:(x.op==30)=false:=by rw [h];decide
 have b2:(x.op==31)=false:=by rw [h];decide
 have b4:(x.b==4)=false:=by simpa using h4
 have b7:(x.b==7)=false:=by simpa using h7
 have e:bG x=(P,[ab x.rd true,ab x.rn false,ab x.rm false,ab x.ra true]):=by unfold bG;rw [if_neg (by omega),if_neg (by omega),if_neg (by omega),if_neg (by omega),if_neg (by omega)];unfold tJ;rw [hP]
 rw [e]
 simp only [go_sem,ae,b0,b1,b2,hb,b4,b7,aE,aD,bK,bO,bu,aC,aG,bj,gOf,hP]
 refine aI (ctx:=[⟨_,eU⟩]) ax [15] (by kernel_rfl) ?_
 simp only [go_sem,bM,bL,opV,ab,op0,r0,opR,opE,emp,au]
def Ec (x:Ins):Prop:=29≤x.op∧x.op≤32∧(x.op=31→2≤x.b∧x.b≤23)
theorem zj (x:Ins) (h:Ec x):SW Tryz.prog ⟨none,0⟩ Tryz.f64.ntmps (Tryz.f64.body.getD .skip) ⟨0,ag 0 [(am ae).enc x],[]⟩ (aH Tryz.prog Tryz.f64.results.toList (.ret (au (bG x)))):=by
 obtain ⟨h1,h2,h3⟩:=h
 have:x.op=29∨x.op=30∨x.op=31∨x.op=32:=by omega
 rcases this with h | h | h | h
 ·exact LW x h
 ·by_cases hb:x.b=2
  ·cases hx:x.x
   ·exact I4 x h hb hx
   ·exact KP x h hb hx
  ·exact IE x h hb
 ·exact NC x h (h3 h)
 ·by_cases hb:x.b<2
  ·exact IV x h hb
  by_cases h4:x.b=4
  ·exact KA x h h4
  by_cases h7:x.b=7
  ·exact K4 x h h7
  ·exact Kv x h (by omega) h4 h7
def qQ:aQ Tryz.prog 64 :=
 mk1 _ _ _ Tryz.func64 rfl (fun _ _=>by go_simp) (am ae) (Ec) ((fun x=>.ret (au (bG x)))) (by rw [Tryz.ntmps64];decide) (fun x h=>zj x h)
theorem wx {id:Nat} {h:ah} {args:List AV}:(qQ).run id h args=bm (av (am ae) (Ec)) ((fun x=>.ret (au (bG x)))) h args:=rfl
theorem uO {id:Nat} {h:ah} {args:List AV}:(qQ).pan id h args=bt (av (am ae) (Ec)) ((fun x=>.ret (au (bG x)))) h args:=rfl
end
end Go.Proofs.YtpjlafmhoifkmaaGreat
