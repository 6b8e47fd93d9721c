import Derived.Test.YtpjlafmhoifkmaaGreatN23
set_option linter.unusedVariables false
set_option linter.unusedSimpArgs false
set_option maxRecDepth 100000
set_option maxHeartbeats 8000000
namespace Go.Proofs.YtpjlafmhoifkmaaGreat
section
open Go.RowKit
def qw:aQ Tryz.prog 166 :=
 mk1 _ _ _ Tryz.func166 rfl (fun _ _=>by go_simp) (ar .i64) ((fun _=>True)) ((fun n=>.ret (iv (fF n)))) (by rw [Tryz.ntmps166];decide) (fun n _=>by
 refine aa (ctx:=[]) 4000 ?_
 rw [Tryz.ntmps166,Tryz.results166]
 simp only [Tryz.f166,Option.getD_some,ag]
 unfold fF
 by_cases h1:n=1
 ·simp only [go_sem,h1]
 have b1:(n==1)=false:=by simpa using h1
 by_cases h3:n=3
 ·simp only [go_sem,h3]
 have b3:(n==3)=false:=by simpa using h3
 simp only [go_sem,h1,h3,b1,b3])
theorem fw {id:Nat} {h:ah} {args:List AV}:(qw).run id h args=bm (av (ar .i64) ((fun _=>True))) ((fun n=>.ret (iv (fF n)))) h args:=rfl
theorem fG {id:Nat} {h:ah} {args:List AV}:(qw).pan id h args=bt (av (ar .i64) ((fun _=>True))) ((fun n=>.ret (iv (fF n)))) h args:=rfl
def EK:aQ Tryz.prog 167 :=
 mk1 _ _ _ Tryz.func167 rfl (fun _ _=>by go_simp) (ar .i64) ((fun _=>True)) ((fun n=>.ret (iv (u6 n)))) (by rw [Tryz.ntmps167];decide) (fun n _=>by
 refine aa (ctx:=[]) 4000 ?_
 rw [Tryz.ntmps167,Tryz.results167]
 simp only [Tryz.f167,Option.getD_some,ag]
 unfold u6
 by_cases h1:n=2
 ·simp only [go_sem,h1]
 have b1:(n==2)=false:=by simpa using h1
 by_cases h3:n=3
 ·simp only [go_sem,h3]
 have b3:(n==3)=false:=by simpa using h3
 by_cases h6:n=6
 ·simp only [go_sem,h6]
 have b6:(n==6)=false:=by simpa using h6
 simp only [go_sem,h1,h3,h6,b1,b3,b6])
theorem xf {id:Nat} {h:ah} {args:List AV}:(EK).run id h args=bm (av (ar .i64) ((fun _=>True))) ((fun n=>.ret (iv (u6 n)))) h args:=rfl
theorem wU {id:Nat} {h:ah} {args:List AV}:(EK).pan id h args=bt (av (ar .i64) ((fun _=>True))) ((fun n=>.ret (iv (u6 n)))) h args:=rfl
def dv (r:ByteArray×Bool×Bool):AV:=.tup [.l (.v (.string r.1)),.l (.v (.bool r.2.1)),.l (.v (.bool r.2.2))]
theorem eq3 (a b:Int):(a==b)=decide (a=b):=by by_cases h:a=b<;>simp [h]
theorem sD (size opc:Int):SW Tryz.prog ⟨none,0⟩ Tryz.f13.ntmps (Tryz.f13.body.getD .skip) ⟨0,ag 0 [(ar .i64).enc size,(ar .i64).enc opc],[]⟩ (aH Tryz.prog Tryz.f13.results.toList (.ret (dv (dk size opc)))):=by
 refine aa (ctx:=[⟨_,bp⟩]) 4000 ?_
 rw [Tryz.ntmps13,Tryz.results13]
 simp only [Tryz.f13,Option.getD_some,ag]
 obtain ⟨P,hP⟩:∃ P,ak size [(⟨#[98]⟩:ByteArray),(⟨#[104]⟩:ByteArray),emp,emp]=P:=⟨_,rfl⟩
 obtain ⟨R,hR⟩:∃ R,ak size [(⟨#[98]⟩:ByteArray),(⟨#[104]⟩:ByteArray),(⟨#[119]⟩:ByteArray)]=R:=⟨_,rfl⟩
 obtain ⟨T,hT⟩:∃ T,ak size [(⟨#[98]⟩:ByteArray),(⟨#[104]⟩:ByteArray)]=T:=⟨_,rfl⟩
 have lP:P.size≤1:=by rw [← hP];exact bz (by decide)
 have lR:R.size≤1:=by rw [← hR];exact bz (by decide)
 have lT:T.size≤1:=by rw [← hT];exact bz (by decide)
 have mP:3+P.size≤maxLen:=by unfold maxLen;omega
 have mR:4+R.size≤maxLen:=by unfold maxLen;omega
 have mT:4+T.size≤maxLen:=by unfold maxLen;omega
 have s1:((⟨#[115,116,114]⟩:ByteArray)).size=3:=rfl
 have s2:((⟨#[108,100,114]⟩:ByteArray)).size=3:=rfl
 have s3:((⟨#[108,100,114,115]⟩:ByteArray)).size=4:=rfl
 unfold dk
 rw [hP,hR,hT]
 have hP':ak size [(⟨#[98]⟩:ByteArray),(⟨#[104]⟩:ByteArray),⟨#[]⟩,⟨#[]⟩]=P:=hP
 by_cases h1:size<0
 ·simp only [go_sem,h1,true_or,if_true,dv,emp]
 by_cases h2:3<size
 ·simp only [go_sem,h1,h2,or_true,if_true,dv,emp]
 have e3:=eq3 size 3
 by_cases c0:opc=0
 ·simp only [go_sem,h1,h2,c0,or_false,if_false,if_true,aE,aD,bK,bO,bu,aC,aG,bj,gOf,hP',mP,s1,dv,e3]
 have d0:(opc==0)=false:=by simpa using c0
 by_cases c1:opc=1
 ·simp only [go_sem,h1,h2,c1,or_false,if_false,if_true,aE,aD,bK,bO,bu,aC,aG,bj,gOf,hP',mP,s2,dv,e3]
 have d1:(opc==1)=false:=by simpa using c1
 by_cases c2:opc=2
 ·by_cases z3:size=3
  ·simp only [go_sem,h1,h2,c2,z3,or_false,if_false,if_true,and_self,dv]
  ·have y3:(size==3)=false:=by simpa using z3
   simp only [go_sem,h1,h2,c2,z3,y3,or_false,and_false,if_false,if_true,aE,aD,bK,bO,bu,aC,aG,bj,gOf,hR,mR,s3,dv]
 have d2:(opc==2)=false:=by simpa using c2
 by_cases c3:opc=3
 ·by_cases z2:size<2
  ·simp only [go_sem,h1,h2,c3,z2,or_false,and_self,false_and,if_false,if_true,aE,aD,bK,bO,bu,aC,aG,bj,gOf,hT,mT,s3,dv]
  ·simp only [go_sem,h1,h2,c3,z2,or_false,and_false,false_and,if_false,if_true,dv,emp]
 have d3:(opc==3)=false:=by simpa using c3
 simp only [go_sem,h1,h2,c0,c1,c2,c3,d0,d1,d2,d3,or_false,false_and,if_false,dv,emp]
def iN:aQ Tryz.prog 13 :=
 mk2 _ _ _ Tryz.func13 rfl (fun _ _=>by go_simp) (ar .i64) (ar .i64) ((fun _ _=>True)) ((fun s o=>.ret (dv (dk s o)))) (by rw [Tryz.ntmps13];decide) (fun s o _=>sD s o)
theorem cU {id:Nat} {h:ah} {args:List AV}:(iN).run id h args=bm (cq (ar .i64) (ar .i64) ((fun _ _=>True))) (fun x=>((fun s o=>.ret (dv (dk s o)))) x.1 x.2) h args:=rfl
theorem cT {id:Nat} {h:ah} {args:List AV}:(iN).pan id h args=bt (cq (ar .i64) (ar .i64) ((fun _ _=>True))) (fun x=>((fun s o=>.ret (dv (dk s o)))) x.1 x.2) h args:=rfl
end
section
open Go.RowKit
def te (x:Ins):cG:=(ak x.b [(⟨#[108,100,114]⟩:ByteArray),(⟨#[108,100,114]⟩:ByteArray),(⟨#[108,100,114,115,119]⟩:ByteArray),(⟨#[112,114,102,109]⟩:ByteArray)],[if x.b=3 then oOf 8 x.rd else ab x.rd (decide (¬x.b=0)),oTo (4*x.a)])
theorem ne3 (a b:Int):(a !=b)=decide (¬a=b):=by by_cases h:a=b<;>simp [h]
theorem ld18 (x:Ins) (h:x.op=18) (ha : -1000000≤x.a∧x.a≤1000000):SW Tryz.prog ⟨none,0⟩ Tryz.f62.ntmps (Tryz.f62.body.getD .skip) ⟨0,ag 0 [(am ae).enc x],[]⟩ (aH Tryz.prog Tryz.f62.results.toList (.ret (au (te x)))):=by
 refine aa (ctx:=[⟨_,eU⟩,⟨_,ofS⟩]) 4000 ?_
 rw [Tryz.ntmps62,Tryz.results62]
 simp only [Tryz.f62,Option.getD_some,ag]
 obtain ⟨P,hP⟩:∃ P,ak x.b [(⟨#[108,100,114]⟩:ByteArray),(⟨#[108,100,114]⟩:ByteArray),(⟨#[108,100,114,115,119]⟩:ByteArray),(⟨#[112,114,102,109]⟩:ByteArray)]=P:=⟨_,rfl⟩
 have e1:IntKind.i64.wrap (4*x.a)=4*x.a:=by rw [IntKind.wrap_i64];omega
 have b18:(x.op==18)=true:=by rw [h];decide
 have w0:=ne3 x.b 0
 by_cases h3:x.b=3
 ·have b3:(x.b==3)=true:=by rw [h3];decide
  have e:te x=(P,[oOf 8 x.rd,oTo (4*x.a)]):=by unfold te;rw [hP,if_pos h3]
  rw [e]
  simp only [go_sem,ae,b18,b3,w0,bM,bL,dR,dQ,opV,oOf,ab,op0,r0,opR,opE,emp]
  refine aq (ctx:=[⟨_,bp⟩,⟨_,toS⟩]) ax ⟨[11],[(3,[368])],[(4,[368]),(5,[368]),(6,[368]),(7,[368])]⟩ (by kernel_rfl) ?_
  simp only [go_sem,e1,hP,aE,aD,bK,bO,bu,aC,aG,bj,gOf,oh,n9,opV,oOf,oTo,ab,op0,r0,opR,opE,emp,au]
 ·have b3:(x.b==3)=false:=by simpa using h3
  have e:te x=(P,[ab x.rd (decide (¬x.b=0)),oTo (4*x.a)]):=by unfold te;rw [hP,if_neg h3]
  rw [e]
  simp only [go_sem,ae,b18,b3,w0,bM,bL,dR,dQ,opV,oOf,ab,op0,r0,opR,opE,emp]
  refine aq (ctx:=[⟨_,bp⟩,⟨_,toS⟩]) ax ⟨[11],[(3,[304])],[(4,[304]),(5,[304]),(6,[304]),(7,[304])]⟩ (by kernel_rfl) ?_
  simp only [go_sem,e1,hP,aE,aD,bK,bO,bu,aC,aG,bj,gOf,oh,n9,opV,oOf,oTo,ab,op0,r0,opR,opE,emp,au]
theorem FA (x:Ins) (ha : -1000000≤x.a∧x.a≤1000000):SW Tryz.prog ⟨none,0⟩ Tryz.f125.ntmps (Tryz.f125.body.getD .skip) ⟨0,ag 0 [(am ae).enc x],[]⟩ (aH Tryz.prog Tryz.f125.results.toList (.ret (au (ic x)))):=by
 refine aa (ctx:=[]) 4000 ?_
 rw [Tryz.ntmps125,Tryz.results125]
 simp only [Tryz.f125,Option.getD_some,ag]
 obtain ⟨P,hP⟩:∃ P,ak (an x.s) [(⟨#[115,116]⟩:ByteArray),(⟨#[108,100]⟩:ByteArray)]=P:=⟨_,rfl⟩
 obtain ⟨R,hR⟩:∃ R,ak (an (decide (x.c=0))) [(⟨#[112]⟩:ByteArray),(⟨#[110,112]⟩:ByteArray)]=R:=⟨_,rfl⟩
 have lP:P.size≤2:=by rw [← hP];exact bz (by decide)
 have lR:R.size≤2:=by rw [← hR];exact bz (by decide)
 have m1:P.size+R.size≤maxLen:=by unfold maxLen;omega
 have c0:=eq3 x.c 0
 have w0:=ne3 x.b 0
 have e4:IntKind.i64.wrap (4*x.a)=4*x.a:=by rw [IntKind.wrap_i64];omega
 have e8:IntKind.i64.wrap (8*x.a)=8*x.a:=by rw [IntKind.wrap_i64];omega
 simp only [go_sem,ae]
 refine aq (ctx:=[⟨_,ca⟩,⟨_,bp⟩]) ax ⟨[],[(4,[80]),(10,[176])],[(5,[80]),(6,[80]),(7,[80]),(9,[80])]⟩ (by kernel_rfl) ?_
 by_cases h1:x.b=1
 ·have b1:(x.b==1)=true:=by rw [h1];decide
  have e:ic x=((⟨#[108,100,112,115,119]⟩:ByteArray),[ab x.rd (decide (¬x.b=0)),ab x.ra (decide (¬x.b=0)),bi x.rn (fF x.c) (4*x.a)]):=by unfold ic;rw [if_pos h1,if_neg (by omega)]
  rw [e]
  simp only [go_sem,c0,w0,b1,hP,hR,m1,be,aZ,aE,aD,bK,bO,bu,aC,aG,bj,gOf]
  refine aI (ctx:=[⟨_,eU⟩,⟨_,qw⟩,⟨_,eI⟩]) ax [21] (by kernel_rfl) ?_
  simp only [go_sem,e4,bM,bL,fw,fG,cg,cf,opV,bi,ab,op0,r0,opR,opE,emp,au]
 by_cases h2:x.b=2
 ·have b1:(x.b==1)=false:=by simpa using h1
  have b2:(x.b==2)=true:=by rw [h2];decide
  have e:ic x=(P++R,[ab x.rd (decide (¬x.b=0)),ab x.ra (decide (¬x.b=0)),bi x.rn (fF x.c) (8*x.a)]):=by unfold ic;rw [if_neg h1,if_pos h2,hP,hR]
  rw [e]
  simp only [go_sem,c0,w0,b1,b2,hP,hR,m1,be,aZ,aE,aD,bK,bO,bu,aC,aG,bj,gOf]
  refine aI (ctx:=[⟨_,eU⟩,⟨_,qw⟩,⟨_,eI⟩]) ax [21] (by kernel_rfl) ?_
  simp only [go_sem,e8,bM,bL,fw,fG,cg,cf,opV,bi,ab,op0,r0,opR,opE,emp,au]
 ·have b1:(x.b==1)=false:=by simpa using h1
  have b2:(x.b==2)=false:=by simpa using h2
  have e:ic x=(P++R,[ab x.rd (decide (¬x.b=0)),ab x.ra (decide (¬x.b=0)),bi x.rn (fF x.c) (4*x.a)]):=by unfold ic;rw [if_neg h1,if_neg h2,hP,hR]
  rw [e]
  simp only [go_sem,c0,w0,b1,b2,hP,hR,m1,be,aZ,aE,aD,bK,bO,bu,aC,aG,bj,gOf]
  refine aI (ctx:=[⟨_,eU⟩,⟨_,qw⟩,⟨_,eI⟩]) ax [21] (by kernel_rfl) ?_
  simp only [go_sem,e4,bM,bL,fw,fG,cg,cf,opV,bi,ab,op0,r0,opR,opE,emp,au]
def C3:aQ Tryz.prog 125 :=
 mk1 _ _ _ Tryz.func125 rfl (fun _ _=>by go_simp) (am ae) ((fun x => -1000000≤x.a∧x.a≤1000000)) ((fun x=>.ret (au (ic x)))) (by rw [Tryz.ntmps125];decide) (fun x h=>FA x h)
theorem BS {id:Nat} {h:ah} {args:List AV}:(C3).run id h args=bm (av (am ae) ((fun x => -1000000≤x.a∧x.a≤1000000))) ((fun x=>.ret (au (ic x)))) h args:=rfl
theorem Ax {id:Nat} {h:ah} {args:List AV}:(C3).pan id h args=bt (av (am ae) ((fun x => -1000000≤x.a∧x.a≤1000000))) ((fun x=>.ret (au (ic x)))) h args:=rfl
end
section
open Go.RowKit
def exN (x:Ins):ByteArray :=
 if x.a=2 then ak (an x.s) [(⟨#[115,116]⟩:ByteArray),(⟨#[108,100]⟩:ByteArray)]++(ak (an x.s) [(⟨#[108]⟩:ByteArray),(⟨#[97]⟩:ByteArray)]++(⟨#[114]⟩:ByteArray)++ak x.b [(⟨#[98]⟩:ByteArray),(⟨#[104]⟩:ByteArray),emp,emp])
 else (if x.x then ak (an x.s) [(⟨#[115,116]⟩:ByteArray),(⟨#[108,100]⟩:ByteArray)]++ak (an x.s) [(⟨#[108]⟩:ByteArray),(⟨#[97]⟩:ByteArray)] else ak (an x.s) [(⟨#[115,116]⟩:ByteArray),(⟨#[108,100]⟩:ByteArray)])++ak x.a [(⟨#[120,114]⟩:ByteArray)++ak x.b [(⟨#[98]⟩:ByteArray),(⟨#[104]⟩:ByteArray),emp,emp],(⟨#[120,112]⟩:ByteArray)]
def exL (x:Ins):cG:=(exN x,(if x.s=false∧¬x.a=2 then [ab x.rm false] else [])++([ab x.rd (decide (x.b=3))]++((if x.a=1 then [ab x.ra (decide (x.b=3))] else [])++[bi x.rn 0 0])))
def exT (x:Ins) (N:ByteArray):St:=⟨4,[(1,.s (.l (.p 0 0 0))),(2,.s (.l (.p 1 0 0))),(5,.s (.l (.p 2 0 0)))],[(0,some ⟨true,27,10,[aw x]⟩),(1,some bB),(2,some ⟨true,33,2,[[.v (.string N),.sl 3 0 0]]⟩),(3,some (ay []))]⟩
theorem rR (x:Ins):SW Tryz.prog ⟨none,0⟩ Tryz.f126.ntmps (Tryz.f126.body.getD .skip) ⟨0,ag 0 [(am ae).enc x],[]⟩ (aH Tryz.prog Tryz.f126.results.toList (.ret (au (exL x)))):=by
 rw [Tryz.ntmps126,Tryz.results126]
 simp only [Tryz.f126,Option.getD_some,ag]
 obtain ⟨P,hP⟩:∃ P,ak (an x.s) [(⟨#[115,116]⟩:ByteArray),(⟨#[108,100]⟩:ByteArray)]=P:=⟨_,rfl⟩
 obtain ⟨A,hA⟩:∃ A,ak (an x.s) [(⟨#[108]⟩:ByteArray),(⟨#[97]⟩:ByteArray)]=A:=⟨_,rfl⟩
 obtain ⟨S,hS⟩:∃ S,ak x.b [(⟨#[98]⟩:ByteArray),(⟨#[104]⟩:ByteArray),⟨#[]⟩,⟨#[]⟩]=S:=⟨_,rfl⟩
 obtain ⟨X,hX⟩:∃ X,ak x.a [(⟨#[120,114]⟩:ByteArray)++S,(⟨#[120,112]⟩:ByteArray)]=X:=⟨_,rfl⟩
 have lP:P.size≤2:=by rw [← hP];exact bz (by decide)
 have lA:A.size≤1:=by rw [← hA];exact bz (by decide)
 have lS:S.size≤1:=by rw [← hS];exact bz (by decide)
 have sxr:((⟨#[120,114]⟩:ByteArray)).size=2:=rfl
 have sr:((⟨#[114]⟩:ByteArray)).size=1:=rfl
 have lX:X.size≤3:=by
  rw [← hX]
  refine bz (fun s hs=>?_)
  simp only [List.mem_cons,List.not_mem_nil,or_false] at hs
  rcases hs with rfl | rfl
  ·rw [ByteArray.size_append,sxr];omega
  ·decide
 have m1:P.size+A.size≤maxLen:=by unfold maxLen;omega
 have m2:A.size+1≤maxLen:=by unfold maxLen;omega
 have m3:A.size+1+S.size≤maxLen:=by unfold maxLen;omega
 have m4:P.size+(A.size+1+S.size)≤maxLen:=by unfold maxLen;omega
 have m5:2+S.size≤maxLen:=by unfold maxLen;omega
 have m6:P.size+A.size+X.size≤maxLen:=by unfold maxLen;omega
 have m7:P.size+X.size≤maxLen:=by unfold maxLen;omega
 refine az (aa (ctx:=[]) 4000 ?_)
 simp only [go_sem,aJ,ae]
 refine az (aa (ctx:=[⟨_,ca⟩,⟨_,bp⟩]) 4000 ?_)
 simp only [go_sem,aJ,be,aZ,aE,aD,bK,bO,bu,aC,aG,bj,gOf,hP]
 refine az (aa (ctx:=[⟨_,ca⟩,⟨_,bp⟩]) 4000 ?_)
 simp only [go_sem,aJ,be,aZ,aE,aD,bK,bO,bu,aC,aG,bj,gOf,hS]
 have nm:∃ N,exN x=N:=⟨_,rfl⟩
 obtain ⟨N,hN⟩:=nm
 refine az (SW.mono (Q:=fun e s'=>e=.normal∧Wk ⟨none,0⟩ s' ⟨2,[(1,.s (.l (.p 0 0 0))),(2,.s (.l (.p 1 0 0))),(3,sv N)],[(0,some ⟨true,27,10,[aw x]⟩),(1,some bB)]⟩) (aa (ctx:=[⟨_,ca⟩,⟨_,bp⟩]) 4000 ?_) ?_)
 ·by_cases h2:x.a=2
  ·have b2:(x.a==2)=true:=by rw [h2];decide
   have e:N=P++(A++(⟨#[114]⟩:ByteArray)++S):=by
    rw [← hN];unfold exN;rw [if_pos h2,hP,hA];exact congrArg _ (congrArg _ hS)
   simp only [go_sem,b2,be,aZ,aE,aD,bK,bO,bu,aC,aG,bj,gOf,hA,m2,m3,m4,sr]
   exact Wk.renL [0,16] (by simp) (by simp) (by decide) (by rw [e];rfl) rfl
  have b2:(x.a==2)=false:=by simpa using h2
  cases hx:x.x
  ·have e:N=P++X:=by
    rw [← hN,← hX,← hS];unfold exN;rw [if_neg h2,hx,hP];rfl
   simp only [go_sem,b2,hx,be,aZ,aE,aD,bK,bO,bu,aC,aG,bj,gOf,hA,m5,m7,sxr,hX]
   exact Wk.renL [0,16] (by simp) (by simp) (by decide) (by rw [e];rfl) (by simp [hget,Blk.ren,LV.ren,aw,hx,bB,emp])
  ·have e:N=P++A++X:=by
    rw [← hN,← hX,← hS];unfold exN;rw [if_neg h2,hx,hP,hA];rfl
   simp only [go_sem,b2,hx,be,aZ,aE,aD,bK,bO,bu,aC,aG,bj,gOf,hA,m1,m5,m6,sxr,hX]
   exact Wk.renL [0,16] (by simp) (by simp) (by decide) (by rw [e];rfl) (by simp [hget,Blk.ren,LV.ren,aw,hx,bB,emp])
 rintro e s' ⟨rfl,hwk⟩
 refine SW.wk ?_ hwk
 refine az (aa (ctx:=[]) 4000 ?_)
 simp only [go_sem,aJ,bB]
 refine SW.wk (s':=exT x N) ?_ ((Wk.nilC 34 1 40 15 (k:=⟨true,33,2,[[.v (.string N),.v (.slice none 0 0)]]⟩) rfl rfl rfl).trans (Wk.renL [0,1,34,66] (by simp) (by simp [exT]) (by decide) rfl rfl))
 refine aa (ctx:=[]) 4000 ?_
 have a1:=eq3 x.a 1
 have g1:1≤maxLen:=by unfold maxLen;omega
 have g2:2≤maxLen:=by unfold maxLen;omega
 have g3:3≤maxLen:=by unfold maxLen;omega
 have g4:4≤maxLen:=by unfold maxLen;omega
 have b3:=eq3 x.b 3
 have a2:(x.a !=2)=decide (¬x.a=2):=by by_cases h:x.a=2<;>simp [h]
 have hE:exL x=(N,(if x.s=false∧¬x.a=2 then [ab x.rm false] else [])++([ab x.rd (decide (x.b=3))]++((if x.a=1 then [ab x.ra (decide (x.b=3))] else [])++[bi x.rn 0 0]))):=by unfold exL;rw [hN]
 by_cases c2:x.a=2
 ·have c1:¬x.a=1:=by omega
  rw [hE,if_neg (fun h=>h.2 c2),if_neg c1]
  cases hs:x.s
  all_goals
   simp only [go_sem,exT,aw,bB,ay,hs,a1,a2,c1,c2]
   refine aI (ctx:=[⟨_,eU⟩]) ax [9,11] (by kernel_rfl) ?_
   simp only [go_sem,a1,c1,b3,g1,g2,g3,g4,bM,bL,opV,ab,op0,r0,opR,opE,emp]
   refine aI (ctx:=[⟨_,eI⟩]) ax [6,8] (by kernel_rfl) ?_
   simp only [go_sem,g1,g2,g3,g4,cg,cf,opV,ab,bi,op0,r0,opR,opE,emp,au]
 have hc2:decide (x.a=2)=false:=by simpa using c2
 cases hs:x.s
 ·rw [hE,if_pos ⟨hs,c2⟩]
  by_cases c1:x.a=1
  ·rw [if_pos c1]
   simp only [go_sem,exT,aw,bB,ay,hs,a1,a2,c1,c2]
   refine aI (ctx:=[⟨_,eU⟩]) ax [6,8] (by kernel_rfl) ?_
   simp only [go_sem,g1,g2,g3,g4,bM,bL,opV,ab,op0,r0,opR,opE,emp]
   refine aI (ctx:=[⟨_,eU⟩]) ax [9,11] (by kernel_rfl) ?_
   simp only [go_sem,a1,c1,b3,g1,g2,g3,g4,bM,bL,opV,ab,op0,r0,opR,opE,emp]
   refine aI (ctx:=[⟨_,eU⟩]) ax [9,11] (by kernel_rfl) ?_
   simp only [go_sem,b3,g1,g2,g3,g4,bM,bL,opV,ab,op0,r0,opR,opE,emp]
   refine aI (ctx:=[⟨_,eI⟩]) ax [6,8] (by kernel_rfl) ?_
   simp only [go_sem,g1,g2,g3,g4,cg,cf,opV,ab,bi,op0,r0,opR,opE,emp,au]
  ·rw [if_neg c1]
   simp only [go_sem,exT,aw,bB,ay,hs,a1,a2,c1,c2]
   refine aI (ctx:=[⟨_,eU⟩]) ax [6,8] (by kernel_rfl) ?_
   simp only [go_sem,g1,g2,g3,g4,bM,bL,opV,ab,op0,r0,opR,opE,emp]
   refine aI (ctx:=[⟨_,eU⟩]) ax [9,11] (by kernel_rfl) ?_
   simp only [go_sem,a1,c1,b3,g1,g2,g3,g4,bM,bL,opV,ab,op0,r0,opR,opE,emp]
   refine aI (ctx:=[⟨_,eI⟩]) ax [6,8] (by kernel_rfl) ?_
   simp only [go_sem,g1,g2,g3,g4,cg,cf,opV,ab,bi,op0,r0,opR,opE,emp,au]
 ·rw [hE,if_neg (fun h=>by rw [hs] at h;cases h.1)]
  by_cases c1:x.a=1
  ·rw [if_pos c1]
   simp only [go_sem,exT,aw,bB,ay,hs,a1,a2,c1,c2]
   refine aI (ctx:=[⟨_,eU⟩]) ax [9,11] (by kernel_rfl) ?_
   simp only [go_sem,a1,c1,b3,g1,g2,g3,g4,bM,bL,opV,ab,op0,r0,opR,opE,emp]
   refine aI (ctx:=[⟨_,eU⟩]) ax [9,11] (by kernel_rfl) ?_
   simp only [go_sem,b3,g1,g2,g3,g4,bM,bL,opV,ab,op0,r0,opR,opE,emp]
   refine aI (ctx:=[⟨_,eI⟩]) ax [6,8] (by kernel_rfl) ?_
   simp only [go_sem,g1,g2,g3,g4,cg,cf,opV,ab,bi,op0,r0,opR,opE,emp,au]
  ·rw [if_neg c1]
   simp only [go_sem,exT,aw,bB,ay,hs,a1,a2,c1,c2]
   refine aI (ctx:=[⟨_,eU⟩]) ax [9,11] (by kernel_rfl) ?_
   simp only [go_sem,a1,c1,b3,g1,g2,g3,g4,bM,bL,opV,ab,op0,r0,opR,opE,emp]
   refine aI (ctx:=[⟨_,eI⟩]) ax [6,8] (by kernel_rfl) ?_
   simp only [go_sem,g1,g2,g3,g4,cg,cf,opV,ab,bi,op0,r0,opR,opE,emp,au]
def kJ:aQ Tryz.prog 126 :=
 mk1 _ _ _ Tryz.func126 rfl (fun _ _=>by go_simp) (am ae) ((fun _=>True)) ((fun x=>.ret (au (exL x)))) (by rw [Tryz.ntmps126];decide) (fun x _=>rR x)
theorem pI {id:Nat} {h:ah} {args:List AV}:(kJ).run id h args=bm (av (am ae) ((fun _=>True))) ((fun x=>.ret (au (exL x)))) h args:=rfl
theorem pN {id:Nat} {h:ah} {args:List AV}:(kJ).pan id h args=bt (av (am ae) ((fun _=>True))) ((fun x=>.ret (au (exL x)))) h args:=rfl
end
end Go.Proofs.YtpjlafmhoifkmaaGreat
