import Derived.Test.YtpjlafmhoifkmaaGreatN27
set_option linter.unusedVariables false
set_option linter.unusedSimpArgs false
set_option maxRecDepth 100000
set_option maxHeartbeats 8000000
namespace Go.Proofs.YtpjlafmhoifkmaaGreat
open Go.RowKit
def o6 (o:OpV):Blk:=⟨true,40,15,[opL o]⟩
theorem oo (o:OpV) (g:Nat→Nat):(o6 o).ren g=o6 o:=dH [o] g
theorem Hf (o:OpV) (x:Ins) (nm:ByteArray) (l:List OpV) (h:l.length≤1000):SW Tryz.prog ⟨none,3⟩ Tryz.f121.ntmps (Tryz.f121.body.getD .skip) ⟨4,ag 0 [.s (.l (.p 1 0 0)),.s (.l (.p 2 0 0))],cn 0 [wrK x nm l.length 3,pcK 0,o6 o,ay l]⟩ (gn Tryz.prog Tryz.f121.results.toList 3 (pH (o6 o) o (x,nm,l))):=by
 refine aa (ctx:=[⟨_,dV⟩]) 4000 ?_
 rw [Tryz.ntmps121,Tryz.results121]
 simp only [Tryz.f121,Option.getD_some,ag]
 simp only [go_sem,wrK,aw,ay,pcK,o6,bE,bF,opV,opL,bX,ofD,opR,opE,cp,aX,aL,ap,xwT,bk,cz,h]
 refine wV (kk:=o6 o) (o:=o) (x:=x) (nm:=nm) (l:=l) (tb:=36) (oo o) rfl ?_ ?_ ?_ ?_ (by decide)
 all_goals simp [hget,wrK,aw,pcK,ay,o6,opL,bX,ofD,opE]
def G0 (o:OpV):Cst where
 g:=121
 kk:=o6 o
 own:=rfl
 ren:=oo o
 o:=o
 spec:=El _ _ _ Tryz.func121 rfl (fun _ _=>by go_simp) (o6 o) (oo o) rfl o (by rw [Tryz.ntmps121];decide) (fun x nm l h=>Hf o x nm l h)
 run_eq:=fun _ _ _=>rfl
 pan_eq:=fun _ _ _=>rfl
theorem im1a (x:Ins) (h:x.op=1) (hx:x.x=true) (ha : -1000000000000≤x.a∧x.a≤1000000000000):SW Tryz.prog ⟨none,0⟩ Tryz.f59.ntmps (Tryz.f59.body.getD .skip) ⟨0,ag 0 [(am ae).enc x],[]⟩ (aH Tryz.prog Tryz.f59.results.toList (.ret (au (d8 x)))):=by
 rw [Tryz.ntmps59,Tryz.results59]
 simp only [Tryz.f59,Option.getD_some,ag]
 refine az (aa (ctx:=[]) 4000 ?_)
 simp only [go_sem,aJ,ae]
 refine az (aa (ctx:=[]) 4000 ?_)
 simp only [go_sem,aJ]
 refine SW.wk (s':=wrB x) ?_ ((Wk.nilC 64 11 40 15 (k:=⟨true,68,12,[aw x++[.v (.string emp),.v (.slice none 0 0)]]⟩) rfl rfl rfl).trans (Wk.renL [0,16,80,64,112] (by simp) (by simp [wrB]) (by decide) rfl rfl))
 refine aa (ctx:=[⟨_,toS⟩]) 4000 ?_
 have b1:(x.op==1)=true:=by rw [h];decide
 obtain ⟨P,hP⟩:∃ P,ak (an x.x) [⟨#[]⟩,(⟨#[112]⟩:ByteArray)]=P:=⟨_,rfl⟩
 have hP2:ak (an x.x) [emp,(⟨#[112]⟩:ByteArray)]=P:=hP
 have lP:P.size≤1:=by rw [← hP];exact bz (by decide)
 have s3:((⟨#[97,100,114]⟩:ByteArray)).size=3:=rfl
 have m1:3+P.size≤maxLen:=by unfold maxLen;omega
 have pw:(2:Int) ^ min 12 64=4096:=by decide
 have e1:IntKind.i64.wrap (x.a*4096)=x.a*4096:=by rw [IntKind.wrap_i64];omega
 have e:d8 x=((⟨#[97,100,114]⟩:ByteArray)++P,[xdO x,oTo (x.a*4096)]):=by unfold d8;rw [if_pos h,hP2,hx];rfl
 rw [e]
 rw [hx] at hP
 simp only [go_sem,wrB,b1,hx,pw,e1,aw,wrK,ay,bB,oh,n9,opV,oTo,op0,r0,opR,opE,emp]
 refine aq (ctx:=[⟨_,ca⟩,⟨_,bp⟩,⟨_,cw bU (G0 (oTo (x.a*4096)))⟩]) ax ⟨[11,12],[(5,[325])],[(0,[325]),(7,[325]),(8,[325]),(9,[325]),(10,[325])]⟩ (by kernel_rfl) ?_
 simp only [go_sem,hx,be,aZ,hP,s3,m1,gz,gB,iL,ky,m8,mV,sxQ,sxF,Sx.q,Sx.F,G0,o6,List.nodup_cons,List.nodup_nil,List.mem_cons,List.not_mem_nil,List.mem_nil_iff,or_false,false_or,or_self,not_false_eq_true,and_self,true_and,and_true,aw,wrK,ay,bB,pcK,aM,bC,aE,aD,bK,bO,bu,aC,aG,bj,bT,bD,aX,aL,ap,aS,bH,gOf,aF,aK,au,bI,bg,aT,Hw,lL,xdO,oTo,ab,op0,r0,emp,opL,bX,ofD,opE]
theorem im1b (x:Ins) (h:x.op=1) (hx:x.x=false) (ha : -1000000000000≤x.a∧x.a≤1000000000000):SW Tryz.prog ⟨none,0⟩ Tryz.f59.ntmps (Tryz.f59.body.getD .skip) ⟨0,ag 0 [(am ae).enc x],[]⟩ (aH Tryz.prog Tryz.f59.results.toList (.ret (au (d8 x)))):=by
 rw [Tryz.ntmps59,Tryz.results59]
 simp only [Tryz.f59,Option.getD_some,ag]
 refine az (aa (ctx:=[]) 4000 ?_)
 simp only [go_sem,aJ,ae]
 refine az (aa (ctx:=[]) 4000 ?_)
 simp only [go_sem,aJ]
 refine SW.wk (s':=wrB x) ?_ ((Wk.nilC 64 11 40 15 (k:=⟨true,68,12,[aw x++[.v (.string emp),.v (.slice none 0 0)]]⟩) rfl rfl rfl).trans (Wk.renL [0,16,80,64,112] (by simp) (by simp [wrB]) (by decide) rfl rfl))
 refine aa (ctx:=[⟨_,toS⟩]) 4000 ?_
 have b1:(x.op==1)=true:=by rw [h];decide
 obtain ⟨P,hP⟩:∃ P,ak (an x.x) [⟨#[]⟩,(⟨#[112]⟩:ByteArray)]=P:=⟨_,rfl⟩
 have hP2:ak (an x.x) [emp,(⟨#[112]⟩:ByteArray)]=P:=hP
 have lP:P.size≤1:=by rw [← hP];exact bz (by decide)
 have s3:((⟨#[97,100,114]⟩:ByteArray)).size=3:=rfl
 have m1:3+P.size≤maxLen:=by unfold maxLen;omega
 have pw:(2:Int) ^ min 12 64=4096:=by decide
 have e1:IntKind.i64.wrap (x.a*4096)=x.a*4096:=by rw [IntKind.wrap_i64];omega
 have e:d8 x=((⟨#[97,100,114]⟩:ByteArray)++P,[xdO x,oTo (x.a)]):=by unfold d8;rw [if_pos h,hP2,hx];rfl
 rw [e]
 rw [hx] at hP
 simp only [go_sem,wrB,b1,hx,pw,e1,aw,wrK,ay,bB,oh,n9,opV,oTo,op0,r0,opR,opE,emp]
 refine aq (ctx:=[⟨_,ca⟩,⟨_,bp⟩,⟨_,cw bU (G0 (oTo (x.a)))⟩]) ax ⟨[11,12],[(5,[245])],[(0,[245]),(7,[245]),(8,[245]),(9,[245]),(10,[245])]⟩ (by kernel_rfl) ?_
 simp only [go_sem,hx,be,aZ,hP,s3,m1,gz,gB,iL,ky,m8,mV,sxQ,sxF,Sx.q,Sx.F,G0,o6,List.nodup_cons,List.nodup_nil,List.mem_cons,List.not_mem_nil,List.mem_nil_iff,or_false,false_or,or_self,not_false_eq_true,and_self,true_and,and_true,aw,wrK,ay,bB,pcK,aM,bC,aE,aD,bK,bO,bu,aC,aG,bj,bT,bD,aX,aL,ap,aS,bH,gOf,aF,aK,au,bI,bg,aT,Hw,lL,xdO,oTo,ab,op0,r0,emp,opL,bX,ofD,opE]
theorem im2a (x:Ins) (h:x.op=2) (hs:x.s=true):SW Tryz.prog ⟨none,0⟩ Tryz.f59.ntmps (Tryz.f59.body.getD .skip) ⟨0,ag 0 [(am ae).enc x],[]⟩ (aH Tryz.prog Tryz.f59.results.toList (.ret (au (d8 x)))):=by
 rw [Tryz.ntmps59,Tryz.results59]
 simp only [Tryz.f59,Option.getD_some,ag]
 refine az (aa (ctx:=[]) 4000 ?_)
 simp only [go_sem,aJ,ae]
 refine az (aa (ctx:=[]) 4000 ?_)
 simp only [go_sem,aJ]
 refine SW.wk (s':=wrB x) ?_ ((Wk.nilC 64 11 40 15 (k:=⟨true,68,12,[aw x++[.v (.string emp),.v (.slice none 0 0)]]⟩) rfl rfl rfl).trans (Wk.renL [0,16,80,64,112] (by simp) (by simp [wrB]) (by decide) rfl rfl))
 refine aa (ctx:=[]) 4000 ?_
 have b1:(x.op==1)=false:=by rw [h];decide
 have b2:(x.op==2)=true:=by rw [h];decide
 obtain ⟨P,hP⟩:∃ P,ak x.b [(⟨#[97,100,100]⟩:ByteArray),(⟨#[115,117,98]⟩:ByteArray)]=P:=⟨_,rfl⟩
 obtain ⟨S,hS⟩:∃ S,ak (an x.s) [⟨#[]⟩,(⟨#[115]⟩:ByteArray)]=S:=⟨_,rfl⟩
 have hS2:ak (an x.s) [emp,(⟨#[115]⟩:ByteArray)]=S:=hS
 have lP:P.size≤3:=by rw [← hP];exact bz (by decide)
 have lS:S.size≤1:=by rw [← hS];exact bz (by decide)
 have m1:P.size+S.size≤maxLen:=by unfold maxLen;omega
 obtain ⟨Z,hZ⟩:∃ Z,dh x=Z:=⟨_,rfl⟩
 have e:d8 x=(P++S,[dO x,nsO x,Z]):=by unfold d8;rw [if_neg (by omega),if_pos h,hP,hS2,hZ,hs];rfl
 rw [e]
 rw [hs] at hS
 simp only [go_sem,wrB,b1,b2,hs,aw,wrK,ay,bB,aM,bC]
 refine aq (ctx:=[⟨_,ca⟩,⟨_,bp⟩,⟨_,bZ bU⟩]) ax ⟨[15],[(4,[277]),(9,[357])],[(0,[277,357]),(5,[277]),(6,[277]),(8,[277]),(11,[277,357]),(12,[277,357]),(13,[277,357]),(14,[277,357])]⟩ (by kernel_rfl) ?_
 simp only [go_sem,hs,be,aZ,hP,hS,m1,aW,aV,aw,wrK,ay,bB,pcK,aM,bC,aE,aD,bK,bO,bu,aC,aG,bj,bT,bD,aX,aL,ap,aS,bH,gOf,aF,aK,au,bI,bg,aT,ju,eM,In,gO]
 refine aI (ctx:=[⟨_,jU⟩,⟨_,dV⟩]) ax [3] (by kernel_rfl) ?_
 have hZ2:dh ⟨x.op,x.x,true,x.rd,x.rn,x.rm,x.ra,x.a,x.b,x.c⟩=Z:=by rw [← hZ];rfl
 obtain ⟨zk,⟨zr1,zr2,zr3⟩,⟨zm1,zm2,zm3⟩,zmd,zam,zn,zad,zpl,zmi,zlo,zmo⟩:=Z
 simp only [go_sem,ae,aw,hs,hZ,hZ2,jD,jG,aw,wrK,ay,bB,pcK,aM,bC,aE,aD,bK,bO,bu,aC,aG,bj,bT,bD,aX,aL,ap,aS,bH,gOf,aF,aK,au,bI,bg,aT,bE,bF,cp,xwT,xw0,bk,opV,opL,bX,ofD,opR,cB,opE,dO,nsO,ab,oSP,op0,r0,emp]
theorem im2b (x:Ins) (h:x.op=2) (hs:x.s=false):SW Tryz.prog ⟨none,0⟩ Tryz.f59.ntmps (Tryz.f59.body.getD .skip) ⟨0,ag 0 [(am ae).enc x],[]⟩ (aH Tryz.prog Tryz.f59.results.toList (.ret (au (d8 x)))):=by
 rw [Tryz.ntmps59,Tryz.results59]
 simp only [Tryz.f59,Option.getD_some,ag]
 refine az (aa (ctx:=[]) 4000 ?_)
 simp only [go_sem,aJ,ae]
 refine az (aa (ctx:=[]) 4000 ?_)
 simp only [go_sem,aJ]
 refine SW.wk (s':=wrB x) ?_ ((Wk.nilC 64 11 40 15 (k:=⟨true,68,12,[aw x++[.v (.string emp),.v (.slice none 0 0)]]⟩) rfl rfl rfl).trans (Wk.renL [0,16,80,64,112] (by simp) (by simp [wrB]) (by decide) rfl rfl))
 refine aa (ctx:=[]) 4000 ?_
 have b1:(x.op==1)=false:=by rw [h];decide
 have b2:(x.op==2)=true:=by rw [h];decide
 obtain ⟨P,hP⟩:∃ P,ak x.b [(⟨#[97,100,100]⟩:ByteArray),(⟨#[115,117,98]⟩:ByteArray)]=P:=⟨_,rfl⟩
 obtain ⟨S,hS⟩:∃ S,ak (an x.s) [⟨#[]⟩,(⟨#[115]⟩:ByteArray)]=S:=⟨_,rfl⟩
 have hS2:ak (an x.s) [emp,(⟨#[115]⟩:ByteArray)]=S:=hS
 have lP:P.size≤3:=by rw [← hP];exact bz (by decide)
 have lS:S.size≤1:=by rw [← hS];exact bz (by decide)
 have m1:P.size+S.size≤maxLen:=by unfold maxLen;omega
 obtain ⟨Z,hZ⟩:∃ Z,dh x=Z:=⟨_,rfl⟩
 have e:d8 x=(P++S,[dsO x,nsO x,Z]):=by unfold d8;rw [if_neg (by omega),if_pos h,hP,hS2,hZ,hs];rfl
 rw [e]
 rw [hs] at hS
 simp only [go_sem,wrB,b1,b2,hs,aw,wrK,ay,bB,aM,bC]
 refine aq (ctx:=[⟨_,ca⟩,⟨_,bp⟩,⟨_,bZ bU⟩]) ax ⟨[15],[(4,[229]),(9,[309])],[(0,[229,309]),(5,[229]),(6,[229]),(8,[229]),(11,[229,309]),(12,[229,309]),(13,[229,309]),(14,[229,309])]⟩ (by kernel_rfl) ?_
 simp only [go_sem,hs,be,aZ,hP,hS,m1,aW,aV,aw,wrK,ay,bB,pcK,aM,bC,aE,aD,bK,bO,bu,aC,aG,bj,bT,bD,aX,aL,ap,aS,bH,gOf,aF,aK,au,bI,bg,aT,xa,gH,In,gO]
 refine aI (ctx:=[⟨_,jU⟩,⟨_,dV⟩]) ax [3] (by kernel_rfl) ?_
 have hZ2:dh ⟨x.op,x.x,false,x.rd,x.rn,x.rm,x.ra,x.a,x.b,x.c⟩=Z:=by rw [← hZ];rfl
 obtain ⟨zk,⟨zr1,zr2,zr3⟩,⟨zm1,zm2,zm3⟩,zmd,zam,zn,zad,zpl,zmi,zlo,zmo⟩:=Z
 simp only [go_sem,ae,aw,hs,hZ,hZ2,jD,jG,aw,wrK,ay,bB,pcK,aM,bC,aE,aD,bK,bO,bu,aC,aG,bj,bT,bD,aX,aL,ap,aS,bH,gOf,aF,aK,au,bI,bg,aT,bE,bF,cp,xwT,xw0,bk,opV,opL,bX,ofD,opR,cB,opE,dsO,nsO,ab,oSP,op0,r0,emp]
theorem im3a (x:Ins) (h:x.op=3) (hb:x.b=3):SW Tryz.prog ⟨none,0⟩ Tryz.f59.ntmps (Tryz.f59.body.getD .skip) ⟨0,ag 0 [(am ae).enc x],[]⟩ (aH Tryz.prog Tryz.f59.results.toList (.ret (au (d8 x)))):=by
 rw [Tryz.ntmps59,Tryz.results59]
 simp only [Tryz.f59,Option.getD_some,ag]
 refine az (aa (ctx:=[]) 4000 ?_)
 simp only [go_sem,aJ,ae]
 refine az (aa (ctx:=[]) 4000 ?_)
 simp only [go_sem,aJ]
 refine SW.wk (s':=wrB x) ?_ ((Wk.nilC 64 11 40 15 (k:=⟨true,68,12,[aw x++[.v (.string emp),.v (.slice none 0 0)]]⟩) rfl rfl rfl).trans (Wk.renL [0,16,80,64,112] (by simp) (by simp [wrB]) (by decide) rfl rfl))
 refine aa (ctx:=[]) 4000 ?_
 have b1:(x.op==1)=false:=by rw [h];decide
 have b2:(x.op==2)=false:=by rw [h];decide
 have b3:(x.op==3)=true:=by rw [h];decide
 obtain ⟨P,hP⟩:∃ P,ak x.b [(⟨#[97,110,100]⟩:ByteArray),(⟨#[111,114,114]⟩:ByteArray),(⟨#[101,111,114]⟩:ByteArray),(⟨#[97,110,100,115]⟩:ByteArray)]=P:=⟨_,rfl⟩
 have q3:(x.b==3)=true:=by simpa using hb
 have e:d8 x=(P,[dO x,nO x,cF x]):=by unfold d8;rw [if_neg (by omega),if_neg (by omega),if_pos h,hP,if_pos hb]
 rw [e]
 simp only [go_sem,wrB,b1,b2,b3,q3,aw,wrK,ay,bB,aM,bC]
 refine aq (ctx:=[⟨_,bp⟩,⟨_,bZ bU⟩]) ax ⟨[11,12],[(4,[325])],[(0,[325]),(5,[325]),(6,[325]),(7,[325]),(8,[325]),(9,[325]),(10,[325])]⟩ (by kernel_rfl) ?_
 simp only [go_sem,hP,aW,aV,aw,wrK,ay,bB,pcK,aM,bC,aE,aD,bK,bO,bu,aC,aG,bj,bT,bD,aX,aL,ap,aS,bH,gOf,aF,aK,au,bI,bg,aT,ju,eM,lG,fH,jw,dP]
theorem im3b (x:Ins) (h:x.op=3) (hb:¬x.b=3):SW Tryz.prog ⟨none,0⟩ Tryz.f59.ntmps (Tryz.f59.body.getD .skip) ⟨0,ag 0 [(am ae).enc x],[]⟩ (aH Tryz.prog Tryz.f59.results.toList (.ret (au (d8 x)))):=by
 rw [Tryz.ntmps59,Tryz.results59]
 simp only [Tryz.f59,Option.getD_some,ag]
 refine az (aa (ctx:=[]) 4000 ?_)
 simp only [go_sem,aJ,ae]
 refine az (aa (ctx:=[]) 4000 ?_)
 simp only [go_sem,aJ]
 refine SW.wk (s':=wrB x) ?_ ((Wk.nilC 64 11 40 15 (k:=⟨true,68,12,[aw x++[.v (.string emp),.v (.slice none 0 0)]]⟩) rfl rfl rfl).trans (Wk.renL [0,16,80,64,112] (by simp) (by simp [wrB]) (by decide) rfl rfl))
 refine aa (ctx:=[]) 4000 ?_
 have b1:(x.op==1)=false:=by rw [h];decide
 have b2:(x.op==2)=false:=by rw [h];decide
 have b3:(x.op==3)=true:=by rw [h];decide
 obtain ⟨P,hP⟩:∃ P,ak x.b [(⟨#[97,110,100]⟩:ByteArray),(⟨#[111,114,114]⟩:ByteArray),(⟨#[101,111,114]⟩:ByteArray),(⟨#[97,110,100,115]⟩:ByteArray)]=P:=⟨_,rfl⟩
 have q3:(x.b==3)=false:=by simpa using hb
 have e:d8 x=(P,[dsO x,nO x,cF x]):=by unfold d8;rw [if_neg (by omega),if_neg (by omega),if_pos h,hP,if_neg hb]
 rw [e]
 simp only [go_sem,wrB,b1,b2,b3,q3,aw,wrK,ay,bB,aM,bC]
 refine aq (ctx:=[⟨_,bp⟩,⟨_,bZ bU⟩]) ax ⟨[11,12],[(4,[277])],[(0,[277]),(5,[277]),(6,[277]),(7,[277]),(8,[277]),(9,[277]),(10,[277])]⟩ (by kernel_rfl) ?_
 simp only [go_sem,hP,aW,aV,aw,wrK,ay,bB,pcK,aM,bC,aE,aD,bK,bO,bu,aC,aG,bj,bT,bD,aX,aL,ap,aS,bH,gOf,aF,aK,au,bI,bg,aT,xa,gH,lG,fH,jw,dP]
theorem im4a (x:Ins) (h:x.op=4) (hc:x.c=0) (hr:0≤x.c∧x.c≤3):SW Tryz.prog ⟨none,0⟩ Tryz.f59.ntmps (Tryz.f59.body.getD .skip) ⟨0,ag 0 [(am ae).enc x],[]⟩ (aH Tryz.prog Tryz.f59.results.toList (.ret (au (d8 x)))):=by
 rw [Tryz.ntmps59,Tryz.results59]
 simp only [Tryz.f59,Option.getD_some,ag]
 refine az (aa (ctx:=[]) 4000 ?_)
 simp only [go_sem,aJ,ae]
 refine az (aa (ctx:=[]) 4000 ?_)
 simp only [go_sem,aJ]
 refine SW.wk (s':=wrB x) ?_ ((Wk.nilC 64 11 40 15 (k:=⟨true,68,12,[aw x++[.v (.string emp),.v (.slice none 0 0)]]⟩) rfl rfl rfl).trans (Wk.renL [0,16,80,64,112] (by simp) (by simp [wrB]) (by decide) rfl rfl))
 refine aa (ctx:=[⟨_,ji⟩,⟨_,jN⟩,⟨_,dV⟩]) 4000 ?_
 have b1:(x.op==1)=false:=by rw [h];decide
 have b2:(x.op==2)=false:=by rw [h];decide
 have b3:(x.op==3)=false:=by rw [h];decide
 have b4:(x.op==4)=true:=by rw [h];decide
 obtain ⟨P,hP⟩:∃ P,ak x.b [(⟨#[109,111,118,110]⟩:ByteArray),⟨#[]⟩,(⟨#[109,111,118,122]⟩:ByteArray),(⟨#[109,111,118,107]⟩:ByteArray)]=P:=⟨_,rfl⟩
 have hP2:ak x.b [(⟨#[109,111,118,110]⟩:ByteArray),emp,(⟨#[109,111,118,122]⟩:ByteArray),(⟨#[109,111,118,107]⟩:ByteArray)]=P:=hP
 have q0:(x.c !=0)=false:=by simpa using hc
 have e1:IntKind.i64.wrap (16*x.c)=16*x.c:=by rw [IntKind.wrap_i64];omega
 have e:d8 x=(P,[dO x,aB x.a]):=by unfold d8;rw [if_neg (by omega),if_neg (by omega),if_neg (by omega),if_pos h,hP2,if_pos hc]
 rw [e]
 simp only [go_sem,wrB,b1,b2,b3,b4,q0,e1,aw,wrK,ay,bB,aM,bC,dc,da,fD,fx,opV,aB,cW,op0,r0,opR,opE,emp]
 refine aq (ctx:=[⟨_,bp⟩,⟨_,bZ bU⟩]) ax ⟨[8],[(4,[341])],[(0,[341]),(5,[341]),(6,[341]),(7,[341])]⟩ (by kernel_rfl) ?_
 simp only [go_sem,hP,aW,aV,aw,wrK,ay,bB,pcK,aM,bC,aE,aD,bK,bO,bu,aC,aG,bj,bT,bD,aX,aL,ap,aS,bH,gOf,aF,aK,au,bI,bg,aT,ju,eM,bE,bF,cp,xwT,xw0,bk,opV,opL,bX,ofD,opR,cB,opE,dO,ab,aB,cW,op0,r0,emp]
theorem im4b (x:Ins) (h:x.op=4) (hc:¬x.c=0) (hr:0≤x.c∧x.c≤3):SW Tryz.prog ⟨none,0⟩ Tryz.f59.ntmps (Tryz.f59.body.getD .skip) ⟨0,ag 0 [(am ae).enc x],[]⟩ (aH Tryz.prog Tryz.f59.results.toList (.ret (au (d8 x)))):=by
 rw [Tryz.ntmps59,Tryz.results59]
 simp only [Tryz.f59,Option.getD_some,ag]
 refine az (aa (ctx:=[]) 4000 ?_)
 simp only [go_sem,aJ,ae]
 refine az (aa (ctx:=[]) 4000 ?_)
 simp only [go_sem,aJ]
 refine SW.wk (s':=wrB x) ?_ ((Wk.nilC 64 11 40 15 (k:=⟨true,68,12,[aw x++[.v (.string emp),.v (.slice none 0 0)]]⟩) rfl rfl rfl).trans (Wk.renL [0,16,80,64,112] (by simp) (by simp [wrB]) (by decide) rfl rfl))
 refine aa (ctx:=[⟨_,ji⟩,⟨_,jN⟩,⟨_,dV⟩]) 4000 ?_
 have b1:(x.op==1)=false:=by rw [h];decide
 have b2:(x.op==2)=false:=by rw [h];decide
 have b3:(x.op==3)=false:=by rw [h];decide
 have b4:(x.op==4)=true:=by rw [h];decide
 obtain ⟨P,hP⟩:∃ P,ak x.b [(⟨#[109,111,118,110]⟩:ByteArray),⟨#[]⟩,(⟨#[109,111,118,122]⟩:ByteArray),(⟨#[109,111,118,107]⟩:ByteArray)]=P:=⟨_,rfl⟩
 have hP2:ak x.b [(⟨#[109,111,118,110]⟩:ByteArray),emp,(⟨#[109,111,118,122]⟩:ByteArray),(⟨#[109,111,118,107]⟩:ByteArray)]=P:=hP
 have q0:(x.c !=0)=true:=by simpa using hc
 have e1:IntKind.i64.wrap (16*x.c)=16*x.c:=by rw [IntKind.wrap_i64];omega
 have e:d8 x=(P,[dO x,cW (aB x.a) 1 (16*x.c)]):=by unfold d8;rw [if_neg (by omega),if_neg (by omega),if_neg (by omega),if_pos h,hP2,if_neg hc]
 rw [e]
 simp only [go_sem,wrB,b1,b2,b3,b4,q0,e1,aw,wrK,ay,bB,aM,bC,dc,da,fD,fx,opV,aB,cW,op0,r0,opR,opE,emp]
 refine aq (ctx:=[⟨_,bp⟩,⟨_,bZ bU⟩]) ax ⟨[8],[(4,[437])],[(0,[437]),(5,[437]),(6,[437]),(7,[437])]⟩ (by kernel_rfl) ?_
 simp only [go_sem,hP,aW,aV,aw,wrK,ay,bB,pcK,aM,bC,aE,aD,bK,bO,bu,aC,aG,bj,bT,bD,aX,aL,ap,aS,bH,gOf,aF,aK,au,bI,bg,aT,ju,eM,bE,bF,cp,xwT,xw0,bk,opV,opL,bX,ofD,opR,cB,opE,dO,ab,aB,cW,op0,r0,emp]
theorem im5 (x:Ins) (h:x.op=5):SW Tryz.prog ⟨none,0⟩ Tryz.f59.ntmps (Tryz.f59.body.getD .skip) ⟨0,ag 0 [(am ae).enc x],[]⟩ (aH Tryz.prog Tryz.f59.results.toList (.ret (au (d8 x)))):=by
 rw [Tryz.ntmps59,Tryz.results59]
 simp only [Tryz.f59,Option.getD_some,ag]
 refine az (aa (ctx:=[]) 4000 ?_)
 simp only [go_sem,aJ,ae]
 refine az (aa (ctx:=[]) 4000 ?_)
 simp only [go_sem,aJ]
 refine SW.wk (s':=wrB x) ?_ ((Wk.nilC 64 11 40 15 (k:=⟨true,68,12,[aw x++[.v (.string emp),.v (.slice none 0 0)]]⟩) rfl rfl rfl).trans (Wk.renL [0,16,80,64,112] (by simp) (by simp [wrB]) (by decide) rfl rfl))
 refine aa (ctx:=[]) 4000 ?_
 have b1:(x.op==1)=false:=by rw [h];decide
 have b2:(x.op==2)=false:=by rw [h];decide
 have b3:(x.op==3)=false:=by rw [h];decide
 have b4:(x.op==4)=false:=by rw [h];decide
 have b5:(x.op==5)=true:=by rw [h];decide
 obtain ⟨P,hP⟩:∃ P,ak x.b [(⟨#[115,98,102,109]⟩:ByteArray),(⟨#[98,102,109]⟩:ByteArray),(⟨#[117,98,102,109]⟩:ByteArray)]=P:=⟨_,rfl⟩
 have e:d8 x=(P,[dO x,nO x,cF x,aB x.c]):=by unfold d8;rw [if_neg (by omega),if_neg (by omega),if_neg (by omega),if_neg (by omega),if_pos h,hP]
 rw [e]
 simp only [go_sem,wrB,b1,b2,b3,b4,b5,aw,wrK,ay,bB,aM,bC]
 refine aq (ctx:=[⟨_,bp⟩,⟨_,bZ bU⟩]) ax ⟨[12],[(4,[245])],[(0,[245]),(5,[245]),(6,[245]),(7,[245]),(8,[245]),(9,[245]),(10,[245]),(11,[245])]⟩ (by kernel_rfl) ?_
 simp only [go_sem,hP,aW,aV,aw,wrK,ay,bB,pcK,aM,bC,aE,aD,bK,bO,bu,aC,aG,bj,bT,bD,aX,aL,ap,aS,bH,gOf,aF,aK,au,bI,bg,aT,ju,eM,lG,fH,jw,dP]
 refine aI (ctx:=[⟨_,ji⟩,⟨_,dV⟩]) ax [4] (by kernel_rfl) ?_
 simp only [go_sem,dc,da,aw,wrK,ay,bB,pcK,aM,bC,aE,aD,bK,bO,bu,aC,aG,bj,bT,bD,aX,aL,ap,aS,bH,gOf,aF,aK,au,bI,bg,aT,bE,bF,cp,xwT,xw0,bk,opV,opL,bX,ofD,opR,cB,opE,dO,nO,cF,ab,aB,op0,r0,emp]
def Bf (x:Ins):Prop:=1≤x.op∧x.op≤6∧(x.op=1 → -1000000000000≤x.a∧x.a≤1000000000000)∧(x.op=4→0≤x.c∧x.c≤3)
theorem Jj (x:Ins) (hq:Bf x):SW Tryz.prog ⟨none,0⟩ Tryz.f59.ntmps (Tryz.f59.body.getD .skip) ⟨0,ag 0 [(am ae).enc x],[]⟩ (aH Tryz.prog Tryz.f59.results.toList (.ret (au (d8 x)))):=by
 obtain ⟨h1,h2,h3,h4⟩:=hq
 have:x.op=1∨x.op=2∨x.op=3∨x.op=4∨x.op=5∨x.op=6:=by omega
 rcases this with h | h | h | h | h | h
 ·cases hx:x.x
  ·exact im1b x h hx (h3 h)
  ·exact im1a x h hx (h3 h)
 ·cases hs:x.s
  ·exact im2b x h hs
  ·exact im2a x h hs
 ·by_cases hb:x.b=3
  ·exact im3a x h hb
  ·exact im3b x h hb
 ·by_cases hc:x.c=0
  ·exact im4a x h hc (h4 h)
  ·exact im4b x h hc (h4 h)
 ·exact im5 x h
 ·exact AR x h
def I6:aQ Tryz.prog 59 :=
 mk1 _ _ _ Tryz.func59 rfl (fun _ _=>by go_simp) (am ae) (Bf) ((fun x=>.ret (au (d8 x)))) (by rw [Tryz.ntmps59];decide) (fun x h=>Jj x h)
theorem Gx {id:Nat} {h:ah} {args:List AV}:(I6).run id h args=bm (av (am ae) (Bf)) ((fun x=>.ret (au (d8 x)))) h args:=rfl
theorem FH {id:Nat} {h:ah} {args:List AV}:(I6).pan id h args=bt (av (am ae) (Bf)) ((fun x=>.ret (au (d8 x)))) h args:=rfl
end Go.Proofs.YtpjlafmhoifkmaaGreat
