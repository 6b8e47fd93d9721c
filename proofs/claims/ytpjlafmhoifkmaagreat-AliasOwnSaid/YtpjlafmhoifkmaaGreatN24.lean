import Derived.Test.YtpjlafmhoifkmaaGreatN23
import Derived.Test.YtpjlafmhoifkmaaGreatN17
set_option linter.unusedVariables false
set_option linter.unusedSimpArgs false
set_option maxRecDepth 100000
set_option maxHeartbeats 8000000
namespace Go.Proofs.YtpjlafmhoifkmaaGreat
section
open Go.RowKit
def bh:eP where
 at_:=fun g=>if g=113 then some jE else if g=114 then some jr else if g=118 then some ll else bU.at_ g
 ok:=by
  intro g st h
  split at h
  ·injection h with h;subst h;rename_i e;rw [e];rfl
  ·split at h
   ·injection h with h;subst h;rename_i e;rw [e];rfl
   ·split at h
    ·injection h with h;subst h;rename_i e;rw [e];rfl
    ·exact bU.ok h
theorem jj:bh.at_ 113=some jE:=rfl
theorem iz:bh.at_ 114=some jr:=rfl
theorem kE:bh.at_ 118=some ll:=rfl
theorem jy:bh.at_ 49=some eM:=rfl
theorem jo:bh.at_ 50=some fH:=rfl
theorem kt:bh.at_ 56=some iw:=rfl
theorem jW:bh.at_ 107=some gH:=rfl
theorem iq:bh.at_ 104=some gO:=rfl
theorem r8:bh.at_ 120=some lL:=rfl
theorem gy:bh.at_ 51=some dP:=rfl
theorem wT (x:Ins) (a b c:OpV):∃ M,bS x [a,b,c]=[a,b,M]:=by
 unfold bS
 split
 ·exact ⟨c,rfl⟩
 ·exact ⟨_,rfl⟩
theorem FK (q:Bool):0≤an q∧an q≤1:=by cases q<;>decide
theorem N2 (x:Ins) (h:x.op=24) (hb:0≤x.b∧x.b≤3) (hc:0≤x.c∧x.c≤7):SW Tryz.prog ⟨none,0⟩ Tryz.f63.ntmps (Tryz.f63.body.getD .skip) ⟨0,ag 0 [(am ae).enc x],[]⟩ (aH Tryz.prog Tryz.f63.results.toList (.ret (au (bx x)))):=by
 rw [Tryz.ntmps63,Tryz.results63]
 simp only [Tryz.f63,Option.getD_some,ag]
 refine az (aa (ctx:=[]) 4000 ?_)
 simp only [go_sem,aJ,ae]
 refine az (aa (ctx:=[]) 4000 ?_)
 simp only [go_sem,aJ]
 refine SW.wk (s':=wr3 x) ?_ ((Wk.nilC 64 11 40 15 (k:=⟨true,68,12,[aw x++[.v (.string emp),.v (.slice none 0 0)]]⟩) rfl rfl rfl).trans (Wk.renL [0,16,64,96] (by simp) (by simp [wr3]) (by decide) rfl rfl))
 refine aa (ctx:=[⟨_,ca⟩,⟨_,bp⟩]) 4000 ?_
 obtain ⟨S,hS⟩:∃ S,ak (an x.s) [⟨#[]⟩,(⟨#[115]⟩:ByteArray)]=S:=⟨_,rfl⟩
 have lS:S.size≤1:=by rw [← hS];exact bz (by decide)
 have hS2:sS x=S:=hS
 obtain ⟨P,hP⟩:∃ P,ak (2*x.b+an x.s) [(⟨#[97,110,100]⟩:ByteArray),(⟨#[98,105,99]⟩:ByteArray),(⟨#[111,114,114]⟩:ByteArray),(⟨#[111,114,110]⟩:ByteArray),(⟨#[101,111,114]⟩:ByteArray),(⟨#[101,111,110]⟩:ByteArray),(⟨#[97,110,100,115]⟩:ByteArray),(⟨#[98,105,99,115]⟩:ByteArray)]=P:=⟨_,rfl⟩
 obtain ⟨M,hM⟩:=wT x (dO x) (nO x) (mO x)
 have e:bx x=(P,[dO x,nO x,M]):=by unfold bx;rw [if_pos h,hP,hM]
 have fb:=FK x.s
 have e1:IntKind.i64.wrap (2*x.b)=2*x.b:=by rw [IntKind.wrap_i64];omega
 have e2:IntKind.i64.wrap (2*x.b+an x.s)=2*x.b+an x.s:=by rw [IntKind.wrap_i64];omega
 have b24:(x.op==24)=true:=by rw [h];decide
 simp only [go_sem,wr3,aw,wrK,ay,bB,be,aZ,aE,aD,bK,bO,bu,aC,aG,bj,gOf,hS,b24,aM,bC]
 refine aq (ctx:=[⟨_,ca⟩,⟨_,bp⟩,⟨_,bZ bh⟩]) ax ⟨[19,20],[(9,[292])],[(0,[292]),(10,[292]),(11,[292]),(12,[292]),(13,[292]),(14,[292]),(15,[292]),(16,[292]),(17,[292]),(18,[292])]⟩ (by kernel_rfl) ?_
 simp only [go_sem,be,aZ,e1,e2,hP,e,hM,hc.1,hc.2,aw,wrK,ay,bB,aM,bC,aE,aD,bK,bO,bu,aC,aG,bj,aW,aV,bT,bD,aX,aL,ap,aS,bH,gOf,aF,aK,au,bI,bg,aT,jy,jo,kt,jj,eM,fH,iw,jE]
theorem Lp (x:Ins) (h:x.op=25) (hc:0≤x.c∧x.c≤7):SW Tryz.prog ⟨none,0⟩ Tryz.f63.ntmps (Tryz.f63.body.getD .skip) ⟨0,ag 0 [(am ae).enc x],[]⟩ (aH Tryz.prog Tryz.f63.results.toList (.ret (au (bx x)))):=by
 rw [Tryz.ntmps63,Tryz.results63]
 simp only [Tryz.f63,Option.getD_some,ag]
 refine az (aa (ctx:=[]) 4000 ?_)
 simp only [go_sem,aJ,ae]
 refine az (aa (ctx:=[]) 4000 ?_)
 simp only [go_sem,aJ]
 refine SW.wk (s':=wr3 x) ?_ ((Wk.nilC 64 11 40 15 (k:=⟨true,68,12,[aw x++[.v (.string emp),.v (.slice none 0 0)]]⟩) rfl rfl rfl).trans (Wk.renL [0,16,64,96] (by simp) (by simp [wr3]) (by decide) rfl rfl))
 refine aa (ctx:=[⟨_,ca⟩,⟨_,bp⟩,⟨_,bZ bh⟩]) 4000 ?_
 obtain ⟨S,hS⟩:∃ S,ak (an x.s) [⟨#[]⟩,(⟨#[115]⟩:ByteArray)]=S:=⟨_,rfl⟩
 have lS:S.size≤1:=by rw [← hS];exact bz (by decide)
 have hS2:sS x=S:=hS
 obtain ⟨P,hP⟩:∃ P,ak x.b [(⟨#[97,100,100]⟩:ByteArray),(⟨#[115,117,98]⟩:ByteArray)]=P:=⟨_,rfl⟩
 have lP:P.size≤3:=by rw [← hP];exact bz (by decide)
 have m1:P.size+S.size≤maxLen:=by unfold maxLen;omega
 obtain ⟨M,hM⟩:=wT x (dO x) (nO x) (mO x)
 have e:bx x=(P++S,[dO x,nO x,M]):=by unfold bx;rw [if_neg (by omega),if_pos h,hP,hM,hS2]
 have b24:(x.op==24)=false:=by rw [h];decide
 have b25:(x.op==25)=true:=by rw [h];decide
 simp only [go_sem,b24,b25,be,aZ,hS,hP,e,hM,m1,hc.1,hc.2,wr3,aw,wrK,ay,bB,aM,bC,aE,aD,bK,bO,bu,aC,aG,bj,aW,aV,bT,bD,aX,aL,ap,aS,bH,gOf,aF,aK,au,bI,bg,aT,jy,eM,jo,fH,kt,iw,jj,jE]
 all_goals rfl
theorem Ir (x:Ins) (h:x.op=26) (hs:x.s=true) (hc:0≤x.c∧x.c≤7):SW Tryz.prog ⟨none,0⟩ Tryz.f63.ntmps (Tryz.f63.body.getD .skip) ⟨0,ag 0 [(am ae).enc x],[]⟩ (aH Tryz.prog Tryz.f63.results.toList (.ret (au (bx x)))):=by
 rw [Tryz.ntmps63,Tryz.results63]
 simp only [Tryz.f63,Option.getD_some,ag]
 refine az (aa (ctx:=[]) 4000 ?_)
 simp only [go_sem,aJ,ae]
 refine az (aa (ctx:=[]) 4000 ?_)
 simp only [go_sem,aJ]
 refine SW.wk (s':=wr3 x) ?_ ((Wk.nilC 64 11 40 15 (k:=⟨true,68,12,[aw x++[.v (.string emp),.v (.slice none 0 0)]]⟩) rfl rfl rfl).trans (Wk.renL [0,16,64,96] (by simp) (by simp [wr3]) (by decide) rfl rfl))
 refine aa (ctx:=[⟨_,ca⟩,⟨_,bp⟩,⟨_,bZ bh⟩]) 4000 ?_
 obtain ⟨S,hS⟩:∃ S,ak (an x.s) [⟨#[]⟩,(⟨#[115]⟩:ByteArray)]=S:=⟨_,rfl⟩
 have lS:S.size≤1:=by rw [← hS];exact bz (by decide)
 have hS2:sS x=S:=hS
 obtain ⟨P,hP⟩:∃ P,ak x.b [(⟨#[97,100,100]⟩:ByteArray),(⟨#[115,117,98]⟩:ByteArray)]=P:=⟨_,rfl⟩
 have lP:P.size≤3:=by rw [← hP];exact bz (by decide)
 have m1:P.size+S.size≤maxLen:=by unfold maxLen;omega
 have e:bx x=(P++S,[dO x,nsO x,im x]):=by unfold bx;rw [if_neg (by omega),if_neg (by omega),if_pos h,hP,hS2,if_pos hs]
 rw [hs] at hS
 have b24:(x.op==24)=false:=by rw [h];decide
 have b25:(x.op==25)=false:=by rw [h];decide
 have b26:(x.op==26)=true:=by rw [h];decide
 simp only [go_sem,b24,b25,b26,be,aZ,hS,hP,e,hs,m1,hc.1,hc.2,wr3,aw,wrK,ay,bB,aM,bC,aE,aD,bK,bO,bu,aC,aG,bj,aW,aV,bT,bD,aX,aL,ap,aS,bH,gOf,aF,aK,au,bI,bg,aT,jy,eM,iq,gO,iz,jr]
 all_goals rfl
theorem JV (x:Ins) (h:x.op=26) (hs:x.s=false) (hc:0≤x.c∧x.c≤7):SW Tryz.prog ⟨none,0⟩ Tryz.f63.ntmps (Tryz.f63.body.getD .skip) ⟨0,ag 0 [(am ae).enc x],[]⟩ (aH Tryz.prog Tryz.f63.results.toList (.ret (au (bx x)))):=by
 rw [Tryz.ntmps63,Tryz.results63]
 simp only [Tryz.f63,Option.getD_some,ag]
 refine az (aa (ctx:=[]) 4000 ?_)
 simp only [go_sem,aJ,ae]
 refine az (aa (ctx:=[]) 4000 ?_)
 simp only [go_sem,aJ]
 refine SW.wk (s':=wr3 x) ?_ ((Wk.nilC 64 11 40 15 (k:=⟨true,68,12,[aw x++[.v (.string emp),.v (.slice none 0 0)]]⟩) rfl rfl rfl).trans (Wk.renL [0,16,64,96] (by simp) (by simp [wr3]) (by decide) rfl rfl))
 refine aa (ctx:=[⟨_,ca⟩,⟨_,bp⟩,⟨_,bZ bh⟩]) 4000 ?_
 obtain ⟨S,hS⟩:∃ S,ak (an x.s) [⟨#[]⟩,(⟨#[115]⟩:ByteArray)]=S:=⟨_,rfl⟩
 have lS:S.size≤1:=by rw [← hS];exact bz (by decide)
 have hS2:sS x=S:=hS
 obtain ⟨P,hP⟩:∃ P,ak x.b [(⟨#[97,100,100]⟩:ByteArray),(⟨#[115,117,98]⟩:ByteArray)]=P:=⟨_,rfl⟩
 have lP:P.size≤3:=by rw [← hP];exact bz (by decide)
 have m1:P.size+S.size≤maxLen:=by unfold maxLen;omega
 have e:bx x=(P++S,[dsO x,nsO x,im x]):=by unfold bx;rw [if_neg (by omega),if_neg (by omega),if_pos h,hP,hS2,hs];rfl
 rw [hs] at hS
 have b24:(x.op==24)=false:=by rw [h];decide
 have b25:(x.op==25)=false:=by rw [h];decide
 have b26:(x.op==26)=true:=by rw [h];decide
 simp only [go_sem,b24,b25,b26,be,aZ,hS,hP,e,hs,m1,hc.1,hc.2,wr3,aw,wrK,ay,bB,aM,bC,aE,aD,bK,bO,bu,aC,aG,bj,aW,aV,bT,bD,aX,aL,ap,aS,bH,gOf,aF,aK,au,bI,bg,aT,jW,gH,iq,gO,iz,jr]
 all_goals rfl
theorem Mc (x:Ins) (h:x.op=27):SW Tryz.prog ⟨none,0⟩ Tryz.f63.ntmps (Tryz.f63.body.getD .skip) ⟨0,ag 0 [(am ae).enc x],[]⟩ (aH Tryz.prog Tryz.f63.results.toList (.ret (au (bx x)))):=by
 rw [Tryz.ntmps63,Tryz.results63]
 simp only [Tryz.f63,Option.getD_some,ag]
 refine az (aa (ctx:=[]) 4000 ?_)
 simp only [go_sem,aJ,ae]
 refine az (aa (ctx:=[]) 4000 ?_)
 simp only [go_sem,aJ]
 refine SW.wk (s':=wr3 x) ?_ ((Wk.nilC 64 11 40 15 (k:=⟨true,68,12,[aw x++[.v (.string emp),.v (.slice none 0 0)]]⟩) rfl rfl rfl).trans (Wk.renL [0,16,64,96] (by simp) (by simp [wr3]) (by decide) rfl rfl))
 refine aa (ctx:=[⟨_,ca⟩,⟨_,bp⟩,⟨_,bZ bh⟩]) 4000 ?_
 obtain ⟨S,hS⟩:∃ S,ak (an x.s) [⟨#[]⟩,(⟨#[115]⟩:ByteArray)]=S:=⟨_,rfl⟩
 have lS:S.size≤1:=by rw [← hS];exact bz (by decide)
 have hS2:sS x=S:=hS
 obtain ⟨P,hP⟩:∃ P,ak x.b [(⟨#[97,100,99]⟩:ByteArray),(⟨#[115,98,99]⟩:ByteArray)]=P:=⟨_,rfl⟩
 have lP:P.size≤3:=by rw [← hP];exact bz (by decide)
 have m1:P.size+S.size≤maxLen:=by unfold maxLen;omega
 have e:bx x=(P++S,[dO x,nO x,mO x]):=by unfold bx;rw [if_neg (by omega),if_neg (by omega),if_neg (by omega),if_pos h,hP,hS2]
 have b24:(x.op==24)=false:=by rw [h];decide
 have b25:(x.op==25)=false:=by rw [h];decide
 have b26:(x.op==26)=false:=by rw [h];decide
 have b27:(x.op==27)=true:=by rw [h];decide
 simp only [go_sem,b24,b25,b26,b27,be,aZ,hS,hP,e,m1,wr3,aw,wrK,ay,bB,aM,bC,aE,aD,bK,bO,bu,aC,aG,bj,aW,aV,bT,bD,aX,aL,ap,aS,bH,gOf,aF,aK,au,bI,bg,aT,jy,eM,jo,fH,kt,iw]
 all_goals rfl
theorem I5 (x:Ins) (h:x.op=28) (hs:x.s=true):SW Tryz.prog ⟨none,0⟩ Tryz.f63.ntmps (Tryz.f63.body.getD .skip) ⟨0,ag 0 [(am ae).enc x],[]⟩ (aH Tryz.prog Tryz.f63.results.toList (.ret (au (bx x)))):=by
 rw [Tryz.ntmps63,Tryz.results63]
 simp only [Tryz.f63,Option.getD_some,ag]
 refine az (aa (ctx:=[]) 4000 ?_)
 simp only [go_sem,aJ,ae]
 refine az (aa (ctx:=[]) 4000 ?_)
 simp only [go_sem,aJ]
 refine SW.wk (s':=wr3 x) ?_ ((Wk.nilC 64 11 40 15 (k:=⟨true,68,12,[aw x++[.v (.string emp),.v (.slice none 0 0)]]⟩) rfl rfl rfl).trans (Wk.renL [0,16,64,96] (by simp) (by simp [wr3]) (by decide) rfl rfl))
 refine aa (ctx:=[⟨_,ca⟩,⟨_,bp⟩,⟨_,bZ bh⟩,⟨_,ji⟩,⟨_,ofS⟩,⟨_,dV⟩,⟨_,Bc⟩]) 4000 ?_
 obtain ⟨S,hS⟩:∃ S,ak (an x.s) [⟨#[]⟩,(⟨#[115]⟩:ByteArray)]=S:=⟨_,rfl⟩
 have lS:S.size≤1:=by rw [← hS];exact bz (by decide)
 have hS2:sS x=S:=hS
 obtain ⟨P,hP⟩:∃ P,ak x.b [(⟨#[99,99,109,110]⟩:ByteArray),(⟨#[99,99,109,112]⟩:ByteArray)]=P:=⟨_,rfl⟩
 have e:bx x=(P,[nO x,aB x.rm,aB x.a,oOf 4 x.c]):=by unfold bx;rw [if_neg (by omega),if_neg (by omega),if_neg (by omega),if_neg (by omega),hP,hs];rfl
 have b24:(x.op==24)=false:=by rw [h];decide
 have b25:(x.op==25)=false:=by rw [h];decide
 have b26:(x.op==26)=false:=by rw [h];decide
 have b27:(x.op==27)=false:=by rw [h];decide
 simp only [go_sem,b24,b25,b26,b27,be,aZ,hS,hP,e,hs,wr3,aw,wrK,ay,bB,aM,bC,aE,aD,bK,bO,bu,aC,aG,bj,aW,aV,bT,bD,aX,aL,ap,aS,bH,gOf,aF,aK,au,bI,bg,aT,jo,fH,dc,da,dR,dQ,bE,bF,xD,xF,cp,xwT,xw0,bk,opV,aB,oOf,nO,mO,ab,op0,r0,opR,opE,emp,opL,bX,ofD,cB]
 all_goals rfl
theorem KT (x:Ins) (h:x.op=28) (hs:x.s=false):SW Tryz.prog ⟨none,0⟩ Tryz.f63.ntmps (Tryz.f63.body.getD .skip) ⟨0,ag 0 [(am ae).enc x],[]⟩ (aH Tryz.prog Tryz.f63.results.toList (.ret (au (bx x)))):=by
 rw [Tryz.ntmps63,Tryz.results63]
 simp only [Tryz.f63,Option.getD_some,ag]
 refine az (aa (ctx:=[]) 4000 ?_)
 simp only [go_sem,aJ,ae]
 refine az (aa (ctx:=[]) 4000 ?_)
 simp only [go_sem,aJ]
 refine SW.wk (s':=wr3 x) ?_ ((Wk.nilC 64 11 40 15 (k:=⟨true,68,12,[aw x++[.v (.string emp),.v (.slice none 0 0)]]⟩) rfl rfl rfl).trans (Wk.renL [0,16,64,96] (by simp) (by simp [wr3]) (by decide) rfl rfl))
 refine aa (ctx:=[⟨_,ca⟩,⟨_,bp⟩,⟨_,bZ bh⟩,⟨_,ji⟩,⟨_,ofS⟩,⟨_,dV⟩,⟨_,Bc⟩]) 4000 ?_
 obtain ⟨S,hS⟩:∃ S,ak (an x.s) [⟨#[]⟩,(⟨#[115]⟩:ByteArray)]=S:=⟨_,rfl⟩
 have lS:S.size≤1:=by rw [← hS];exact bz (by decide)
 have hS2:sS x=S:=hS
 obtain ⟨P,hP⟩:∃ P,ak x.b [(⟨#[99,99,109,110]⟩:ByteArray),(⟨#[99,99,109,112]⟩:ByteArray)]=P:=⟨_,rfl⟩
 have e:bx x=(P,[nO x,mO x,aB x.a,oOf 4 x.c]):=by unfold bx;rw [if_neg (by omega),if_neg (by omega),if_neg (by omega),if_neg (by omega),hP,hs];rfl
 have b24:(x.op==24)=false:=by rw [h];decide
 have b25:(x.op==25)=false:=by rw [h];decide
 have b26:(x.op==26)=false:=by rw [h];decide
 have b27:(x.op==27)=false:=by rw [h];decide
 simp only [go_sem,b24,b25,b26,b27,be,aZ,hS,hP,e,hs,wr3,aw,wrK,ay,bB,aM,bC,aE,aD,bK,bO,bu,aC,aG,bj,aW,aV,bT,bD,aX,aL,ap,aS,bH,gOf,aF,aK,au,bI,bg,aT,jo,fH,dc,da,dR,dQ,bE,bF,xD,xF,cp,xwT,xw0,bk,opV,aB,oOf,nO,mO,ab,op0,r0,opR,opE,emp,opL,bX,ofD,cB]
 all_goals rfl
def DB (x:Ins):Prop:=24≤x.op∧x.op≤28∧(x.op=24→0≤x.b∧x.b≤3)∧(x.op≤26→0≤x.c∧x.c≤7)
theorem GW (x:Ins) (hq:DB x):SW Tryz.prog ⟨none,0⟩ Tryz.f63.ntmps (Tryz.f63.body.getD .skip) ⟨0,ag 0 [(am ae).enc x],[]⟩ (aH Tryz.prog Tryz.f63.results.toList (.ret (au (bx x)))):=by
 obtain ⟨h1,h2,h3,h4⟩:=hq
 have:x.op=24∨x.op=25∨x.op=26∨x.op=27∨x.op=28:=by omega
 rcases this with h | h | h | h | h
 ·exact N2 x h (h3 h) (h4 (by omega))
 ·exact Lp x h (h4 (by omega))
 ·cases hs:x.s
  ·exact JV x h hs (h4 (by omega))
  ·exact Ir x h hs (h4 (by omega))
 ·exact Mc x h
 ·cases hs:x.s
  ·exact KT x h hs
  ·exact I5 x h hs
def Cr:aQ Tryz.prog 63 :=
 mk1 _ _ _ Tryz.func63 rfl (fun _ _=>by go_simp) (am ae) (DB) ((fun x=>.ret (au (bx x)))) (by rw [Tryz.ntmps63];decide) (fun x h=>GW x h)
theorem CY {id:Nat} {h:ah} {args:List AV}:(Cr).run id h args=bm (av (am ae) (DB)) ((fun x=>.ret (au (bx x)))) h args:=rfl
theorem Bx {id:Nat} {h:ah} {args:List AV}:(Cr).pan id h args=bt (av (am ae) (DB)) ((fun x=>.ret (au (bx x)))) h args:=rfl
end
section
open Go.RowKit
def kS:kx (ByteArray×Int) where
 dec:=fun | [.v (.string s),.v (.int .i64 n)]=>some (s,n) | _=>none
 enc:=fun r=>[.v (.string r.1),.v (.int .i64 r.2)]
 inv:=by
  intro c x h
  split at h
  ·injection h with h;subst h;rfl
  ·cases h
 back:=by intro x;rfl
abbrev kh (l:List (ByteArray×Int)):AV:=.s (.l (.d (.sd 2 (l.map kS.enc))))
theorem BE:SW Tryz.prog ⟨none,0⟩ Tryz.f182.ntmps (Tryz.f182.body.getD .skip) ⟨0,[],[]⟩ (aH Tryz.prog Tryz.f182.results.toList (.ret (kh fE))):=by
 refine aa (ctx:=[]) 4000 ?_
 rw [Tryz.ntmps182,Tryz.results182]
 simp only [Tryz.f182,Option.getD_some,ag]
 simp only [go_sem,true_or,or_true,or_false,false_or,fE,kS]
 rfl
def wg:aQ Tryz.prog 182 :=
 mk0 _ _ _ Tryz.func182 rfl (fun _ _=>by go_simp) (True) ((.ret (kh fE))) (fun _=>BE)
theorem yH {id:Nat} {h:ah} {args:List AV}:(wg).run id h args=bm (kr (True)) (fun _=>(.ret (kh fE))) h args:=rfl
theorem Ak {id:Nat} {h:ah} {args:List AV}:(wg).pan id h args=bt (kr (True)) (fun _=>(.ret (kh fE))) h args:=rfl
def wq:aQ Tryz.prog 163 :=
 mk1 _ _ _ Tryz.func163 rfl (fun _ _=>by go_simp) (ar .i64) ((fun k=>k=2)) ((fun _=>.ret (kh fE))) (by rw [Tryz.ntmps163];decide) (fun k h=>by
 subst h
 refine aa (ctx:=[⟨_,wg⟩]) 4000 ?_
 rw [Tryz.ntmps163,Tryz.results163]
 simp only [Tryz.f163,Option.getD_some,ag]
 simp only [go_sem,yH,Ak,true_or,or_true,or_false,false_or])
theorem An {id:Nat} {h:ah} {args:List AV}:(wq).run id h args=bm (av (ar .i64) ((fun k=>k=2))) ((fun _=>.ret (kh fE))) h args:=rfl
theorem zW {id:Nat} {h:ah} {args:List AV}:(wq).pan id h args=bt (av (ar .i64) ((fun k=>k=2))) ((fun _=>.ret (kh fE))) h args:=rfl
def nmI (n:Int) (i:Nat):St:=⟨0,[(0,iv 2),(1,iv n),(22,kh fE),(23,iv 16),(24,iv i)],[]⟩
theorem qp:fE.length=16:=rfl
theorem Fe (n:Int):SW Tryz.prog ⟨none,0⟩ Tryz.f117.ntmps (Tryz.f117.body.getD .skip) ⟨0,ag 0 [(ar .i64).enc 2,(ar .i64).enc n],[]⟩ (aH Tryz.prog Tryz.f117.results.toList (.ret (dy (dn 2 n)))):=by
 refine aa (ctx:=[⟨_,wq⟩]) 4000 ?_
 rw [Tryz.ntmps117,Tryz.results117]
 simp only [Tryz.f117,Option.getD_some,ag]
 simp only [go_sem,An,zW,List.length_map,qp,fE]
 refine cM (ι:=Nat) (fun i=>i≤16∧∀ (j:Nat) (r:ByteArray×Int),j<i→fE[j]? = some r→¬r.2=n) (nmI n) (fun i=>16-i) 0 ⟨Nat.zero_le _,fun j r hj=>absurd hj (Nat.not_lt_zero j)⟩ (Wk.renL [] (by simp) (by simp) (by simp) rfl rfl) ?_
 rintro i ⟨hi,hn⟩
 refine aa (ctx:=[]) 4000 ?_
 obtain ⟨l,hl⟩:∃ l,fE=l:=⟨_,rfl⟩
 have hlen:l.length=16:=by rw [← hl];rfl
 unfold nmI
 rw [hl] at hn ⊢
 rcases Nat.lt_or_ge i 16 with hlt | hge
 ·have hltI:(i:Int)<16:=by omega
  obtain ⟨r,hr⟩:∃ r,l[i]? = some r:=⟨_,List.getElem?_eq_getElem (by omega)⟩
  have ei:IntKind.i64.wrap ((i:Int)+1)=((i+1:Nat):Int):=by rw [IntKind.wrap_i64];omega
  by_cases hrn:r.2=n
  ·have er:dn 2 n=(r.1,0):=by
    have:=p9 (by rw [← hl] at hn;exact hn) (by rw [← hl] at hr;exact hr) hrn
    unfold dn yC
    rw [if_neg (by decide),if_pos rfl,this]
   have hb:(r.2==n)=true:=by simpa using hrn
   simp only [go_sem,hltI,hr,kS,hb,er,dy,hlen,List.length_map,List.getElem?_map]
  ·have hb:(r.2==n)=false:=by simpa using hrn
   simp only [go_sem,hltI,hr,kS,hb,ei,hlen,List.length_map,List.getElem?_map]
   refine ⟨i+1,⟨hlt,fun j r' hj hr'=>?_⟩,by omega,Wk.renL [] (by simp) (by simp) (by simp) rfl rfl⟩
   by_cases e2:j=i
   ·subst e2
    rw [hr] at hr'
    injection hr' with hr'
    rw [← hr']
    exact hrn
   ·exact hn j r' (by omega) hr'
 ·obtain rfl:i=16:=by omega
  have er:dn 2 n=(emp,30):=by
   have:=nn (by rw [← hl,qp] at *;exact hn)
   unfold dn yC
   rw [if_neg (by decide),if_pos rfl,this]
   rfl
  simp only [go_sem,er,dy,emp]
def BM:aQ Tryz.prog 117 :=
 mk2 _ _ _ Tryz.func117 rfl (fun _ _=>by go_simp) (ar .i64) (ar .i64) ((fun k _=>k=2)) ((fun k n=>.ret (dy (dn 2 n)))) (by rw [Tryz.ntmps117];decide) (fun k n h=>by
 subst h
 exact Fe n)
theorem CV {id:Nat} {h:ah} {args:List AV}:(BM).run id h args=bm (cq (ar .i64) (ar .i64) ((fun k _=>k=2))) (fun x=>((fun k n=>.ret (dy (dn 2 n)))) x.1 x.2) h args:=rfl
theorem AJ {id:Nat} {h:ah} {args:List AV}:(BM).pan id h args=bt (cq (ar .i64) (ar .i64) ((fun k _=>k=2))) (fun x=>((fun k n=>.ret (dy (dn 2 n)))) x.1 x.2) h args:=rfl
section
variable {P:Program}
def orS {f:FuncId} (p:List AV→Bool) (a b:aQ P f):aQ P f where
 enter:=a.enter
 run:=fun id h args=>if p args then a.run id h args else b.run id h args
 pan:=fun _ _ _=>none
 mono:=by
  intro id h h' args R hs hr
  by_cases e:p args=true
  ·rw [if_pos e] at hr ⊢;exact a.mono hs hr
  ·rw [if_neg e] at hr ⊢;exact b.mono hs hr
 sound:=by
  intro id h args R hr
  by_cases e:p args=true
  ·rw [if_pos e] at hr;exact a.sound hr
  ·rw [if_neg e] at hr;exact b.sound hr
 psound:=by
  intro id h args ob y E hr
  cases hr
end
def r9:List AV→Bool
 | [_,_,.s (.l (.v (.slice none 0 0)))]=>true
 | _=>false
def fz (h:ah):List AV→Option (Prop×List Nat×(ByteArray×(Ins×ByteArray×List OpV)))
 | [A,.s (.l (.v (.string nm))),.s (.l (.v (.slice none 0 0)))]=>match aX h A with
  | some ([b,tb],x,nm0,l)=>some (True,[b,tb],(nm,(x,nm0,l)))
  | _=>none
 | _=>none
theorem tX {h:ah} {zs:List AV} {q:Prop} {bs:List Nat} {nm:ByteArray} {x:Ins} {nm0:ByteArray} {l:List OpV} (hd:fz h zs=some (q,bs,nm,x,nm0,l)) :
  ∃ b tb,zs=[.s (.l (.p b 0 0)),sv nm,.s (.l (.v (.slice none 0 0)))]∧bs=[b,tb]∧b≠tb∧hget h b=some (wrK x nm0 l.length tb)∧hget h tb=some (ay l):=by
 unfold fz at hd
 split at hd
 case h_2=>cases hd
 rename_i A nm'
 split at hd
 case h_2=>cases hd
 rename_i b tb x' nm0' l' hw
 simp only [Option.some.injEq,Prod.mk.injEq] at hd
 obtain ⟨rfl,rfl,rfl,rfl,rfl,rfl⟩:=hd
 obtain ⟨b2,tb2,rfl,e,hne,g1,g2⟩:=iO hw
 simp only [List.cons.injEq,and_true] at e
 obtain ⟨rfl,rfl⟩:=e
 exact ⟨b,tb,rfl,rfl,hne,g1,g2⟩
theorem wt {h h':ah} (hs:∀ b k,hget h b=some k→hget h' b=some k) {zs:List AV} {r:Prop×List Nat×(ByteArray×(Ins×ByteArray×List OpV))} (hd:fz h zs=some r):fz h' zs=some r:=by
 unfold fz at hd ⊢
 split at hd
 case h_2=>cases hd
 split at hd
 case h_2=>cases hd
 rename_i hw
 simp only [fT hs hw]
 exact hd
def ij (y:ByteArray×(Ins×ByteArray×List OpV)):RO :=
 .ret (.s (.agg [.v (.string y.1),.sl 1 0 y.2.2.2.length])) [some (wrK y.2.1 y.1 y.2.2.2.length 1)] [ay y.2.2.2]
def kP:aQ Tryz.prog 48 :=
 mkQ 1 2 (by decide) _ _ _ Tryz.func48 rfl rM fz (fun y=>[.s (.l (.p 0 0 0)),sv y.1,.s (.l (.v (.slice none 0 0)))]) (fun y=>[wrK y.2.1 y.2.2.1 y.2.2.2.length 1,ay y.2.2.2]) ij (by rw [Tryz.ntmps48];decide) (fun hs hd=>wt hs hd)
  (by
   intro h zs q' bs y hd hq
   obtain ⟨nm,x,nm0,l⟩:=y
   obtain ⟨b,tb,rfl,rfl,n1,h1,h2⟩:=tX hd
   refine ⟨by rw [Tryz.ntmps48];show 3≤27;decide,rfl,rfl,by simp [n1],fun d=>⟨?_,?_⟩⟩
   ·intro j b' k hj hk
    match j,hj,hk with
    | 0,hj,hk =>
     simp at hj hk
     subst hj
     subst hk
     exact ⟨rfl,by rw [h1,g9];rfl⟩
    | 1,hj,hk =>
     simp at hj hk
     subst hj
     subst hk
     exact ⟨rfl,by rw [h2,dH]⟩
   ·intro ρ al vals hA
    match vals,hA with
    | [v,w,u],⟨a,b,c,_⟩=>exact ⟨a,b,c,trivial⟩)
  (by
   intro h zs q' bs y hd hq
   obtain ⟨nm,x,nm0,l⟩:=y
   obtain ⟨b,tb,rfl,rfl,n1,h1,h2⟩:=tX hd
   refine SW.wk (wX [] x nm0 nm l trivial (by decide)) ?_
   refine (Wk.nil 2 1 1 rfl).trans (Wk.renL [0,1,2] (pE [1,2]) (Nat.le_refl 3) (by decide) rfl ?_)
   simp [cn,dC,hget,Blk.ren,wrK,aw,ay,opL,opE,bX,ofD,fB,LV.ren,Function.comp_def])
theorem gC {id:Nat} {h:ah} {args:List AV}:kP.run id h args=bT 1 fz ij id h args:=rfl
def kz (T:eP):aQ Tryz.prog 48:=orS r9 kP (bZ T)
theorem iT {T:eP} {id:Nat} {h:ah} {args:List AV}:(kz T).run id h args=if r9 args then bT 1 fz ij id h args else bT 1 (bD T) bH id h args:=rfl
theorem iF {T:eP} {id:Nat} {h:ah} {args:List AV}:(kz T).pan id h args=none:=rfl
theorem iD {A B:AV} {b i n:Nat}:r9 [A,B,.s (.l (.sl b i n))]=false:=rfl
theorem gT {A B:AV}:r9 [A,B,.s (.l (.v (.slice none 0 0)))]=true:=rfl
end
end Go.Proofs.YtpjlafmhoifkmaaGreat
