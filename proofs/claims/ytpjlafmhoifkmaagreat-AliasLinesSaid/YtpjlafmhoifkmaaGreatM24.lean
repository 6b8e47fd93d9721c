import Derived.Test.YtpjlafmhoifkmaaGreatM23
import Derived.Test.YtpjlafmhoifkmaaGreatM17
set_option linter.unusedVariables false
set_option linter.unusedSimpArgs false
set_option maxRecDepth 100000
set_option maxHeartbeats 8000000
namespace Go.Proofs.YtpjlafmhoifkmaaGreat
section
open Go.RowKit
def bG:gQ where
 at_:=fun g=>if g=113 then some mK else if g=114 then some lO else if g=118 then some oC else cC.at_ g
 ok:=by
  intro g st h
  split at h
  ·injection h with h;subst h;rename_i e;rw [e];rfl
  ·split at h
   ·injection h with h;subst h;rename_i e;rw [e];rfl
   ·split at h
    ·injection h with h;subst h;rename_i e;rw [e];rfl
    ·exact cC.ok h
theorem lD:bG.at_ 113=some mK:=rfl
theorem kz:bG.at_ 114=some lO:=rfl
theorem nC:bG.at_ 118=some oC:=rfl
theorem my:bG.at_ 49=some gS:=rfl
theorem lI:bG.at_ 50=some iO:=rfl
theorem ng:bG.at_ 56=some kF:=rfl
theorem mw:bG.at_ 107=some jZ:=rfl
theorem kD:bG.at_ 104=some jN:=rfl
theorem uB:bG.at_ 120=some oN:=rfl
theorem jD:bG.at_ 51=some fA:=rfl
theorem AA (x:Ins) (a b c:OpV):∃ M,cK x [a,b,c]=[a,b,M]:=by
 unfold cK
 split
 ·exact ⟨c,rfl⟩
 ·exact ⟨_,rfl⟩
theorem Kj (q:Bool):0≤aU q∧aU q≤1:=by cases q<;>decide
theorem Q6 (x:Ins) (h:x.op=24) (hb:0≤x.b∧x.b≤3) (hc:0≤x.c∧x.c≤7):SW Tryz.prog ⟨none,0⟩ Tryz.f63.ntmps (Tryz.f63.body.getD .skip) ⟨0,ag 0 [(ai ac).enc x],[]⟩ (ax Tryz.prog Tryz.f63.results.toList (.ret (aj (bP x)))):=by
 rw [Tryz.ntmps63,Tryz.results63]
 simp only [Tryz.f63,Option.getD_some,ag]
 refine aE (aa (ctx:=[]) 4000 ?_)
 simp only [go_sem,aS,ac]
 refine aE (aa (ctx:=[]) 4000 ?_)
 simp only [go_sem,aS]
 refine SW.wk (s':=wr3 x) ?_ ((Wk.nilC 64 11 40 15 (k:=⟨true,68,12,[az x++[.v (.string emp),.v (.slice none 0 0)]]⟩) rfl rfl rfl).trans (Wk.renL [0,16,64,96] (by simp) (by simp [wr3]) (by decide) rfl rfl))
 refine aa (ctx:=[⟨_,cL⟩,⟨_,bJ⟩]) 4000 ?_
 obtain ⟨S,hS⟩:∃ S,ae (aU x.s) [⟨#[]⟩,(⟨#[115]⟩:ByteArray)]=S:=⟨_,rfl⟩
 have lS:S.size≤1:=by rw [← hS];exact av (by decide)
 have hS2:sS x=S:=hS
 obtain ⟨P,hP⟩:∃ P,ae (2*x.b+aU x.s) [(⟨#[97,110,100]⟩:ByteArray),(⟨#[98,105,99]⟩:ByteArray),(⟨#[111,114,114]⟩:ByteArray),(⟨#[111,114,110]⟩:ByteArray),(⟨#[101,111,114]⟩:ByteArray),(⟨#[101,111,110]⟩:ByteArray),(⟨#[97,110,100,115]⟩:ByteArray),(⟨#[98,105,99,115]⟩:ByteArray)]=P:=⟨_,rfl⟩
 obtain ⟨M,hM⟩:=AA x (dO x) (nO x) (mO x)
 have e:bP x=(P,[dO x,nO x,M]):=by unfold bP;rw [if_pos h,hP,hM]
 have fb:=Kj x.s
 have e1:IntKind.i64.wrap (2*x.b)=2*x.b:=by rw [IntKind.wrap_i64];omega
 have e2:IntKind.i64.wrap (2*x.b+aU x.s)=2*x.b+aU x.s:=by rw [IntKind.wrap_i64];omega
 have b24:(x.op==24)=true:=by rw [h];decide
 simp only [go_sem,wr3,az,wrK,aD,bQ,bD,bE,aL,aK,bU,bW,bu,aC,aH,bm,gOf,hS,b24,aV,bV]
 refine ab (ctx:=[⟨_,cL⟩,⟨_,bJ⟩,⟨_,cI bG⟩]) ak ⟨[19,20],[(9,[292])],[(0,[292]),(10,[292]),(11,[292]),(12,[292]),(13,[292]),(14,[292]),(15,[292]),(16,[292]),(17,[292]),(18,[292])]⟩ (by kernel_rfl) ?_
 simp only [go_sem,bD,bE,e1,e2,hP,e,hM,hc.1,hc.2,az,wrK,aD,bQ,aV,bV,aL,aK,bU,bW,bu,aC,aH,bm,bj,bk,co,bX,bp,aT,aq,aX,ci,gOf,aF,aI,aj,cn,bF,bh,my,lI,ng,lD,gS,iO,kF,mK]
theorem P5 (x:Ins) (h:x.op=25) (hc:0≤x.c∧x.c≤7):SW Tryz.prog ⟨none,0⟩ Tryz.f63.ntmps (Tryz.f63.body.getD .skip) ⟨0,ag 0 [(ai ac).enc x],[]⟩ (ax Tryz.prog Tryz.f63.results.toList (.ret (aj (bP x)))):=by
 rw [Tryz.ntmps63,Tryz.results63]
 simp only [Tryz.f63,Option.getD_some,ag]
 refine aE (aa (ctx:=[]) 4000 ?_)
 simp only [go_sem,aS,ac]
 refine aE (aa (ctx:=[]) 4000 ?_)
 simp only [go_sem,aS]
 refine SW.wk (s':=wr3 x) ?_ ((Wk.nilC 64 11 40 15 (k:=⟨true,68,12,[az x++[.v (.string emp),.v (.slice none 0 0)]]⟩) rfl rfl rfl).trans (Wk.renL [0,16,64,96] (by simp) (by simp [wr3]) (by decide) rfl rfl))
 refine aa (ctx:=[⟨_,cL⟩,⟨_,bJ⟩,⟨_,cI bG⟩]) 4000 ?_
 obtain ⟨S,hS⟩:∃ S,ae (aU x.s) [⟨#[]⟩,(⟨#[115]⟩:ByteArray)]=S:=⟨_,rfl⟩
 have lS:S.size≤1:=by rw [← hS];exact av (by decide)
 have hS2:sS x=S:=hS
 obtain ⟨P,hP⟩:∃ P,ae x.b [(⟨#[97,100,100]⟩:ByteArray),(⟨#[115,117,98]⟩:ByteArray)]=P:=⟨_,rfl⟩
 have lP:P.size≤3:=by rw [← hP];exact av (by decide)
 have m1:P.size+S.size≤maxLen:=by unfold maxLen;omega
 obtain ⟨M,hM⟩:=AA x (dO x) (nO x) (mO x)
 have e:bP x=(P++S,[dO x,nO x,M]):=by unfold bP;rw [if_neg (by omega),if_pos h,hP,hM,hS2]
 have b24:(x.op==24)=false:=by rw [h];decide
 have b25:(x.op==25)=true:=by rw [h];decide
 simp only [go_sem,b24,b25,bD,bE,hS,hP,e,hM,m1,hc.1,hc.2,wr3,az,wrK,aD,bQ,aV,bV,aL,aK,bU,bW,bu,aC,aH,bm,bj,bk,co,bX,bp,aT,aq,aX,ci,gOf,aF,aI,aj,cn,bF,bh,my,gS,lI,iO,ng,kF,lD,mK]
 all_goals rfl
theorem Mt (x:Ins) (h:x.op=26) (hs:x.s=true) (hc:0≤x.c∧x.c≤7):SW Tryz.prog ⟨none,0⟩ Tryz.f63.ntmps (Tryz.f63.body.getD .skip) ⟨0,ag 0 [(ai ac).enc x],[]⟩ (ax Tryz.prog Tryz.f63.results.toList (.ret (aj (bP x)))):=by
 rw [Tryz.ntmps63,Tryz.results63]
 simp only [Tryz.f63,Option.getD_some,ag]
 refine aE (aa (ctx:=[]) 4000 ?_)
 simp only [go_sem,aS,ac]
 refine aE (aa (ctx:=[]) 4000 ?_)
 simp only [go_sem,aS]
 refine SW.wk (s':=wr3 x) ?_ ((Wk.nilC 64 11 40 15 (k:=⟨true,68,12,[az x++[.v (.string emp),.v (.slice none 0 0)]]⟩) rfl rfl rfl).trans (Wk.renL [0,16,64,96] (by simp) (by simp [wr3]) (by decide) rfl rfl))
 refine aa (ctx:=[⟨_,cL⟩,⟨_,bJ⟩,⟨_,cI bG⟩]) 4000 ?_
 obtain ⟨S,hS⟩:∃ S,ae (aU x.s) [⟨#[]⟩,(⟨#[115]⟩:ByteArray)]=S:=⟨_,rfl⟩
 have lS:S.size≤1:=by rw [← hS];exact av (by decide)
 have hS2:sS x=S:=hS
 obtain ⟨P,hP⟩:∃ P,ae x.b [(⟨#[97,100,100]⟩:ByteArray),(⟨#[115,117,98]⟩:ByteArray)]=P:=⟨_,rfl⟩
 have lP:P.size≤3:=by rw [← hP];exact av (by decide)
 have m1:P.size+S.size≤maxLen:=by unfold maxLen;omega
 have e:bP x=(P++S,[dO x,nsO x,dK x]):=by unfold bP;rw [if_neg (by omega),if_neg (by omega),if_pos h,hP,hS2,if_pos hs]
 rw [hs] at hS
 have b24:(x.op==24)=false:=by rw [h];decide
 have b25:(x.op==25)=false:=by rw [h];decide
 have b26:(x.op==26)=true:=by rw [h];decide
 simp only [go_sem,b24,b25,b26,bD,bE,hS,hP,e,hs,m1,hc.1,hc.2,wr3,az,wrK,aD,bQ,aV,bV,aL,aK,bU,bW,bu,aC,aH,bm,bj,bk,co,bX,bp,aT,aq,aX,ci,gOf,aF,aI,aj,cn,bF,bh,my,gS,kD,jN,kz,lO]
 all_goals rfl
theorem Mi (x:Ins) (h:x.op=26) (hs:x.s=false) (hc:0≤x.c∧x.c≤7):SW Tryz.prog ⟨none,0⟩ Tryz.f63.ntmps (Tryz.f63.body.getD .skip) ⟨0,ag 0 [(ai ac).enc x],[]⟩ (ax Tryz.prog Tryz.f63.results.toList (.ret (aj (bP x)))):=by
 rw [Tryz.ntmps63,Tryz.results63]
 simp only [Tryz.f63,Option.getD_some,ag]
 refine aE (aa (ctx:=[]) 4000 ?_)
 simp only [go_sem,aS,ac]
 refine aE (aa (ctx:=[]) 4000 ?_)
 simp only [go_sem,aS]
 refine SW.wk (s':=wr3 x) ?_ ((Wk.nilC 64 11 40 15 (k:=⟨true,68,12,[az x++[.v (.string emp),.v (.slice none 0 0)]]⟩) rfl rfl rfl).trans (Wk.renL [0,16,64,96] (by simp) (by simp [wr3]) (by decide) rfl rfl))
 refine aa (ctx:=[⟨_,cL⟩,⟨_,bJ⟩,⟨_,cI bG⟩]) 4000 ?_
 obtain ⟨S,hS⟩:∃ S,ae (aU x.s) [⟨#[]⟩,(⟨#[115]⟩:ByteArray)]=S:=⟨_,rfl⟩
 have lS:S.size≤1:=by rw [← hS];exact av (by decide)
 have hS2:sS x=S:=hS
 obtain ⟨P,hP⟩:∃ P,ae x.b [(⟨#[97,100,100]⟩:ByteArray),(⟨#[115,117,98]⟩:ByteArray)]=P:=⟨_,rfl⟩
 have lP:P.size≤3:=by rw [← hP];exact av (by decide)
 have m1:P.size+S.size≤maxLen:=by unfold maxLen;omega
 have e:bP x=(P++S,[dsO x,nsO x,dK x]):=by unfold bP;rw [if_neg (by omega),if_neg (by omega),if_pos h,hP,hS2,hs];rfl
 rw [hs] at hS
 have b24:(x.op==24)=false:=by rw [h];decide
 have b25:(x.op==25)=false:=by rw [h];decide
 have b26:(x.op==26)=true:=by rw [h];decide
 simp only [go_sem,b24,b25,b26,bD,bE,hS,hP,e,hs,m1,hc.1,hc.2,wr3,az,wrK,aD,bQ,aV,bV,aL,aK,bU,bW,bu,aC,aH,bm,bj,bk,co,bX,bp,aT,aq,aX,ci,gOf,aF,aI,aj,cn,bF,bh,mw,jZ,kD,jN,kz,lO]
 all_goals rfl
theorem Pz (x:Ins) (h:x.op=27):SW Tryz.prog ⟨none,0⟩ Tryz.f63.ntmps (Tryz.f63.body.getD .skip) ⟨0,ag 0 [(ai ac).enc x],[]⟩ (ax Tryz.prog Tryz.f63.results.toList (.ret (aj (bP x)))):=by
 rw [Tryz.ntmps63,Tryz.results63]
 simp only [Tryz.f63,Option.getD_some,ag]
 refine aE (aa (ctx:=[]) 4000 ?_)
 simp only [go_sem,aS,ac]
 refine aE (aa (ctx:=[]) 4000 ?_)
 simp only [go_sem,aS]
 refine SW.wk (s':=wr3 x) ?_ ((Wk.nilC 64 11 40 15 (k:=⟨true,68,12,[az x++[.v (.string emp),.v (.slice none 0 0)]]⟩) rfl rfl rfl).trans (Wk.renL [0,16,64,96] (by simp) (by simp [wr3]) (by decide) rfl rfl))
 refine aa (ctx:=[⟨_,cL⟩,⟨_,bJ⟩,⟨_,cI bG⟩]) 4000 ?_
 obtain ⟨S,hS⟩:∃ S,ae (aU x.s) [⟨#[]⟩,(⟨#[115]⟩:ByteArray)]=S:=⟨_,rfl⟩
 have lS:S.size≤1:=by rw [← hS];exact av (by decide)
 have hS2:sS x=S:=hS
 obtain ⟨P,hP⟩:∃ P,ae x.b [(⟨#[97,100,99]⟩:ByteArray),(⟨#[115,98,99]⟩:ByteArray)]=P:=⟨_,rfl⟩
 have lP:P.size≤3:=by rw [← hP];exact av (by decide)
 have m1:P.size+S.size≤maxLen:=by unfold maxLen;omega
 have e:bP x=(P++S,[dO x,nO x,mO x]):=by unfold bP;rw [if_neg (by omega),if_neg (by omega),if_neg (by omega),if_pos h,hP,hS2]
 have b24:(x.op==24)=false:=by rw [h];decide
 have b25:(x.op==25)=false:=by rw [h];decide
 have b26:(x.op==26)=false:=by rw [h];decide
 have b27:(x.op==27)=true:=by rw [h];decide
 simp only [go_sem,b24,b25,b26,b27,bD,bE,hS,hP,e,m1,wr3,az,wrK,aD,bQ,aV,bV,aL,aK,bU,bW,bu,aC,aH,bm,bj,bk,co,bX,bp,aT,aq,aX,ci,gOf,aF,aI,aj,cn,bF,bh,my,gS,lI,iO,ng,kF]
 all_goals rfl
theorem Mx (x:Ins) (h:x.op=28) (hs:x.s=true):SW Tryz.prog ⟨none,0⟩ Tryz.f63.ntmps (Tryz.f63.body.getD .skip) ⟨0,ag 0 [(ai ac).enc x],[]⟩ (ax Tryz.prog Tryz.f63.results.toList (.ret (aj (bP x)))):=by
 rw [Tryz.ntmps63,Tryz.results63]
 simp only [Tryz.f63,Option.getD_some,ag]
 refine aE (aa (ctx:=[]) 4000 ?_)
 simp only [go_sem,aS,ac]
 refine aE (aa (ctx:=[]) 4000 ?_)
 simp only [go_sem,aS]
 refine SW.wk (s':=wr3 x) ?_ ((Wk.nilC 64 11 40 15 (k:=⟨true,68,12,[az x++[.v (.string emp),.v (.slice none 0 0)]]⟩) rfl rfl rfl).trans (Wk.renL [0,16,64,96] (by simp) (by simp [wr3]) (by decide) rfl rfl))
 refine aa (ctx:=[⟨_,cL⟩,⟨_,bJ⟩,⟨_,cI bG⟩,⟨_,ly⟩,⟨_,ofS⟩,⟨_,fE⟩,⟨_,Fd⟩]) 4000 ?_
 obtain ⟨S,hS⟩:∃ S,ae (aU x.s) [⟨#[]⟩,(⟨#[115]⟩:ByteArray)]=S:=⟨_,rfl⟩
 have lS:S.size≤1:=by rw [← hS];exact av (by decide)
 have hS2:sS x=S:=hS
 obtain ⟨P,hP⟩:∃ P,ae x.b [(⟨#[99,99,109,110]⟩:ByteArray),(⟨#[99,99,109,112]⟩:ByteArray)]=P:=⟨_,rfl⟩
 have e:bP x=(P,[nO x,aw x.rm,aw x.a,oOf 4 x.c]):=by unfold bP;rw [if_neg (by omega),if_neg (by omega),if_neg (by omega),if_neg (by omega),hP,hs];rfl
 have b24:(x.op==24)=false:=by rw [h];decide
 have b25:(x.op==25)=false:=by rw [h];decide
 have b26:(x.op==26)=false:=by rw [h];decide
 have b27:(x.op==27)=false:=by rw [h];decide
 simp only [go_sem,b24,b25,b26,b27,bD,bE,hS,hP,e,hs,wr3,az,wrK,aD,bQ,aV,bV,aL,aK,bU,bW,bu,aC,aH,bm,bj,bk,co,bX,bp,aT,aq,aX,ci,gOf,aF,aI,aj,cn,bF,bh,lI,iO,d9,ef,fC,fF,ce,ca,Af,At,db,xwT,xw0,bI,opV,aw,oOf,nO,mO,ah,op0,r0,opR,opE,emp,opL,cG,ofD,cy]
 all_goals rfl
theorem LM (x:Ins) (h:x.op=28) (hs:x.s=false):SW Tryz.prog ⟨none,0⟩ Tryz.f63.ntmps (Tryz.f63.body.getD .skip) ⟨0,ag 0 [(ai ac).enc x],[]⟩ (ax Tryz.prog Tryz.f63.results.toList (.ret (aj (bP x)))):=by
 rw [Tryz.ntmps63,Tryz.results63]
 simp only [Tryz.f63,Option.getD_some,ag]
 refine aE (aa (ctx:=[]) 4000 ?_)
 simp only [go_sem,aS,ac]
 refine aE (aa (ctx:=[]) 4000 ?_)
 simp only [go_sem,aS]
 refine SW.wk (s':=wr3 x) ?_ ((Wk.nilC 64 11 40 15 (k:=⟨true,68,12,[az x++[.v (.string emp),.v (.slice none 0 0)]]⟩) rfl rfl rfl).trans (Wk.renL [0,16,64,96] (by simp) (by simp [wr3]) (by decide) rfl rfl))
 refine aa (ctx:=[⟨_,cL⟩,⟨_,bJ⟩,⟨_,cI bG⟩,⟨_,ly⟩,⟨_,ofS⟩,⟨_,fE⟩,⟨_,Fd⟩]) 4000 ?_
 obtain ⟨S,hS⟩:∃ S,ae (aU x.s) [⟨#[]⟩,(⟨#[115]⟩:ByteArray)]=S:=⟨_,rfl⟩
 have lS:S.size≤1:=by rw [← hS];exact av (by decide)
 have hS2:sS x=S:=hS
 obtain ⟨P,hP⟩:∃ P,ae x.b [(⟨#[99,99,109,110]⟩:ByteArray),(⟨#[99,99,109,112]⟩:ByteArray)]=P:=⟨_,rfl⟩
 have e:bP x=(P,[nO x,mO x,aw x.a,oOf 4 x.c]):=by unfold bP;rw [if_neg (by omega),if_neg (by omega),if_neg (by omega),if_neg (by omega),hP,hs];rfl
 have b24:(x.op==24)=false:=by rw [h];decide
 have b25:(x.op==25)=false:=by rw [h];decide
 have b26:(x.op==26)=false:=by rw [h];decide
 have b27:(x.op==27)=false:=by rw [h];decide
 simp only [go_sem,b24,b25,b26,b27,bD,bE,hS,hP,e,hs,wr3,az,wrK,aD,bQ,aV,bV,aL,aK,bU,bW,bu,aC,aH,bm,bj,bk,co,bX,bp,aT,aq,aX,ci,gOf,aF,aI,aj,cn,bF,bh,lI,iO,d9,ef,fC,fF,ce,ca,Af,At,db,xwT,xw0,bI,opV,aw,oOf,nO,mO,ah,op0,r0,opR,opE,emp,opL,cG,ofD,cy]
 all_goals rfl
def GQ (x:Ins):Prop:=24≤x.op∧x.op≤28∧(x.op=24→0≤x.b∧x.b≤3)∧(x.op≤26→0≤x.c∧x.c≤7)
theorem Kl (x:Ins) (hq:GQ x):SW Tryz.prog ⟨none,0⟩ Tryz.f63.ntmps (Tryz.f63.body.getD .skip) ⟨0,ag 0 [(ai ac).enc x],[]⟩ (ax Tryz.prog Tryz.f63.results.toList (.ret (aj (bP x)))):=by
 obtain ⟨h1,h2,h3,h4⟩:=hq
 have:x.op=24∨x.op=25∨x.op=26∨x.op=27∨x.op=28:=by omega
 rcases this with h | h | h | h | h
 ·exact Q6 x h (h3 h) (h4 (by omega))
 ·exact P5 x h (h4 (by omega))
 ·cases hs:x.s
  ·exact Mi x h hs (h4 (by omega))
  ·exact Mt x h hs (h4 (by omega))
 ·exact Pz x h
 ·cases hs:x.s
  ·exact LM x h hs
  ·exact Mx x h hs
def C9:aJ Tryz.prog 63 :=
 mk1 _ _ _ Tryz.func63 rfl (fun _ _=>by go_simp) (ai ac) (GQ) ((fun x=>.ret (aj (bP x)))) (by rw [Tryz.ntmps63];decide) (fun x h=>Kl x h)
theorem Gq {id:Nat} {h:am} {args:List AV}:(C9).run id h args=aY (au (ai ac) (GQ)) ((fun x=>.ret (aj (bP x)))) h args:=rfl
theorem E8 {id:Nat} {h:am} {args:List AV}:(C9).pan id h args=aZ (au (ai ac) (GQ)) ((fun x=>.ret (aj (bP x)))) h args:=rfl
end
section
open Go.RowKit
def i8:nr (ByteArray×Int) where
 dec:=fun | [.v (.string s),.v (.int .i64 n)]=>some (s,n) | _=>none
 enc:=fun r=>[.v (.string r.1),.v (.int .i64 r.2)]
 inv:=by
  intro c x h
  split at h
  ·injection h with h;subst h;rfl
  ·cases h
 back:=by intro x;rfl
abbrev jE (l:List (ByteArray×Int)):AV:=.s (.l (.d (.sd 2 (l.map i8.enc))))
theorem Dg:SW Tryz.prog ⟨none,0⟩ Tryz.f182.ntmps (Tryz.f182.body.getD .skip) ⟨0,[],[]⟩ (ax Tryz.prog Tryz.f182.results.toList (.ret (jE eP))):=by
 refine aa (ctx:=[]) 4000 ?_
 rw [Tryz.ntmps182,Tryz.results182]
 simp only [Tryz.f182,Option.getD_some,ag]
 simp only [go_sem,true_or,or_true,or_false,false_or,eP,i8]
 rfl
def xO:aJ Tryz.prog 182 :=
 mk0 _ _ _ Tryz.func182 rfl (fun _ _=>by go_simp) (True) ((.ret (jE eP))) (fun _=>Dg)
theorem B5 {id:Nat} {h:am} {args:List AV}:(xO).run id h args=aY (nl (True)) (fun _=>(.ret (jE eP))) h args:=rfl
theorem AL {id:Nat} {h:am} {args:List AV}:(xO).pan id h args=aZ (nl (True)) (fun _=>(.ret (jE eP))) h args:=rfl
def zG:aJ Tryz.prog 163 :=
 mk1 _ _ _ Tryz.func163 rfl (fun _ _=>by go_simp) (ao .i64) ((fun k=>k=2)) ((fun _=>.ret (jE eP))) (by rw [Tryz.ntmps163];decide) (fun k h=>by
 subst h
 refine aa (ctx:=[⟨_,xO⟩]) 4000 ?_
 rw [Tryz.ntmps163,Tryz.results163]
 simp only [Tryz.f163,Option.getD_some,ag]
 simp only [go_sem,B5,AL,true_or,or_true,or_false,false_or])
theorem AO {id:Nat} {h:am} {args:List AV}:(zG).run id h args=aY (au (ao .i64) ((fun k=>k=2))) ((fun _=>.ret (jE eP))) h args:=rfl
theorem A9 {id:Nat} {h:am} {args:List AV}:(zG).pan id h args=aZ (au (ao .i64) ((fun k=>k=2))) ((fun _=>.ret (jE eP))) h args:=rfl
def nmI (n:Int) (i:Nat):St:=⟨0,[(0,iv 2),(1,iv n),(22,jE eP),(23,iv 16),(24,iv i)],[]⟩
theorem mS:eP.length=16:=rfl
theorem Jv (n:Int):SW Tryz.prog ⟨none,0⟩ Tryz.f117.ntmps (Tryz.f117.body.getD .skip) ⟨0,ag 0 [(ao .i64).enc 2,(ao .i64).enc n],[]⟩ (ax Tryz.prog Tryz.f117.results.toList (.ret (cf (cV 2 n)))):=by
 refine aa (ctx:=[⟨_,zG⟩]) 4000 ?_
 rw [Tryz.ntmps117,Tryz.results117]
 simp only [Tryz.f117,Option.getD_some,ag]
 simp only [go_sem,AO,A9,List.length_map,mS,eP]
 refine cM (ι:=Nat) (fun i=>i≤16∧∀ (j:Nat) (r:ByteArray×Int),j<i→eP[j]? = some r→¬r.2=n) (nmI n) (fun i=>16-i) 0 ⟨Nat.zero_le _,fun j r hj=>absurd hj (Nat.not_lt_zero j)⟩ (Wk.renL [] (by simp) (by simp) (by simp) rfl rfl) ?_
 rintro i ⟨hi,hn⟩
 refine aa (ctx:=[]) 4000 ?_
 obtain ⟨l,hl⟩:∃ l,eP=l:=⟨_,rfl⟩
 have hlen:l.length=16:=by rw [← hl];rfl
 unfold nmI
 rw [hl] at hn ⊢
 rcases Nat.lt_or_ge i 16 with hlt | hge
 ·have hltI:(i:Int)<16:=by omega
  obtain ⟨r,hr⟩:∃ r,l[i]? = some r:=⟨_,List.getElem?_eq_getElem (by omega)⟩
  have ei:IntKind.i64.wrap ((i:Int)+1)=((i+1:Nat):Int):=by rw [IntKind.wrap_i64];omega
  by_cases hrn:r.2=n
  ·have er:cV 2 n=(r.1,0):=by
    have:=mM (by rw [← hl] at hn;exact hn) (by rw [← hl] at hr;exact hr) hrn
    unfold cV sE
    rw [if_neg (by decide),if_pos rfl,this]
   have hb:(r.2==n)=true:=by simpa using hrn
   simp only [go_sem,hltI,hr,i8,hb,er,cf,hlen,List.length_map,List.getElem?_map]
  ·have hb:(r.2==n)=false:=by simpa using hrn
   simp only [go_sem,hltI,hr,i8,hb,ei,hlen,List.length_map,List.getElem?_map]
   refine ⟨i+1,⟨hlt,fun j r' hj hr'=>?_⟩,by omega,Wk.renL [] (by simp) (by simp) (by simp) rfl rfl⟩
   by_cases e2:j=i
   ·subst e2
    rw [hr] at hr'
    injection hr' with hr'
    rw [← hr']
    exact hrn
   ·exact hn j r' (by omega) hr'
 ·obtain rfl:i=16:=by omega
  have er:cV 2 n=(emp,30):=by
   have:=kt (by rw [← hl,mS] at *;exact hn)
   unfold cV sE
   rw [if_neg (by decide),if_pos rfl,this]
   rfl
  simp only [go_sem,er,cf,emp]
def Dz:aJ Tryz.prog 117 :=
 mk2 _ _ _ Tryz.func117 rfl (fun _ _=>by go_simp) (ao .i64) (ao .i64) ((fun k _=>k=2)) ((fun k n=>.ret (cf (cV 2 n)))) (by rw [Tryz.ntmps117];decide) (fun k n h=>by
 subst h
 exact Jv n)
theorem GK {id:Nat} {h:am} {args:List AV}:(Dz).run id h args=aY (bT (ao .i64) (ao .i64) ((fun k _=>k=2))) (fun x=>((fun k n=>.ret (cf (cV 2 n)))) x.1 x.2) h args:=rfl
theorem Fa {id:Nat} {h:am} {args:List AV}:(Dz).pan id h args=aZ (bT (ao .i64) (ao .i64) ((fun k _=>k=2))) (fun x=>((fun k n=>.ret (cf (cV 2 n)))) x.1 x.2) h args:=rfl
section
variable {P:Program}
def orS {f:FuncId} (p:List AV→Bool) (a b:aJ P f):aJ P f where
 enter:=a.enter
 run:=fun id h args=>if p args then a.run id h args else b.run id h args
 pan:=fun _ _ _=>none
 mono:=by
  intro id h h' args R hs hr
  by_cases e:p args=true
  ·rw [if_pos e] at hr ⊢;exact a.mono hs hr
  ·rw [if_neg e] at hr ⊢;exact b.mono hs hr
 sound:=by
  intro id h args R hr
  by_cases e:p args=true
  ·rw [if_pos e] at hr;exact a.sound hr
  ·rw [if_neg e] at hr;exact b.sound hr
 psound:=by
  intro id h args ob y E hr
  cases hr
end
def uk:List AV→Bool
 | [_,_,.s (.l (.v (.slice none 0 0)))]=>true
 | _=>false
def iP (h:am):List AV→Option (Prop×List Nat×(ByteArray×(Ins×ByteArray×List OpV)))
 | [A,.s (.l (.v (.string nm))),.s (.l (.v (.slice none 0 0)))]=>match bp h A with
  | some ([b,tb],x,nm0,l)=>some (True,[b,tb],(nm,(x,nm0,l)))
  | _=>none
 | _=>none
theorem vk {h:am} {zs:List AV} {q:Prop} {bs:List Nat} {nm:ByteArray} {x:Ins} {nm0:ByteArray} {l:List OpV} (hd:iP h zs=some (q,bs,nm,x,nm0,l)) :
  ∃ b tb,zs=[.s (.l (.p b 0 0)),sv nm,.s (.l (.v (.slice none 0 0)))]∧bs=[b,tb]∧b≠tb∧hget h b=some (wrK x nm0 l.length tb)∧hget h tb=some (aD l):=by
 unfold iP at hd
 split at hd
 case h_2=>cases hd
 rename_i A nm'
 split at hd
 case h_2=>cases hd
 rename_i b tb x' nm0' l' hw
 simp only [Option.some.injEq,Prod.mk.injEq] at hd
 obtain ⟨rfl,rfl,rfl,rfl,rfl,rfl⟩:=hd
 obtain ⟨b2,tb2,rfl,e,hne,g1,g2⟩:=kI hw
 simp only [List.cons.injEq,and_true] at e
 obtain ⟨rfl,rfl⟩:=e
 exact ⟨b,tb,rfl,rfl,hne,g1,g2⟩
theorem zL {h h':am} (hs:∀ b k,hget h b=some k→hget h' b=some k) {zs:List AV} {r:Prop×List Nat×(ByteArray×(Ins×ByteArray×List OpV))} (hd:iP h zs=some r):iP h' zs=some r:=by
 unfold iP at hd ⊢
 split at hd
 case h_2=>cases hd
 split at hd
 case h_2=>cases hd
 rename_i hw
 simp only [jc hs hw]
 exact hd
def kc (y:ByteArray×(Ins×ByteArray×List OpV)):RO :=
 .ret (.s (.agg [.v (.string y.1),.sl 1 0 y.2.2.2.length])) [some (wrK y.2.1 y.1 y.2.2.2.length 1)] [aD y.2.2.2]
def nv:aJ Tryz.prog 48 :=
 mkQ 1 2 (by decide) _ _ _ Tryz.func48 rfl (fun _ _=>by go_simp) iP (fun y=>[.s (.l (.p 0 0 0)),sv y.1,.s (.l (.v (.slice none 0 0)))]) (fun y=>[wrK y.2.1 y.2.2.1 y.2.2.2.length 1,aD y.2.2.2]) kc (by rw [Tryz.ntmps48];decide) (fun hs hd=>zL hs hd)
  (by
   intro h zs q' bs y hd hq
   obtain ⟨nm,x,nm0,l⟩:=y
   obtain ⟨b,tb,rfl,rfl,n1,h1,h2⟩:=vk hd
   refine ⟨by rw [Tryz.ntmps48];show 3≤27;decide,rfl,rfl,by simp [n1],fun d=>⟨?_,?_⟩⟩
   ·intro j b' k hj hk
    match j,hj,hk with
    | 0,hj,hk =>
     simp at hj hk
     subst hj
     subst hk
     exact ⟨rfl,by rw [h1,kl];rfl⟩
    | 1,hj,hk =>
     simp at hj hk
     subst hj
     subst hk
     exact ⟨rfl,by rw [h2,fj]⟩
   ·intro ρ al vals hA
    match vals,hA with
    | [v,w,u],⟨a,b,c,_⟩=>exact ⟨a,b,c,trivial⟩)
  (by
   intro h zs q' bs y hd hq
   obtain ⟨nm,x,nm0,l⟩:=y
   obtain ⟨b,tb,rfl,rfl,n1,h1,h2⟩:=vk hd
   refine SW.wk (Aj [] x nm0 nm l trivial (by decide)) ?_
   refine (Wk.nil 2 1 1 rfl).trans (Wk.renL [0,1,2] (sj [1,2]) (Nat.le_refl 3) (by decide) rfl ?_)
   simp [cX,eL,hget,Blk.ren,wrK,az,aD,opL,opE,cG,ofD,iG,LV.ren,Function.comp_def])
theorem jJ {id:Nat} {h:am} {args:List AV}:nv.run id h args=co 1 iP kc id h args:=rfl
def nY (T:gQ):aJ Tryz.prog 48:=orS uk nv (cI T)
theorem kL {T:gQ} {id:Nat} {h:am} {args:List AV}:(nY T).run id h args=if uk args then co 1 iP kc id h args else co 1 (bX T) ci id h args:=rfl
theorem k9 {T:gQ} {id:Nat} {h:am} {args:List AV}:(nY T).pan id h args=none:=rfl
theorem kP {A B:AV} {b i n:Nat}:uk [A,B,.s (.l (.sl b i n))]=false:=rfl
theorem jW {A B:AV}:uk [A,B,.s (.l (.v (.slice none 0 0)))]=true:=rfl
end
end Go.Proofs.YtpjlafmhoifkmaaGreat
