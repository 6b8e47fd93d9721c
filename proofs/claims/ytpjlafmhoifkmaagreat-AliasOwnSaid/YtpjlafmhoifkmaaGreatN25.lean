import Derived.Test.YtpjlafmhoifkmaaGreatN24
set_option linter.unusedVariables false
set_option linter.unusedSimpArgs false
set_option maxRecDepth 100000
set_option maxHeartbeats 8000000
namespace Go.Proofs.YtpjlafmhoifkmaaGreat
open Go.RowKit
def yD (x:Ins):Prop := -1152921504606846976≤x.a∧x.a≤1152921504606846976
theorem nh {k:Nat}:∀ {l:List (ByteArray×Int)},(∀ r∈l,r.1.size≤k)→∀ {n:Int} {s:ByteArray},gM l n=some s→s.size≤k
 | [],_,_,_,h=>by cases h
 | r::l,hl,n,s,h=>by
  unfold gM at h
  split at h
  ·injection h with h
   rw [← h]
   exact hl r (List.mem_cons_self ..)
  ·exact nh (fun r hr=>hl r (List.mem_cons_of_mem _ hr)) h
theorem yL (n:Int):(dn 2 n).1.size≤2:=by
 unfold dn yC
 rw [if_neg (by decide),if_pos rfl]
 split
 ·rename_i s hs
  exact nh (k:=2) (by decide) hs
 ·rw [if_neg (by omega)]
  exact Nat.zero_le _
theorem br7 (x:Ins) (h:x.op=7) (ha:yD x):SW Tryz.prog ⟨none,0⟩ Tryz.f60.ntmps (Tryz.f60.body.getD .skip) ⟨0,ag 0 [(am ae).enc x],[]⟩ (aH Tryz.prog Tryz.f60.results.toList (.ret (au (brF x)))):=by
 rw [Tryz.ntmps60,Tryz.results60]
 simp only [Tryz.f60,Option.getD_some,ag]
 refine az (aa (ctx:=[]) 4000 ?_)
 simp only [go_sem,aJ,ae]
 refine az (aa (ctx:=[]) 4000 ?_)
 simp only [go_sem,aJ]
 refine SW.wk (s':=wr3 x) ?_ ((Wk.nilC 64 11 40 15 (k:=⟨true,68,12,[aw x++[.v (.string emp),.v (.slice none 0 0)]]⟩) rfl rfl rfl).trans (Wk.renL [0,16,64,96] (by simp) (by simp [wr3]) (by decide) rfl rfl))
 refine aa (ctx:=[⟨_,BM⟩,⟨_,bZ bU⟩]) 4000 ?_
 obtain ⟨C,hC⟩:∃ C,(dn 2 x.b).1=C:=⟨_,rfl⟩
 have lC:C.size≤2:=by rw [← hC];exact yL x.b
 have s2:((⟨#[98,46]⟩:ByteArray)).size=2:=rfl
 have m1:2+C.size≤maxLen:=by unfold maxLen;omega
 have b7:(x.op==7)=true:=by rw [h];decide
 have e:brF x=((⟨#[98,46]⟩:ByteArray)++C,[jB x]):=by unfold brF;rw [if_pos h,hC]
 obtain ⟨ha1,ha2⟩:=ha
 simp only [go_sem,b7,CV,AJ,dy,hC,s2,m1,e,ha1,ha2,aW,aV,wr3,aw,wrK,ay,bB,aM,bC,aE,aD,bK,bO,bu,aC,aG,bj,bT,bD,aX,aL,ap,aS,bH,gOf,aF,aK,au,bI,bg,aT,rr,mj]
theorem br8 (x:Ins) (h:x.op=8) (ha:yD x):SW Tryz.prog ⟨none,0⟩ Tryz.f60.ntmps (Tryz.f60.body.getD .skip) ⟨0,ag 0 [(am ae).enc x],[]⟩ (aH Tryz.prog Tryz.f60.results.toList (.ret (au (brF x)))):=by
 rw [Tryz.ntmps60,Tryz.results60]
 simp only [Tryz.f60,Option.getD_some,ag]
 refine az (aa (ctx:=[]) 4000 ?_)
 simp only [go_sem,aJ,ae]
 refine az (aa (ctx:=[]) 4000 ?_)
 simp only [go_sem,aJ]
 refine SW.wk (s':=wr3 x) ?_ ((Wk.nilC 64 11 40 15 (k:=⟨true,68,12,[aw x++[.v (.string emp),.v (.slice none 0 0)]]⟩) rfl rfl rfl).trans (Wk.renL [0,16,64,96] (by simp) (by simp [wr3]) (by decide) rfl rfl))
 refine aa (ctx:=[⟨_,ca⟩,⟨_,bp⟩,⟨_,bZ bU⟩]) 4000 ?_
 obtain ⟨P,hP⟩:∃ P,ak (an x.s) [(⟨#[98]⟩:ByteArray),(⟨#[98,108]⟩:ByteArray)]=P:=⟨_,rfl⟩
 have b7:(x.op==7)=false:=by rw [h];decide
 have b8:(x.op==8)=true:=by rw [h];decide
 have e:brF x=(P,[jB x]):=by unfold brF;rw [if_neg (by omega),if_pos h,hP]
 obtain ⟨ha1,ha2⟩:=ha
 simp only [go_sem,b7,b8,be,aZ,hP,e,ha1,ha2,aW,aV,wr3,aw,wrK,ay,bB,aM,bC,aE,aD,bK,bO,bu,aC,aG,bj,bT,bD,aX,aL,ap,aS,bH,gOf,aF,aK,au,bI,bg,aT,rr,mj]
theorem br9 (x:Ins) (h:x.op=9) (ha:yD x):SW Tryz.prog ⟨none,0⟩ Tryz.f60.ntmps (Tryz.f60.body.getD .skip) ⟨0,ag 0 [(am ae).enc x],[]⟩ (aH Tryz.prog Tryz.f60.results.toList (.ret (au (brF x)))):=by
 rw [Tryz.ntmps60,Tryz.results60]
 simp only [Tryz.f60,Option.getD_some,ag]
 refine az (aa (ctx:=[]) 4000 ?_)
 simp only [go_sem,aJ,ae]
 refine az (aa (ctx:=[]) 4000 ?_)
 simp only [go_sem,aJ]
 refine SW.wk (s':=wr3 x) ?_ ((Wk.nilC 64 11 40 15 (k:=⟨true,68,12,[aw x++[.v (.string emp),.v (.slice none 0 0)]]⟩) rfl rfl rfl).trans (Wk.renL [0,16,64,96] (by simp) (by simp [wr3]) (by decide) rfl rfl))
 refine aa (ctx:=[⟨_,bp⟩,⟨_,bZ bU⟩]) 4000 ?_
 obtain ⟨P,hP⟩:∃ P,ak x.b [(⟨#[99,98,122]⟩:ByteArray),(⟨#[99,98,110,122]⟩:ByteArray)]=P:=⟨_,rfl⟩
 have b7:(x.op==7)=false:=by rw [h];decide
 have b8:(x.op==8)=false:=by rw [h];decide
 have b9:(x.op==9)=true:=by rw [h];decide
 have e:brF x=(P,[dO x,jB x]):=by unfold brF;rw [if_neg (by omega),if_neg (by omega),if_pos h,hP]
 obtain ⟨ha1,ha2⟩:=ha
 simp only [go_sem,b7,b8,b9,hP,e,ha1,ha2,aW,aV,wr3,aw,wrK,ay,bB,aM,bC,aE,aD,bK,bO,bu,aC,aG,bj,bT,bD,aX,aL,ap,aS,bH,gOf,aF,aK,au,bI,bg,aT,ju,eM,rr,mj]
theorem br10 (x:Ins) (h:x.op=10) (ha:yD x):SW Tryz.prog ⟨none,0⟩ Tryz.f60.ntmps (Tryz.f60.body.getD .skip) ⟨0,ag 0 [(am ae).enc x],[]⟩ (aH Tryz.prog Tryz.f60.results.toList (.ret (au (brF x)))):=by
 rw [Tryz.ntmps60,Tryz.results60]
 simp only [Tryz.f60,Option.getD_some,ag]
 refine az (aa (ctx:=[]) 4000 ?_)
 simp only [go_sem,aJ,ae]
 refine az (aa (ctx:=[]) 4000 ?_)
 simp only [go_sem,aJ]
 refine SW.wk (s':=wr3 x) ?_ ((Wk.nilC 64 11 40 15 (k:=⟨true,68,12,[aw x++[.v (.string emp),.v (.slice none 0 0)]]⟩) rfl rfl rfl).trans (Wk.renL [0,16,64,96] (by simp) (by simp [wr3]) (by decide) rfl rfl))
 refine aa (ctx:=[⟨_,bp⟩,⟨_,kz bU⟩,⟨_,eU⟩,⟨_,ji⟩,⟨_,dV⟩]) 4000 ?_
 obtain ⟨P,hP⟩:∃ P,ak x.b [(⟨#[116,98,122]⟩:ByteArray),(⟨#[116,98,110,122]⟩:ByteArray)]=P:=⟨_,rfl⟩
 have b7:(x.op==7)=false:=by rw [h];decide
 have b8:(x.op==8)=false:=by rw [h];decide
 have b9:(x.op==9)=false:=by rw [h];decide
 have b10:(x.op==10)=true:=by rw [h];decide
 have e:brF x=(P,[ab x.rd (decide (31<x.c)),aB x.c,jB x]):=by unfold brF;rw [if_neg (by omega),if_neg (by omega),if_neg (by omega),if_pos h,hP]
 obtain ⟨ha1,ha2⟩:=ha
 simp only [go_sem,b7,b8,b9,b10,hP,e,ha1,ha2,iT,iF,iD,gT,fz,ij,bM,bL,dc,da,wr3,aw,wrK,ay,bB,aM,bC,aE,aD,bK,bO,bu,aC,aG,bj,bT,bD,aX,aL,ap,aS,bH,gOf,aF,aK,au,bI,bg,aT,rr,mj,bE,bF,cp,xwT,xw0,bk,opV,aB,ab,op0,r0,opR,opE,emp,opL,bX,ofD,cB]
theorem LB (x:Ins) (h:x.op=11) (hb:x.b=4):SW Tryz.prog ⟨none,0⟩ Tryz.f60.ntmps (Tryz.f60.body.getD .skip) ⟨0,ag 0 [(am ae).enc x],[]⟩ (aH Tryz.prog Tryz.f60.results.toList (.ret (au (brF x)))):=by
 rw [Tryz.ntmps60,Tryz.results60]
 simp only [Tryz.f60,Option.getD_some,ag]
 refine az (aa (ctx:=[]) 4000 ?_)
 simp only [go_sem,aJ,ae]
 refine az (aa (ctx:=[]) 4000 ?_)
 simp only [go_sem,aJ]
 refine SW.wk (s':=wr3 x) ?_ ((Wk.nilC 64 11 40 15 (k:=⟨true,68,12,[aw x++[.v (.string emp),.v (.slice none 0 0)]]⟩) rfl rfl rfl).trans (Wk.renL [0,16,64,96] (by simp) (by simp [wr3]) (by decide) rfl rfl))
 refine aa (ctx:=[⟨_,bp⟩,⟨_,kz bU⟩,⟨_,eU⟩,⟨_,dV⟩]) 4000 ?_
 obtain ⟨P,hP⟩:∃ P,ak x.b [(⟨#[98,114]⟩:ByteArray),(⟨#[98,108,114]⟩:ByteArray),(⟨#[114,101,116]⟩:ByteArray),⟨#[]⟩,(⟨#[101,114,101,116]⟩:ByteArray)]=P:=⟨_,rfl⟩
 have b7:(x.op==7)=false:=by rw [h];decide
 have b8:(x.op==8)=false:=by rw [h];decide
 have b9:(x.op==9)=false:=by rw [h];decide
 have b10:(x.op==10)=false:=by rw [h];decide
 have b11:(x.op==11)=true:=by rw [h];decide
 have hP2:ak x.b [(⟨#[98,114]⟩:ByteArray),(⟨#[98,108,114]⟩:ByteArray),(⟨#[114,101,116]⟩:ByteArray),emp,(⟨#[101,114,101,116]⟩:ByteArray)]=P:=hP
 have e:brF x=(P,[]):=by unfold brF;rw [if_neg (by omega),if_neg (by omega),if_neg (by omega),if_neg (by omega),if_pos h,hP2,if_pos hb]
 have bb:(x.b !=4)=false:=by simpa using hb
 simp only [go_sem,b7,b8,b9,b10,b11,bb,hP,e,iT,iF,iD,gT,fz,ij,bM,bL,wr3,aw,wrK,ay,bB,aM,bC,aE,aD,bK,bO,bu,aC,aG,bj,bT,bD,aX,aL,ap,aS,bH,gOf,aF,aK,au,bI,bg,aT,bE,bF,cp,xwT,xw0,bk,opV,aB,ab,op0,r0,opR,opE,emp,opL,bX,ofD,cB]
theorem LN (x:Ins) (h:x.op=11) (hb:¬x.b=4):SW Tryz.prog ⟨none,0⟩ Tryz.f60.ntmps (Tryz.f60.body.getD .skip) ⟨0,ag 0 [(am ae).enc x],[]⟩ (aH Tryz.prog Tryz.f60.results.toList (.ret (au (brF x)))):=by
 rw [Tryz.ntmps60,Tryz.results60]
 simp only [Tryz.f60,Option.getD_some,ag]
 refine az (aa (ctx:=[]) 4000 ?_)
 simp only [go_sem,aJ,ae]
 refine az (aa (ctx:=[]) 4000 ?_)
 simp only [go_sem,aJ]
 refine SW.wk (s':=wr3 x) ?_ ((Wk.nilC 64 11 40 15 (k:=⟨true,68,12,[aw x++[.v (.string emp),.v (.slice none 0 0)]]⟩) rfl rfl rfl).trans (Wk.renL [0,16,64,96] (by simp) (by simp [wr3]) (by decide) rfl rfl))
 refine aa (ctx:=[⟨_,bp⟩,⟨_,kz bU⟩,⟨_,eU⟩,⟨_,dV⟩]) 4000 ?_
 obtain ⟨P,hP⟩:∃ P,ak x.b [(⟨#[98,114]⟩:ByteArray),(⟨#[98,108,114]⟩:ByteArray),(⟨#[114,101,116]⟩:ByteArray),⟨#[]⟩,(⟨#[101,114,101,116]⟩:ByteArray)]=P:=⟨_,rfl⟩
 have b7:(x.op==7)=false:=by rw [h];decide
 have b8:(x.op==8)=false:=by rw [h];decide
 have b9:(x.op==9)=false:=by rw [h];decide
 have b10:(x.op==10)=false:=by rw [h];decide
 have b11:(x.op==11)=true:=by rw [h];decide
 have hP2:ak x.b [(⟨#[98,114]⟩:ByteArray),(⟨#[98,108,114]⟩:ByteArray),(⟨#[114,101,116]⟩:ByteArray),emp,(⟨#[101,114,101,116]⟩:ByteArray)]=P:=hP
 have e:brF x=(P,[ab x.rn true]):=by unfold brF;rw [if_neg (by omega),if_neg (by omega),if_neg (by omega),if_neg (by omega),if_pos h,hP2,if_neg hb]
 have bb:(x.b !=4)=true:=by simpa using hb
 simp only [go_sem,b7,b8,b9,b10,b11,bb,hP,e,iT,iF,iD,gT,fz,ij,bM,bL,wr3,aw,wrK,ay,bB,aM,bC,aE,aD,bK,bO,bu,aC,aG,bj,bT,bD,aX,aL,ap,aS,bH,gOf,aF,aK,au,bI,bg,aT,bE,bF,cp,xwT,xw0,bk,opV,aB,ab,op0,r0,opR,opE,emp,opL,bX,ofD,cB]
theorem br12 (x:Ins) (h:x.op=12):SW Tryz.prog ⟨none,0⟩ Tryz.f60.ntmps (Tryz.f60.body.getD .skip) ⟨0,ag 0 [(am ae).enc x],[]⟩ (aH Tryz.prog Tryz.f60.results.toList (.ret (au (brF x)))):=by
 rw [Tryz.ntmps60,Tryz.results60]
 simp only [Tryz.f60,Option.getD_some,ag]
 refine az (aa (ctx:=[]) 4000 ?_)
 simp only [go_sem,aJ,ae]
 refine az (aa (ctx:=[]) 4000 ?_)
 simp only [go_sem,aJ]
 refine SW.wk (s':=wr3 x) ?_ ((Wk.nilC 64 11 40 15 (k:=⟨true,68,12,[aw x++[.v (.string emp),.v (.slice none 0 0)]]⟩) rfl rfl rfl).trans (Wk.renL [0,16,64,96] (by simp) (by simp [wr3]) (by decide) rfl rfl))
 refine aa (ctx:=[⟨_,bp⟩,⟨_,bZ bU⟩]) 4000 ?_
 obtain ⟨P,hP⟩:∃ P,ak x.b [(⟨#[115,118,99]⟩:ByteArray),(⟨#[104,118,99]⟩:ByteArray),(⟨#[115,109,99]⟩:ByteArray),(⟨#[98,114,107]⟩:ByteArray),(⟨#[104,108,116]⟩:ByteArray),(⟨#[100,99,112,115,49]⟩:ByteArray),(⟨#[100,99,112,115,50]⟩:ByteArray),(⟨#[100,99,112,115,51]⟩:ByteArray)]=P:=⟨_,rfl⟩
 have b7:(x.op==7)=false:=by rw [h];decide
 have b8:(x.op==8)=false:=by rw [h];decide
 have b9:(x.op==9)=false:=by rw [h];decide
 have b10:(x.op==10)=false:=by rw [h];decide
 have b11:(x.op==11)=false:=by rw [h];decide
 have e:brF x=(P,[cF x]):=by unfold brF;rw [if_neg (by omega),if_neg (by omega),if_neg (by omega),if_neg (by omega),if_neg (by omega),hP]
 simp only [go_sem,b7,b8,b9,b10,b11,hP,e,aW,aV,wr3,aw,wrK,ay,bB,aM,bC,aE,aD,bK,bO,bu,aC,aG,bj,bT,bD,aX,aL,ap,aS,bH,gOf,aF,aK,au,bI,bg,aT,jw,dP]
def brQ (x:Ins):Prop:=7≤x.op∧x.op≤12∧(x.op≤10→yD x)
theorem Mg (x:Ins) (h:brQ x):SW Tryz.prog ⟨none,0⟩ Tryz.f60.ntmps (Tryz.f60.body.getD .skip) ⟨0,ag 0 [(am ae).enc x],[]⟩ (aH Tryz.prog Tryz.f60.results.toList (.ret (au (brF x)))):=by
 obtain ⟨h1,h2,h3⟩:=h
 have:x.op=7∨x.op=8∨x.op=9∨x.op=10∨x.op=11∨x.op=12:=by omega
 rcases this with h | h | h | h | h | h
 ·exact br7 x h (h3 (by omega))
 ·exact br8 x h (h3 (by omega))
 ·exact br9 x h (h3 (by omega))
 ·exact br10 x h (h3 (by omega))
 ·by_cases hb:x.b=4
  ·exact LB x h hb
  ·exact LN x h hb
 ·exact br12 x h
def brS:aQ Tryz.prog 60 :=
 mk1 _ _ _ Tryz.func60 rfl (fun _ _=>by go_simp) (am ae) (brQ) ((fun x=>.ret (au (brF x)))) (by rw [Tryz.ntmps60];decide) (fun x h=>Mg x h)
theorem IJ {id:Nat} {h:ah} {args:List AV}:(brS).run id h args=bm (av (am ae) (brQ)) ((fun x=>.ret (au (brF x)))) h args:=rfl
theorem I9 {id:Nat} {h:ah} {args:List AV}:(brS).pan id h args=bt (av (am ae) (brQ)) ((fun x=>.ret (au (brF x)))) h args:=rfl
end Go.Proofs.YtpjlafmhoifkmaaGreat
