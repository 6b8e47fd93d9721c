import Derived.Test.YtpjlafmhoifkmaaGreatN48
set_option linter.unusedVariables false
set_option linter.unusedSimpArgs false
set_option maxRecDepth 100000
set_option maxHeartbeats 8000000
namespace Go.Proofs.YtpjlafmhoifkmaaGreat
section
def mvO (x:Ins) (m:OpV):OpV:=if x.a=0∧x.c=0 then m else cW m (1+x.c) x.a
theorem A8 (x:Ins) (d n m:OpV):bS x [d,n,m]=[d,n,mvO x m]:=by
 unfold bS mvO
 split<;>rfl
theorem qX (x:Ins) (n m:OpV):bS x [n,m]=[n,mvO x m]:=by
 unfold bS mvO
 split<;>rfl
theorem lQ (x:Ins) (r:Int) (w:Bool):(mvO x (ab r w)).kind=1∧(mvO x (ab r w)).r=⟨r,w,false⟩:=by
 unfold mvO
 split<;>exact ⟨rfl,rfl⟩
theorem nE (x:Ins) (r:Int) (w:Bool):(mvO x (ab r w)).amt=x.a:=by
 unfold mvO
 split
 ·rename_i h
  exact h.1.symm
 ·rfl
theorem nW (x:Ins) (r:Int) (w:Bool) (h:0≤x.c):q9 (mvO x (ab r w))=x.c:=by
 unfold mvO
 split
 ·rename_i h1
  exact h1.2.symm
 ·show (if (1+x.c)=0 then (0:Int) else 1+x.c-1)=x.c
  rw [if_neg (by omega)]
  omega
theorem CP (x:Ins) (r:Int) (w:Bool) (h:0≤x.c∧x.c≤3):¬5≤(mvO x (ab r w)).md:=by
 unfold mvO
 split
 ·show ¬(5:Int)≤0;decide
 ·show ¬5≤1+x.c;omega
section
variable {xx ss:Bool} {rd rn rm ra a b c:Int}
theorem L0 (h:0≤b∧b≤3):lkT aR (ak (2*b+an false) [(⟨#[97,110,100]⟩:ByteArray),(⟨#[98,105,99]⟩:ByteArray),(⟨#[111,114,114]⟩:ByteArray),(⟨#[111,114,110]⟩:ByteArray),(⟨#[101,111,114]⟩:ByteArray),(⟨#[101,111,110]⟩:ByteArray),(⟨#[97,110,100,115]⟩:ByteArray),(⟨#[98,105,99,115]⟩:ByteArray)])=(3,b,false):=by
 rcases b4 h with rfl | rfl | rfl | rfl<;>decide +kernel
theorem Lt (h:0≤b∧b≤3):lkT aR (ak (2*b+an true) [(⟨#[97,110,100]⟩:ByteArray),(⟨#[98,105,99]⟩:ByteArray),(⟨#[111,114,114]⟩:ByteArray),(⟨#[111,114,110]⟩:ByteArray),(⟨#[101,111,114]⟩:ByteArray),(⟨#[101,111,110]⟩:ByteArray),(⟨#[97,110,100,115]⟩:ByteArray),(⟨#[98,105,99,115]⟩:ByteArray)])=(19,b,true):=by
 rcases b4 h with rfl | rfl | rfl | rfl<;>decide +kernel
theorem H4 (h:ao ⟨24,xx,ss,rd,rn,rm,ra,a,b,c⟩=0):back (aj ⟨24,xx,ss,rd,rn,rm,ra,a,b,c⟩)=⟨24,xx,ss,rd,rn,rm,ra,a,b,c⟩:=by
 obtain ⟨h1,h2,h3,rfl,h4,h5,h6⟩:=Na h
 have k:=lQ ⟨24,xx,ss,rd,rn,rm,0,a,b,c⟩ rm xx
 have ka:(mvO ⟨24,xx,ss,rd,rn,rm,0,a,b,c⟩ (ab rm xx)).amt=a:=nE _ _ _
 have kc:q9 (mvO ⟨24,xx,ss,rd,rn,rm,0,a,b,c⟩ (ab rm xx))=c:=nW _ _ _ h6.1
 rw [show aj ⟨24,xx,ss,rd,rn,rm,0,a,b,c⟩=(ak (2*b+an ss) [(⟨#[97,110,100]⟩:ByteArray),(⟨#[98,105,99]⟩:ByteArray),(⟨#[111,114,114]⟩:ByteArray),(⟨#[111,114,110]⟩:ByteArray),(⟨#[101,111,114]⟩:ByteArray),(⟨#[101,111,110]⟩:ByteArray),(⟨#[97,110,100,115]⟩:ByteArray),(⟨#[98,105,99,115]⟩:ByteArray)],bS ⟨24,xx,ss,rd,rn,rm,0,a,b,c⟩ [ab rd xx,ab rn xx,ab rm xx]) from rfl,A8]
 cases ss
 ·rw [ai (L0 h5),rg3]
  simp [rd3,lU,k.1,k.2,ka,kc,ab,op0] at k ka kc ⊢
  simp [k,ka,kc]
 ·rw [ai (Lt h5),rg19]
  simp [Ky,lU,ab,op0] at k ka kc ⊢
  simp [k,ka,kc]
theorem MK:lkT aR (⟨#[109,118,110]⟩:ByteArray)=(49,0,false):=by decide +kernel
theorem Jl (h:ao ⟨24,xx,ss,rd,rn,rm,ra,a,b,c⟩=0):back (lnF ⟨24,xx,ss,rd,rn,rm,ra,a,b,c⟩)=⟨24,xx,ss,rd,rn,rm,ra,a,b,c⟩:=by
 have hp:=H4 h
 obtain ⟨h1,h2,h3,rfl,h4,h5,h6⟩:=Na h
 have k:=lQ ⟨24,xx,ss,rd,rn,rm,0,a,b,c⟩ rm xx
 have ka:(mvO ⟨24,xx,ss,rd,rn,rm,0,a,b,c⟩ (ab rm xx)).amt=a:=nE _ _ _
 have kc:q9 (mvO ⟨24,xx,ss,rd,rn,rm,0,a,b,c⟩ (ab rm xx))=c:=nW _ _ _ h6.1
 have A:alA ⟨24,xx,ss,rd,rn,rm,0,a,b,c⟩=eH ⟨24,xx,ss,rd,rn,rm,0,a,b,c⟩:=rfl
 unfold eH at A
 by_cases c1:(b==1&&!ss&&rn==31&&a==0&&c==0)=true
 ·rw [if_pos c1] at A
  simp only [Bool.and_eq_true,beq_iff_eq,Bool.not_eq_true'] at c1
  obtain ⟨⟨⟨⟨rfl,rfl⟩,rfl⟩,rfl⟩,rfl⟩:=c1
  rw [d9 A,ai EI,FG]
  simp [yu,dO,mO,ab,op0]
 rw [if_neg c1] at A
 by_cases c2:(b==1&&ss&&rn==31)=true
 ·rw [if_pos c2] at A
  simp only [Bool.and_eq_true,beq_iff_eq] at c2
  obtain ⟨⟨rfl,rfl⟩,rfl⟩:=c2
  rw [d9 A,qX,ai MK,rg49]
  simp [Jc,lU,dO,mO,ab,op0] at k ka kc ⊢
  simp [k,ka,kc]
 rw [if_neg c2] at A
 by_cases c3:(b==3&&!ss&&rd==31)=true
 ·rw [if_pos c3] at A
  simp only [Bool.and_eq_true,beq_iff_eq,Bool.not_eq_true'] at c3
  obtain ⟨⟨rfl,rfl⟩,rfl⟩:=c3
  rw [d9 A,qX,ai Lw,Nn]
  simp [CZ,lU,nO,mO,ab,op0] at k ka kc ⊢
  simp [k,ka,kc]
 rw [if_neg c3] at A
 rw [dq A]
 exact hp
theorem Ht (h:ao ⟨25,xx,ss,rd,rn,rm,ra,a,b,c⟩=0):back (aj ⟨25,xx,ss,rd,rn,rm,ra,a,b,c⟩)=⟨25,xx,ss,rd,rn,rm,ra,a,b,c⟩:=by
 obtain ⟨h1,h2,h3,rfl,h4,h5,h6⟩:=Mw h
 have k:=lQ ⟨25,xx,ss,rd,rn,rm,0,a,b,c⟩ rm xx
 have ka:(mvO ⟨25,xx,ss,rd,rn,rm,0,a,b,c⟩ (ab rm xx)).amt=a:=nE _ _ _
 have kc:q9 (mvO ⟨25,xx,ss,rd,rn,rm,0,a,b,c⟩ (ab rm xx))=c:=nW _ _ _ h6.1
 have kl:¬5≤(mvO ⟨25,xx,ss,rd,rn,rm,0,a,b,c⟩ (ab rm xx)).md:=CP _ _ _ (by show 0≤c∧c≤3;omega)
 rw [show aj ⟨25,xx,ss,rd,rn,rm,0,a,b,c⟩=(ak b [(⟨#[97,100,100]⟩:ByteArray),(⟨#[115,117,98]⟩:ByteArray)]++ak (an ss) [emp,(⟨#[115]⟩:ByteArray)],bS ⟨25,xx,ss,rd,rn,rm,0,a,b,c⟩ [ab rd xx,ab rn xx,ab rm xx]) from rfl,A8,ai (G3 h5 ss),rg2]
 simp [rd2,kv,ab,op0] at k ka kc kl ⊢
 simp [k,ka,kc,kl]
theorem nm50:∀ s:Bool,lkT aR (ak (an s) [(⟨#[110,101,103]⟩:ByteArray),(⟨#[110,101,103,115]⟩:ByteArray)])=(50,0,s):=by decide +kernel
theorem IP (h:ao ⟨25,xx,ss,rd,rn,rm,ra,a,b,c⟩=0):back (lnF ⟨25,xx,ss,rd,rn,rm,ra,a,b,c⟩)=⟨25,xx,ss,rd,rn,rm,ra,a,b,c⟩:=by
 have hp:=Ht h
 obtain ⟨h1,h2,h3,rfl,h4,h5,h6⟩:=Mw h
 have k:=lQ ⟨25,xx,ss,rd,rn,rm,0,a,b,c⟩ rm xx
 have ka:(mvO ⟨25,xx,ss,rd,rn,rm,0,a,b,c⟩ (ab rm xx)).amt=a:=nE _ _ _
 have kc:q9 (mvO ⟨25,xx,ss,rd,rn,rm,0,a,b,c⟩ (ab rm xx))=c:=nW _ _ _ h6.1
 have kl:¬5≤(mvO ⟨25,xx,ss,rd,rn,rm,0,a,b,c⟩ (ab rm xx)).md:=CP _ _ _ (by show 0≤c∧c≤3;omega)
 have A:alA ⟨25,xx,ss,rd,rn,rm,0,a,b,c⟩=(if (ss&&rd==31)=true then AlV.ln (ak b [(⟨#[99,109,110]⟩:ByteArray),(⟨#[99,109,112]⟩:ByteArray)],bS ⟨25,xx,ss,rd,rn,rm,0,a,b,c⟩ [ab rn xx,ab rm xx]) true else if (b==1&&rn==31)=true then .ln (ak (an ss) [(⟨#[110,101,103]⟩:ByteArray),(⟨#[110,101,103,115]⟩:ByteArray)],bS ⟨25,xx,ss,rd,rn,rm,0,a,b,c⟩ [ab rd xx,ab rm xx]) true else .no):=rfl
 by_cases c1:(ss&&rd==31)=true
 ·rw [if_pos c1] at A
  simp only [Bool.and_eq_true,beq_iff_eq] at c1
  obtain ⟨rfl,rfl⟩:=c1
  rw [d9 A,qX,ai (EH h5),EQ]
  simp [xL,kv,ab,op0] at k ka kc kl ⊢
  simp [k,ka,kc,kl]
 rw [if_neg c1] at A
 by_cases c2:(b==1&&rn==31)=true
 ·rw [if_pos c2] at A
  simp only [Bool.and_eq_true,beq_iff_eq] at c2
  obtain ⟨rfl,rfl⟩:=c2
  rw [d9 A,qX,ai (nm50 ss),rg50]
  simp [Ji,ab,op0] at k ka kc ⊢
  simp [k,ka,kc]
 rw [if_neg c2] at A
 rw [dq A]
 exact hp
theorem Ik (h:ao ⟨26,xx,ss,rd,rn,rm,ra,a,b,c⟩=0):back (aj ⟨26,xx,ss,rd,rn,rm,ra,a,b,c⟩)=⟨26,xx,ss,rd,rn,rm,ra,a,b,c⟩:=by
 obtain ⟨h1,h2,h3,rfl,h4,h5,h6⟩:=Mq h
 rw [show aj ⟨26,xx,ss,rd,rn,rm,0,a,b,c⟩=(ak b [(⟨#[97,100,100]⟩:ByteArray),(⟨#[115,117,98]⟩:ByteArray)]++ak (an ss) [emp,(⟨#[115]⟩:ByteArray)],[if ss then ab rd xx else oSP rd xx,oSP rn xx,cW (ab rm (decide (c % 4=3))) (5+c) a]) from rfl,ai (G3 h5 ss),rg2]
 have e:(5:Int)≤5+c:=by omega
 have e2:5+c-5=c:=by omega
 cases ss<;>simp [rd2,kv,ab,oSP,cW,op0,e,e2]
theorem Ko (n:OpV) (m:OpV) (k:Int):tg [n,m] k=[n,{ m with md:=k }]:=rfl
theorem JA (d n:OpV) (m:OpV) (k:Int):tg [d,n,m] k=[d,n,{ m with md:=k }]:=rfl
theorem Kf (h:ao ⟨26,xx,ss,rd,rn,rm,ra,a,b,c⟩=0):back (lnF ⟨26,xx,ss,rd,rn,rm,ra,a,b,c⟩)=⟨26,xx,ss,rd,rn,rm,ra,a,b,c⟩:=by
 have hp:=Ik h
 obtain ⟨h1,h2,h3,rfl,h4,h5,h6⟩:=Mq h
 have e:(5:Int)≤5+c:=by omega
 have e2:5+c-5=c:=by omega
 have A:alA ⟨26,xx,ss,rd,rn,rm,0,a,b,c⟩=eJ ⟨26,xx,ss,rd,rn,rm,0,a,b,c⟩:=rfl
 obtain ⟨M,hM⟩:∃ M:OpV,cW (ab rm (decide (c % 4=3))) (5+c) a=M:=⟨_,rfl⟩
 have mk:M.kind=1∧M.r.n=rm∧M.amt=a∧M.md=5+c:=by rw [← hM];exact ⟨rfl,rfl,rfl,rfl⟩
 have hpl:bx ⟨26,xx,ss,rd,rn,rm,0,a,b,c⟩=(ak b [(⟨#[97,100,100]⟩:ByteArray),(⟨#[115,117,98]⟩:ByteArray)]++ak (an ss) [emp,(⟨#[115]⟩:ByteArray)],[if ss then ab rd xx else oSP rd xx,oSP rn xx,M]):=by rw [← hM];rfl
 have hx:im ⟨26,xx,ss,rd,rn,rm,0,a,b,c⟩=M:=by rw [← hM];rfl
 have hs:nsO ⟨26,xx,ss,rd,rn,rm,0,a,b,c⟩=oSP rn xx:=rfl
 unfold eJ at A
 rw [hpl,hx,hs] at A
 have hc:xi ⟨26,xx,ss,rd,rn,rm,0,a,b,c⟩=(ss&&rd==31):=rfl
 have hl:F8 ⟨26,xx,ss,rd,rn,rm,0,a,b,c⟩=((rn==31||(rd==31&&!ss))&&c==2+an xx):=rfl
 rw [hc,hl] at A
 have hz:∀ k:Int,k=0∨k=1→¬5≤k:=by intro k hk;omega
 have hm01:(if a=0 then (0:Int) else 1)=0∨(if a=0 then (0:Int) else 1)=1:=by split<;>simp
 obtain ⟨K,hK⟩:∃ K:Int,(if a=0 then (0:Int) else 1)=K:=⟨_,rfl⟩
 rw [hK] at hm01
 have hK5:=hz K hm01
 have hK6:¬5≤(if a=0 then (0:Int) else 1):=by split<;>decide
 have hA2:(if (a==0)=true then (0:Int) else 1)=K:=by rw [← hK];by_cases h0:a=0<;>simp [h0]
 by_cases c1:(ss&&rd==31)=true
 ·simp only [Bool.and_eq_true,beq_iff_eq] at c1
  obtain ⟨rfl,rfl⟩:=c1
  by_cases c2:rn=31∧c=2+an xx
  ·obtain ⟨rfl,rfl⟩:=c2
   simp [Ko] at A
   rw [d9 A,ai (EH h5),EQ]
   simp [xL,kv,oSP,op0,mk.1,mk.2.1,mk.2.2.1,hK6]
  ·have c2':((rn==31||((31:Int)==31&&!true))&&c==2+an xx)=false:=by
    rw [Bool.and_eq_false_iff]
    simp
    omega
   rw [c2'] at A
   simp at A
   rw [d9 A,ai (EH h5),EQ]
   simp [xL,kv,oSP,op0,mk.1,mk.2.1,mk.2.2.1,mk.2.2.2,e,e2]
 ·have c1':(ss&&rd==31)=false:=by simpa using c1
  rw [c1'] at A
  cases c2:((rn==31||(rd==31&&!ss))&&c==2+an xx)
  ·rw [c2] at A
   simp at A
   rw [km A]
   exact hp
  ·rw [c2] at A
   simp [JA] at A
   simp only [Bool.and_eq_true,beq_iff_eq,Bool.or_eq_true,Bool.not_eq_true'] at c2
   obtain ⟨c2,rfl⟩:=c2
   rw [d9 A,ai (G3 h5 ss),rg2]
   rcases c2 with rfl | ⟨rfl,rfl⟩
   ·cases ss<;>simp [rd2,kv,ab,oSP,op0,mk.1,mk.2.1,mk.2.2.1,hK6]
   ·simp [rd2,kv,ab,oSP,op0,mk.1,mk.2.1,mk.2.2.1,hK6]
theorem LK:∀ s:Bool,(lkT aR (ak 0 [(⟨#[97,100,99]⟩:ByteArray),(⟨#[115,98,99]⟩:ByteArray)]++ak (an s) [emp,(⟨#[115]⟩:ByteArray)])=(37,0,s))∧(lkT aR (ak 1 [(⟨#[97,100,99]⟩:ByteArray),(⟨#[115,98,99]⟩:ByteArray)]++ak (an s) [emp,(⟨#[115]⟩:ByteArray)])=(37,1,s)):=by decide +kernel
theorem Ic (h:ao ⟨27,xx,ss,rd,rn,rm,ra,a,b,c⟩=0):back (aj ⟨27,xx,ss,rd,rn,rm,ra,a,b,c⟩)=⟨27,xx,ss,rd,rn,rm,ra,a,b,c⟩:=by
 obtain ⟨h1,h2,h3,rfl,rfl,h4,rfl⟩:=Nd h
 have e:lkT aR (ak b [(⟨#[97,100,99]⟩:ByteArray),(⟨#[115,98,99]⟩:ByteArray)]++ak (an ss) [emp,(⟨#[115]⟩:ByteArray)])=(37,b,ss):=by
  rcases b2 h4 with rfl | rfl
  ·exact (LK ss).1
  ·exact (LK ss).2
 rw [show aj ⟨27,xx,ss,rd,rn,rm,0,0,b,0⟩=(ak b [(⟨#[97,100,99]⟩:ByteArray),(⟨#[115,98,99]⟩:ByteArray)]++ak (an ss) [emp,(⟨#[115]⟩:ByteArray)],[ab rd xx,ab rn xx,ab rm xx]) from rfl,ai e,rg37]
 simp [J7,ab,op0]
theorem nm51:∀ s:Bool,lkT aR (ak (an s) [(⟨#[110,103,99]⟩:ByteArray),(⟨#[110,103,99,115]⟩:ByteArray)])=(51,0,s):=by decide +kernel
theorem KH (h:ao ⟨27,xx,ss,rd,rn,rm,ra,a,b,c⟩=0):back (lnF ⟨27,xx,ss,rd,rn,rm,ra,a,b,c⟩)=⟨27,xx,ss,rd,rn,rm,ra,a,b,c⟩:=by
 have hp:=Ic h
 obtain ⟨h1,h2,h3,rfl,rfl,h4,rfl⟩:=Nd h
 have A:alA ⟨27,xx,ss,rd,rn,rm,0,0,b,0⟩=.ln (ak (an ss) [(⟨#[110,103,99]⟩:ByteArray),(⟨#[110,103,99,115]⟩:ByteArray)],[ab rd xx,ab rm xx]) (b==1&&rn==31):=rfl
 cases hc:(b==1&&rn==31)
 ·rw [hc] at A
  rw [km A]
  exact hp
 ·rw [hc] at A
  simp only [Bool.and_eq_true,beq_iff_eq] at hc
  obtain ⟨rfl,rfl⟩:=hc
  rw [d9 A,ai (nm51 ss),rg51]
  simp [Ip,ab,op0]
theorem nm38 (h:0≤b∧b≤1):lkT aR (ak b [(⟨#[99,99,109,110]⟩:ByteArray),(⟨#[99,99,109,112]⟩:ByteArray)])=(38,b,false):=by
 rcases b2 h with rfl | rfl<;>decide +kernel
theorem Id (h:ao ⟨28,xx,ss,rd,rn,rm,ra,a,b,c⟩=0):back (aj ⟨28,xx,ss,rd,rn,rm,ra,a,b,c⟩)=⟨28,xx,ss,rd,rn,rm,ra,a,b,c⟩:=by
 obtain ⟨rfl,h1,h2,rfl,h3,h4,h5⟩:=wf28 h
 rw [show aj ⟨28,xx,ss,0,rn,rm,0,a,b,c⟩=(ak b [(⟨#[99,99,109,110]⟩:ByteArray),(⟨#[99,99,109,112]⟩:ByteArray)],[ab rn xx,if ss then aB rm else ab rm xx,aB a,oOf 4 c]) from rfl,ai (nm38 h4),rg38]
 cases ss<;>simp [Kr,ab,aB,oOf,op0]
theorem nm39 (h:0≤b∧b≤3):lkT aR (ak b [(⟨#[99,115,101,108]⟩:ByteArray),(⟨#[99,115,105,110,99]⟩:ByteArray),(⟨#[99,115,105,110,118]⟩:ByteArray),(⟨#[99,115,110,101,103]⟩:ByteArray)])=(39,b,false):=by
 rcases b4 h with rfl | rfl | rfl | rfl<;>decide +kernel
theorem Hu (h:ao ⟨29,xx,ss,rd,rn,rm,ra,a,b,c⟩=0):back (aj ⟨29,xx,ss,rd,rn,rm,ra,a,b,c⟩)=⟨29,xx,ss,rd,rn,rm,ra,a,b,c⟩:=by
 obtain ⟨rfl,h1,h2,h3,rfl,h4,h5,rfl⟩:=N1 h
 rw [show aj ⟨29,xx,false,rd,rn,rm,0,a,b,0⟩=(ak b [(⟨#[99,115,101,108]⟩:ByteArray),(⟨#[99,115,105,110,99]⟩:ByteArray),(⟨#[99,115,105,110,118]⟩:ByteArray),(⟨#[99,115,110,101,103]⟩:ByteArray)],[ab rd xx,ab rn xx,ab rm xx,oOf 4 a]) from rfl,ai (nm39 h5),rg39]
 simp [IY,ab,oOf,op0]
theorem Gj (h:0≤a∧a≤15):gt (gt a)=a:=by
 unfold gt
 (repeat' split)<;>omega
theorem Ov:lkT aR (ak 1 [emp,(⟨#[99,115,101,116]⟩:ByteArray),(⟨#[99,115,101,116,109]⟩:ByteArray)])=(52,1,false)∧lkT aR (ak 2 [emp,(⟨#[99,115,101,116]⟩:ByteArray),(⟨#[99,115,101,116,109]⟩:ByteArray)])=(52,2,false):=by decide +kernel
theorem Jw:lkT aR (ak 1 [emp,(⟨#[99,105,110,99]⟩:ByteArray),(⟨#[99,105,110,118]⟩:ByteArray),(⟨#[99,110,101,103]⟩:ByteArray)])=(53,1,false)∧lkT aR (ak 2 [emp,(⟨#[99,105,110,99]⟩:ByteArray),(⟨#[99,105,110,118]⟩:ByteArray),(⟨#[99,110,101,103]⟩:ByteArray)])=(53,2,false)∧lkT aR (ak 3 [emp,(⟨#[99,105,110,99]⟩:ByteArray),(⟨#[99,105,110,118]⟩:ByteArray),(⟨#[99,110,101,103]⟩:ByteArray)])=(53,3,false):=by decide +kernel
theorem IH (h:ao ⟨29,xx,ss,rd,rn,rm,ra,a,b,c⟩=0):back (lnF ⟨29,xx,ss,rd,rn,rm,ra,a,b,c⟩)=⟨29,xx,ss,rd,rn,rm,ra,a,b,c⟩:=by
 have hp:=Hu h
 obtain ⟨rfl,h1,h2,h3,rfl,h4,h5,rfl⟩:=N1 h
 have hi:=Gj h4
 have A:alA ⟨29,xx,false,rd,rn,rm,0,a,b,0⟩=iV ⟨29,xx,false,rd,rn,rm,0,a,b,0⟩:=rfl
 unfold iV at A
 by_cases c1:14≤a
 ·rw [if_pos c1] at A
  rw [dq A]
  exact hp
 rw [if_neg c1] at A
 by_cases c2:((b==1||b==2)&&rn==rm&&rn==31)=true
 ·rw [if_pos c2] at A
  simp only [Bool.and_eq_true,beq_iff_eq,Bool.or_eq_true] at c2
  obtain ⟨⟨hb,rfl⟩,rfl⟩:=c2
  rw [d9 A]
  rcases hb with rfl | rfl
  ·rw [ai Ov.1,ME]
   simp [F1,dO,ab,oOf,op0,hi]
  ·rw [ai Ov.2,ME]
   simp [F1,dO,ab,oOf,op0,hi]
 rw [if_neg c2] at A
 by_cases c3:(b !=0&&rn==rm)=true
 ·rw [if_pos c3] at A
  simp only [Bool.and_eq_true,beq_iff_eq,bne_iff_ne,ne_eq] at c3
  obtain ⟨hb,rfl⟩:=c3
  rw [d9 A]
  rcases (show b=1∨b=2∨b=3 by omega) with rfl | rfl | rfl
  ·rw [ai Jw.1,Jr]
   simp [Dr,dO,nO,ab,oOf,op0,hi]
  ·rw [ai Jw.2.1,Jr]
   simp [Dr,dO,nO,ab,oOf,op0,hi]
  ·rw [ai Jw.2.2,Jr]
   simp [Dr,dO,nO,ab,oOf,op0,hi]
 rw [if_neg c3] at A
 rw [dq A]
 exact hp
theorem wa:lkT aR (⟨#[114,98,105,116]⟩:ByteArray)=(40,0,false)∧lkT aR (⟨#[114,101,118,49,54]⟩:ByteArray)=(40,1,false)∧lkT aR (⟨#[114,101,118,51,50]⟩:ByteArray)=(40,2,false)∧lkT aR (⟨#[99,108,122]⟩:ByteArray)=(40,4,false)∧lkT aR (⟨#[99,108,115]⟩:ByteArray)=(40,5,false)∧lkT aR (⟨#[114,101,118]⟩:ByteArray)=(41,0,false):=by decide +kernel
theorem HI (h:ao ⟨30,xx,ss,rd,rn,rm,ra,a,b,c⟩=0):back (aj ⟨30,xx,ss,rd,rn,rm,ra,a,b,c⟩)=⟨30,xx,ss,rd,rn,rm,ra,a,b,c⟩:=by
 have ht:=(aA h).2
 obtain ⟨rfl,h1,h2,rfl,rfl,rfl,h3,rfl⟩:=wf30 h
 have hb:b=3→xx=true:=by
  simp [ce] at ht
  intro e
  rcases ht with h | h
  ·exact absurd e h
  ·exact h
 rcases (show b=0∨b=1∨b=2∨b=3∨b=4∨b=5 by omega) with rfl | rfl | rfl | rfl | rfl | rfl
 ·rw [show aj ⟨30,xx,false,rd,rn,0,0,0,0,0⟩=((⟨#[114,98,105,116]⟩:ByteArray),[ab rd xx,ab rn xx]) from rfl,ai wa.1,DS]
  simp [vu,ab,op0]
 ·rw [show aj ⟨30,xx,false,rd,rn,0,0,0,1,0⟩=((⟨#[114,101,118,49,54]⟩:ByteArray),[ab rd xx,ab rn xx]) from rfl,ai wa.2.1,DS]
  simp [vu,ab,op0]
 ·cases xx
  ·rw [show aj ⟨30,false,false,rd,rn,0,0,0,2,0⟩=((⟨#[114,101,118]⟩:ByteArray),[ab rd false,ab rn false]) from rfl,ai wa.2.2.2.2.2,MR]
   simp [Fb,ab,op0]
  ·rw [show aj ⟨30,true,false,rd,rn,0,0,0,2,0⟩=((⟨#[114,101,118,51,50]⟩:ByteArray),[ab rd true,ab rn true]) from rfl,ai wa.2.2.1,DS]
   simp [vu,ab,op0]
 ·obtain rfl:=hb rfl
  rw [show aj ⟨30,true,false,rd,rn,0,0,0,3,0⟩=((⟨#[114,101,118]⟩:ByteArray),[ab rd true,ab rn true]) from rfl,ai wa.2.2.2.2.2,MR]
  simp [Fb,ab,op0]
 ·rw [show aj ⟨30,xx,false,rd,rn,0,0,0,4,0⟩=((⟨#[99,108,122]⟩:ByteArray),[ab rd xx,ab rn xx]) from rfl,ai wa.2.2.2.1,DS]
  simp [vu,ab,op0]
 ·rw [show aj ⟨30,xx,false,rd,rn,0,0,0,5,0⟩=((⟨#[99,108,115]⟩:ByteArray),[ab rd xx,ab rn xx]) from rfl,ai wa.2.2.2.2.1,DS]
  simp [vu,ab,op0]
theorem xO:lkT aR (⟨#[117,100,105,118]⟩:ByteArray)=(42,2,false)∧lkT aR (⟨#[115,100,105,118]⟩:ByteArray)=(42,3,false)∧lkT aR (⟨#[108,115,108,118]⟩:ByteArray)=(42,8,false)∧lkT aR (⟨#[108,115,114,118]⟩:ByteArray)=(42,9,false)∧lkT aR (⟨#[97,115,114,118]⟩:ByteArray)=(42,10,false)∧lkT aR (⟨#[114,111,114,118]⟩:ByteArray)=(42,11,false):=by decide +kernel
theorem nm43:∀ k:Fin 8,lkT aR ((⟨#[99,114,99,51,50]⟩:ByteArray)++ak (((16+(k.val:Int))-16).fdiv 4) [emp,(⟨#[99]⟩:ByteArray)]++ak ((16+(k.val:Int)) % 4) [(⟨#[98]⟩:ByteArray),(⟨#[104]⟩:ByteArray),(⟨#[119]⟩:ByteArray),(⟨#[120]⟩:ByteArray)])=(43,16+(k.val:Int),false):=by decide +kernel
theorem HB (h:ao ⟨31,xx,ss,rd,rn,rm,ra,a,b,c⟩=0):back (aj ⟨31,xx,ss,rd,rn,rm,ra,a,b,c⟩)=⟨31,xx,ss,rd,rn,rm,ra,a,b,c⟩:=by
 have ht:=(aA h).2
 obtain ⟨rfl,h1,h2,h3,rfl,rfl,h4,rfl⟩:=LA h
 have hs:dK ⟨31,xx,false,rd,rn,rm,0,0,b,0⟩=true:=by simpa [ce] using ht
 have hx:16≤b→xx=decide (b % 4=3):=by
  intro hb
  unfold dK at hs
  dsimp only at hs
  rw [if_neg (by omega)] at hs
  split at hs
  ·rename_i h19
   rcases h19 with rfl | rfl<;>simpa using hs
  ·split at hs
   ·rename_i h19
    have:xx=false:=by simpa using hs
    rw [this]
    rcases h19 with rfl | rfl | rfl | rfl | rfl | rfl<;>rfl
   ·cases hs
 have hb:b=2∨b=3∨b=8∨b=9∨b=10∨b=11∨16≤b:=by
  unfold dK at hs
  dsimp only at hs
  by_cases h1:b=2∨b=3∨b=8∨b=9∨b=10∨b=11
  ·omega
  ·rw [if_neg h1] at hs
   by_cases h2:b=19∨b=23
   ·omega
   ·rw [if_neg h2] at hs
    by_cases h3:b=16∨b=17∨b=18∨b=20∨b=21∨b=22
    ·omega
    ·rw [if_neg h3] at hs
     cases hs
 rcases hb with rfl | rfl | rfl | rfl | rfl | rfl | hb
 ·rw [show aj ⟨31,xx,false,rd,rn,rm,0,0,2,0⟩=((⟨#[117,100,105,118]⟩:ByteArray),[ab rd xx,ab rn xx,ab rm xx]) from rfl,ai xO.1,x8]
  simp [tq,ab,op0]
 ·rw [show aj ⟨31,xx,false,rd,rn,rm,0,0,3,0⟩=((⟨#[115,100,105,118]⟩:ByteArray),[ab rd xx,ab rn xx,ab rm xx]) from rfl,ai xO.2.1,x8]
  simp [tq,ab,op0]
 ·rw [show aj ⟨31,xx,false,rd,rn,rm,0,0,8,0⟩=((⟨#[108,115,108,118]⟩:ByteArray),[ab rd xx,ab rn xx,ab rm xx]) from rfl,ai xO.2.2.1,x8]
  simp [tq,ab,op0]
 ·rw [show aj ⟨31,xx,false,rd,rn,rm,0,0,9,0⟩=((⟨#[108,115,114,118]⟩:ByteArray),[ab rd xx,ab rn xx,ab rm xx]) from rfl,ai xO.2.2.2.1,x8]
  simp [tq,ab,op0]
 ·rw [show aj ⟨31,xx,false,rd,rn,rm,0,0,10,0⟩=((⟨#[97,115,114,118]⟩:ByteArray),[ab rd xx,ab rn xx,ab rm xx]) from rfl,ai xO.2.2.2.2.1,x8]
  simp [tq,ab,op0]
 ·rw [show aj ⟨31,xx,false,rd,rn,rm,0,0,11,0⟩=((⟨#[114,111,114,118]⟩:ByteArray),[ab rd xx,ab rn xx,ab rm xx]) from rfl,ai xO.2.2.2.2.2,x8]
  simp [tq,ab,op0]
 ·have e:b=16+((⟨(b-16).toNat,by omega⟩:Fin 8).val:Int):=by simp only [];omega
  have hk:=nm43 ⟨(b-16).toNat,by omega⟩
  rw [← e] at hk
  have hpl:aj ⟨31,xx,false,rd,rn,rm,0,0,b,0⟩=((⟨#[99,114,99,51,50]⟩:ByteArray)++ak ((b-16).fdiv 4) [emp,(⟨#[99]⟩:ByteArray)]++ak (b % 4) [(⟨#[98]⟩:ByteArray),(⟨#[104]⟩:ByteArray),(⟨#[119]⟩:ByteArray),(⟨#[120]⟩:ByteArray)],[ab rd false,ab rn false,ab rm (decide (b % 4=3))]):=by
   show fM ⟨31,xx,false,rd,rn,rm,0,0,b,0⟩=_
   unfold fM
   dsimp only
   rw [if_neg (by omega),if_neg (by omega)]
  rw [hpl,ai hk,rg43]
  simp [IS,ab,op0,hx hb]
theorem tE:lkT aR (⟨#[108,115,108]⟩:ByteArray)=(55,0,false)∧lkT aR (⟨#[108,115,114]⟩:ByteArray)=(54,2,false)∧lkT aR (⟨#[97,115,114]⟩:ByteArray)=(54,0,false)∧lkT aR (⟨#[114,111,114]⟩:ByteArray)=(56,0,false):=by decide +kernel
theorem KI (h:ao ⟨31,xx,ss,rd,rn,rm,ra,a,b,c⟩=0):back (lnF ⟨31,xx,ss,rd,rn,rm,ra,a,b,c⟩)=⟨31,xx,ss,rd,rn,rm,ra,a,b,c⟩:=by
 have hp:=HB h
 obtain ⟨rfl,h1,h2,h3,rfl,rfl,h4,rfl⟩:=LA h
 have A:alA ⟨31,xx,false,rd,rn,rm,0,0,b,0⟩=.ln (ak (b-8) [(⟨#[108,115,108]⟩:ByteArray),(⟨#[108,115,114]⟩:ByteArray),(⟨#[97,115,114]⟩:ByteArray),(⟨#[114,111,114]⟩:ByteArray)],[ab rd xx,ab rn xx,ab rm xx]) (decide (8≤b)&&decide (b≤11)):=rfl
 cases hc:(decide (8≤b)&&decide (b≤11))
 ·rw [hc] at A
  rw [km A]
  exact hp
 ·rw [hc] at A
  simp only [Bool.and_eq_true,decide_eq_true_eq] at hc
  rw [d9 A]
  rcases (show b=8∨b=9∨b=10∨b=11 by omega) with rfl | rfl | rfl | rfl
  ·rw [show ak (8-8) [(⟨#[108,115,108]⟩:ByteArray),(⟨#[108,115,114]⟩:ByteArray),(⟨#[97,115,114]⟩:ByteArray),(⟨#[114,111,114]⟩:ByteArray)]=(⟨#[108,115,108]⟩:ByteArray) from rfl,ai tE.1,LO]
   simp [F2,ab,op0]
  ·rw [show ak (9-8) [(⟨#[108,115,108]⟩:ByteArray),(⟨#[108,115,114]⟩:ByteArray),(⟨#[97,115,114]⟩:ByteArray),(⟨#[114,111,114]⟩:ByteArray)]=(⟨#[108,115,114]⟩:ByteArray) from rfl,ai tE.2.1,Gw]
   simp [z9,ab,op0]
  ·rw [show ak (10-8) [(⟨#[108,115,108]⟩:ByteArray),(⟨#[108,115,114]⟩:ByteArray),(⟨#[97,115,114]⟩:ByteArray),(⟨#[114,111,114]⟩:ByteArray)]=(⟨#[97,115,114]⟩:ByteArray) from rfl,ai tE.2.2.1,Gw]
   simp [z9,ab,op0]
  ·rw [show ak (11-8) [(⟨#[108,115,108]⟩:ByteArray),(⟨#[108,115,114]⟩:ByteArray),(⟨#[97,115,114]⟩:ByteArray),(⟨#[114,111,114]⟩:ByteArray)]=(⟨#[114,111,114]⟩:ByteArray) from rfl,ai tE.2.2.2,Ox]
   simp [EX,ab,op0]
end
end
section
section
variable {xx ss:Bool} {rd rn rm ra a b c:Int}
theorem sn:(∀ k:Fin 2,lkT aR (tJ ⟨32,false,false,0,0,0,0,0,(k.val:Int),0⟩)=(44,(k.val:Int),false))∧(lkT aR (⟨#[115,109,97,100,100,108]⟩:ByteArray)=(44,2,false)∧lkT aR (⟨#[115,109,115,117,98,108]⟩:ByteArray)=(44,3,false)∧lkT aR (⟨#[117,109,97,100,100,108]⟩:ByteArray)=(44,5,false)∧lkT aR (⟨#[117,109,115,117,98,108]⟩:ByteArray)=(44,6,false))∧lkT aR (⟨#[115,109,117,108,104]⟩:ByteArray)=(45,4,false)∧lkT aR (⟨#[117,109,117,108,104]⟩:ByteArray)=(45,7,false)∧lkT aR (⟨#[109,97,100,100]⟩:ByteArray)=(44,0,false)∧lkT aR (⟨#[109,115,117,98]⟩:ByteArray)=(44,1,false):=by decide +kernel
theorem xl (h:ao ⟨32,xx,ss,rd,rn,rm,ra,a,b,c⟩=0):(xx=true∨b≤1)∧((¬b=4∧¬b=7)∨ra=0):=by
 have ht:=(aA h).2
 simpa [ce] using ht
theorem Im (h:ao ⟨32,xx,ss,rd,rn,rm,ra,a,b,c⟩=0):back (aj ⟨32,xx,ss,rd,rn,rm,ra,a,b,c⟩)=⟨32,xx,ss,rd,rn,rm,ra,a,b,c⟩:=by
 have ht:=xl h
 obtain ⟨rfl,h1,h2,h3,h4,rfl,h5,rfl⟩:=LG h
 rcases (show b=0∨b=1∨b=2∨b=3∨b=4∨b=5∨b=6∨b=7 by omega) with rfl | rfl | rfl | rfl | rfl | rfl | rfl | rfl
 ·rw [show aj ⟨32,xx,false,rd,rn,rm,ra,0,0,0⟩=((⟨#[109,97,100,100]⟩:ByteArray),[ab rd xx,ab rn xx,ab rm xx,ab ra xx]) from rfl,ai sn.2.2.2.2.1,ym]
  simp [sZ,ab,op0]
 ·rw [show aj ⟨32,xx,false,rd,rn,rm,ra,0,1,0⟩=((⟨#[109,115,117,98]⟩:ByteArray),[ab rd xx,ab rn xx,ab rm xx,ab ra xx]) from rfl,ai sn.2.2.2.2.2,ym]
  simp [sZ,ab,op0]
 ·obtain rfl:xx=true:=by rcases ht.1 with h | h<;>first | exact h | (exfalso;omega)
  rw [show aj ⟨32,true,false,rd,rn,rm,ra,0,2,0⟩=((⟨#[115,109,97,100,100,108]⟩:ByteArray),[ab rd true,ab rn false,ab rm false,ab ra true]) from rfl,ai sn.2.1.1,ym]
  simp [sZ,ab,op0]
 ·obtain rfl:xx=true:=by rcases ht.1 with h | h<;>first | exact h | (exfalso;omega)
  rw [show aj ⟨32,true,false,rd,rn,rm,ra,0,3,0⟩=((⟨#[115,109,115,117,98,108]⟩:ByteArray),[ab rd true,ab rn false,ab rm false,ab ra true]) from rfl,ai sn.2.1.2.1,ym]
  simp [sZ,ab,op0]
 ·obtain rfl:ra=0:=by omega
  rw [show aj ⟨32,xx,false,rd,rn,rm,0,0,4,0⟩=((⟨#[115,109,117,108,104]⟩:ByteArray),[ab rd xx,ab rn xx,ab rm xx]) from rfl,ai sn.2.2.1,LT]
  simp [Fx,ab,op0]
 ·obtain rfl:xx=true:=by rcases ht.1 with h | h<;>first | exact h | (exfalso;omega)
  rw [show aj ⟨32,true,false,rd,rn,rm,ra,0,5,0⟩=((⟨#[117,109,97,100,100,108]⟩:ByteArray),[ab rd true,ab rn false,ab rm false,ab ra true]) from rfl,ai sn.2.1.2.2.1,ym]
  simp [sZ,ab,op0]
 ·obtain rfl:xx=true:=by rcases ht.1 with h | h<;>first | exact h | (exfalso;omega)
  rw [show aj ⟨32,true,false,rd,rn,rm,ra,0,6,0⟩=((⟨#[117,109,115,117,98,108]⟩:ByteArray),[ab rd true,ab rn false,ab rm false,ab ra true]) from rfl,ai sn.2.1.2.2.2,ym]
  simp [sZ,ab,op0]
 ·obtain rfl:ra=0:=by omega
  rw [show aj ⟨32,xx,false,rd,rn,rm,0,0,7,0⟩=((⟨#[117,109,117,108,104]⟩:ByteArray),[ab rd xx,ab rn xx,ab rm xx]) from rfl,ai sn.2.2.2.1,LT]
  simp [Fx,ab,op0]
theorem xX:lkT aR (⟨#[109,117,108]⟩:ByteArray)=(62,0,false)∧lkT aR (⟨#[109,110,101,103]⟩:ByteArray)=(62,1,false)∧lkT aR (⟨#[115,109,117,108,108]⟩:ByteArray)=(62,2,false)∧lkT aR (⟨#[115,109,110,101,103,108]⟩:ByteArray)=(62,3,false)∧lkT aR (⟨#[117,109,117,108,108]⟩:ByteArray)=(62,5,false)∧lkT aR (⟨#[117,109,110,101,103,108]⟩:ByteArray)=(62,6,false):=by decide +kernel
theorem JF (h:ao ⟨32,xx,ss,rd,rn,rm,ra,a,b,c⟩=0):back (lnF ⟨32,xx,ss,rd,rn,rm,ra,a,b,c⟩)=⟨32,xx,ss,rd,rn,rm,ra,a,b,c⟩:=by
 have hp:=Im h
 have ht:=xl h
 obtain ⟨rfl,h1,h2,h3,h4,rfl,h5,rfl⟩:=LG h
 by_cases c1:(ra !=31||b==4||b==7)=true
 ·have A:alA ⟨32,xx,false,rd,rn,rm,ra,0,b,0⟩=.ln (aj ⟨32,xx,false,rd,rn,rm,ra,0,b,0⟩) false:=by
   show gU ⟨32,xx,false,rd,rn,rm,ra,0,b,0⟩=_
   unfold gU
   rw [if_pos c1]
  rw [km A]
  exact hp
 ·have A:alA ⟨32,xx,false,rd,rn,rm,ra,0,b,0⟩=.ln (ak b [(⟨#[109,117,108]⟩:ByteArray),(⟨#[109,110,101,103]⟩:ByteArray),(⟨#[115,109,117,108,108]⟩:ByteArray),(⟨#[115,109,110,101,103,108]⟩:ByteArray),emp,(⟨#[117,109,117,108,108]⟩:ByteArray),(⟨#[117,109,110,101,103,108]⟩:ByteArray)],(aj ⟨32,xx,false,rd,rn,rm,ra,0,b,0⟩).2.take 3) true:=by
   show gU ⟨32,xx,false,rd,rn,rm,ra,0,b,0⟩=_
   unfold gU
   rw [if_neg c1]
  have hra:ra=31∧¬b=4∧¬b=7:=by
   simp at c1
   omega
  obtain ⟨rfl,hb4,hb7⟩:=hra
  rw [d9 A]
  rcases (show b=0∨b=1∨b=2∨b=3∨b=5∨b=6 by omega) with rfl | rfl | rfl | rfl | rfl | rfl
  ·rw [show (ak 0 [(⟨#[109,117,108]⟩:ByteArray),(⟨#[109,110,101,103]⟩:ByteArray),(⟨#[115,109,117,108,108]⟩:ByteArray),(⟨#[115,109,110,101,103,108]⟩:ByteArray),emp,(⟨#[117,109,117,108,108]⟩:ByteArray),(⟨#[117,109,110,101,103,108]⟩:ByteArray)],(aj ⟨32,xx,false,rd,rn,rm,31,0,0,0⟩).2.take 3)=((⟨#[109,117,108]⟩:ByteArray),[ab rd xx,ab rn xx,ab rm xx]) from rfl,ai xX.1,x2]
   simp [ta,ab,op0]
  ·rw [show (ak 1 [(⟨#[109,117,108]⟩:ByteArray),(⟨#[109,110,101,103]⟩:ByteArray),(⟨#[115,109,117,108,108]⟩:ByteArray),(⟨#[115,109,110,101,103,108]⟩:ByteArray),emp,(⟨#[117,109,117,108,108]⟩:ByteArray),(⟨#[117,109,110,101,103,108]⟩:ByteArray)],(aj ⟨32,xx,false,rd,rn,rm,31,0,1,0⟩).2.take 3)=((⟨#[109,110,101,103]⟩:ByteArray),[ab rd xx,ab rn xx,ab rm xx]) from rfl,ai xX.2.1,x2]
   simp [ta,ab,op0]
  ·obtain rfl:xx=true:=by rcases ht.1 with h | h<;>first | exact h | (exfalso;omega)
   rw [show (ak 2 [(⟨#[109,117,108]⟩:ByteArray),(⟨#[109,110,101,103]⟩:ByteArray),(⟨#[115,109,117,108,108]⟩:ByteArray),(⟨#[115,109,110,101,103,108]⟩:ByteArray),emp,(⟨#[117,109,117,108,108]⟩:ByteArray),(⟨#[117,109,110,101,103,108]⟩:ByteArray)],(aj ⟨32,true,false,rd,rn,rm,31,0,2,0⟩).2.take 3)=((⟨#[115,109,117,108,108]⟩:ByteArray),[ab rd true,ab rn false,ab rm false]) from rfl,ai xX.2.2.1,x2]
   simp [ta,ab,op0]
  ·obtain rfl:xx=true:=by rcases ht.1 with h | h<;>first | exact h | (exfalso;omega)
   rw [show (ak 3 [(⟨#[109,117,108]⟩:ByteArray),(⟨#[109,110,101,103]⟩:ByteArray),(⟨#[115,109,117,108,108]⟩:ByteArray),(⟨#[115,109,110,101,103,108]⟩:ByteArray),emp,(⟨#[117,109,117,108,108]⟩:ByteArray),(⟨#[117,109,110,101,103,108]⟩:ByteArray)],(aj ⟨32,true,false,rd,rn,rm,31,0,3,0⟩).2.take 3)=((⟨#[115,109,110,101,103,108]⟩:ByteArray),[ab rd true,ab rn false,ab rm false]) from rfl,ai xX.2.2.2.1,x2]
   simp [ta,ab,op0]
  ·obtain rfl:xx=true:=by rcases ht.1 with h | h<;>first | exact h | (exfalso;omega)
   rw [show (ak 5 [(⟨#[109,117,108]⟩:ByteArray),(⟨#[109,110,101,103]⟩:ByteArray),(⟨#[115,109,117,108,108]⟩:ByteArray),(⟨#[115,109,110,101,103,108]⟩:ByteArray),emp,(⟨#[117,109,117,108,108]⟩:ByteArray),(⟨#[117,109,110,101,103,108]⟩:ByteArray)],(aj ⟨32,true,false,rd,rn,rm,31,0,5,0⟩).2.take 3)=((⟨#[117,109,117,108,108]⟩:ByteArray),[ab rd true,ab rn false,ab rm false]) from rfl,ai xX.2.2.2.2.1,x2]
   simp [ta,ab,op0]
  ·obtain rfl:xx=true:=by rcases ht.1 with h | h<;>first | exact h | (exfalso;omega)
   rw [show (ak 6 [(⟨#[109,117,108]⟩:ByteArray),(⟨#[109,110,101,103]⟩:ByteArray),(⟨#[115,109,117,108,108]⟩:ByteArray),(⟨#[115,109,110,101,103,108]⟩:ByteArray),emp,(⟨#[117,109,117,108,108]⟩:ByteArray),(⟨#[117,109,110,101,103,108]⟩:ByteArray)],(aj ⟨32,true,false,rd,rn,rm,31,0,6,0⟩).2.take 3)=((⟨#[117,109,110,101,103,108]⟩:ByteArray),[ab rd true,ab rn false,ab rm false]) from rfl,ai xX.2.2.2.2.2,x2]
   simp [ta,ab,op0]
theorem NO (h:ao ⟨6,xx,ss,rd,rn,rm,ra,a,b,c⟩=0):back (lnF ⟨6,xx,ss,rd,rn,rm,ra,a,b,c⟩)=⟨6,xx,ss,rd,rn,rm,ra,a,b,c⟩:=by
 have hp:=On h
 obtain ⟨rfl,h1,h2,h3,rfl,h4,rfl,rfl⟩:=wf6 h
 have A:alA ⟨6,xx,false,rd,rn,rm,0,a,0,0⟩=.ln ((⟨#[114,111,114]⟩:ByteArray),[ab rd xx,ab rn xx,aB a]) (rn==rm):=rfl
 cases hc:(rn==rm)
 ·rw [hc] at A
  rw [km A]
  exact hp
 ·rw [hc] at A
  obtain rfl:rn=rm:=by simpa using hc
  rw [d9 A,ai tE.2.2.2,Ox]
  simp [EX,ab,aB,op0]
theorem Cd:lkT aR (⟨#[115,120,116,98]⟩:ByteArray)=(57,7,false)∧lkT aR (⟨#[115,120,116,104]⟩:ByteArray)=(57,15,false)∧lkT aR (⟨#[115,120,116,119]⟩:ByteArray)=(57,31,false)∧lkT aR (⟨#[117,120,116,98]⟩:ByteArray)=(58,7,false)∧lkT aR (⟨#[117,120,116,104]⟩:ByteArray)=(58,15,false):=by decide +kernel
theorem vl:lkT aR (⟨#[115,98,102,105,122]⟩:ByteArray)=(59,0,false)∧lkT aR (⟨#[98,102,105]⟩:ByteArray)=(59,1,false)∧lkT aR (⟨#[117,98,102,105,122]⟩:ByteArray)=(59,2,false)∧lkT aR (⟨#[115,98,102,120]⟩:ByteArray)=(60,0,false)∧lkT aR (⟨#[98,102,120,105,108]⟩:ByteArray)=(60,1,false)∧lkT aR (⟨#[117,98,102,120]⟩:ByteArray)=(60,2,false)∧lkT aR (⟨#[98,102,99]⟩:ByteArray)=(61,0,false):=by decide +kernel
theorem oE {i e:ByteArray} (hi:lkT aR i=(59,b,false)) (he:lkT aR e=(60,b,false)):back (cx i e (ga xx) true ⟨5,xx,false,rd,rn,0,0,a,b,c⟩)=⟨5,xx,false,rd,rn,0,0,a,b,c⟩:=by
 unfold cx
 dsimp only
 split
 ·rw [show (if true=true then [dO ⟨5,xx,false,rd,rn,0,0,a,b,c⟩,nO ⟨5,xx,false,rd,rn,0,0,a,b,c⟩] else [dO ⟨5,xx,false,rd,rn,0,0,a,b,c⟩])++[aB (ga xx-a),aB (c+1)]=[ab rd xx,ab rn xx,aB (ga xx-a),aB (c+1)] from rfl,ai hi,rg59]
  have e1:ga xx-(ga xx-a)=a:=by omega
  simp [Kx,ab,aB,op0,e1]
 ·rw [show (if true=true then [dO ⟨5,xx,false,rd,rn,0,0,a,b,c⟩,nO ⟨5,xx,false,rd,rn,0,0,a,b,c⟩] else [dO ⟨5,xx,false,rd,rn,0,0,a,b,c⟩])++[aB a,aB (c-a+1)]=[ab rd xx,ab rn xx,aB a,aB (c-a+1)] from rfl,ai he,rg60]
  have e1:c-a+1+a-1=c:=by omega
  simp [IO,ab,aB,op0,e1]
theorem Mb (h:ao ⟨5,xx,ss,rd,rn,rm,ra,a,b,c⟩=0):back (lnF ⟨5,xx,ss,rd,rn,rm,ra,a,b,c⟩)=⟨5,xx,ss,rd,rn,rm,ra,a,b,c⟩:=by
 obtain ⟨rfl,h1,h2,rfl,rfl,h3,h4,h5⟩:=wf5 h
 have A:alA ⟨5,xx,false,rd,rn,0,0,a,b,c⟩=.ln (ny ⟨5,xx,false,rd,rn,0,0,a,b,c⟩) true:=rfl
 rw [d9 A]
 unfold ny
 dsimp only
 by_cases c1:(b==0&&c==ga xx-1)=true
 ·rw [if_pos c1]
  simp only [Bool.and_eq_true,beq_iff_eq] at c1
  obtain ⟨rfl,rfl⟩:=c1
  rw [ai tE.2.2.1,Gw]
  simp [z9,dO,nO,cF,ab,aB,op0]
 rw [if_neg c1]
 by_cases c2:(b==0&&a==0&&(c==7||c==15||c==31))=true
 ·rw [if_pos c2]
  simp only [Bool.and_eq_true,beq_iff_eq,Bool.or_eq_true] at c2
  obtain ⟨⟨rfl,rfl⟩,hc⟩:=c2
  rcases hc with (rfl | rfl) | rfl
  ·rw [show ak ((7:Int).fdiv 8) [(⟨#[115,120,116,98]⟩:ByteArray),(⟨#[115,120,116,104]⟩:ByteArray),emp,(⟨#[115,120,116,119]⟩:ByteArray)]=(⟨#[115,120,116,98]⟩:ByteArray) from rfl,ai Cd.1,KD]
   simp [Bk,dO,ab,op0]
  ·rw [show ak ((15:Int).fdiv 8) [(⟨#[115,120,116,98]⟩:ByteArray),(⟨#[115,120,116,104]⟩:ByteArray),emp,(⟨#[115,120,116,119]⟩:ByteArray)]=(⟨#[115,120,116,104]⟩:ByteArray) from rfl,ai Cd.2.1,KD]
   simp [Bk,dO,ab,op0]
  ·rw [show ak ((31:Int).fdiv 8) [(⟨#[115,120,116,98]⟩:ByteArray),(⟨#[115,120,116,104]⟩:ByteArray),emp,(⟨#[115,120,116,119]⟩:ByteArray)]=(⟨#[115,120,116,119]⟩:ByteArray) from rfl,ai Cd.2.2.1,KD]
   simp [Bk,dO,ab,op0]
 rw [if_neg c2]
 by_cases c3:(b==0)=true
 ·rw [if_pos c3]
  obtain rfl:b=0:=by simpa using c3
  exact oE vl.1 vl.2.2.2.1
 rw [if_neg c3]
 by_cases c4:(b==1)=true
 ·rw [if_pos c4]
  obtain rfl:b=1:=by simpa using c4
  cases hb:t4 ⟨5,xx,false,rd,rn,0,0,a,1,c⟩
  ·exact oE vl.2.1 vl.2.2.2.2.1
  ·have hb':c<a∧rn=31:=by
    unfold t4 at hb
    simpa using hb
   obtain ⟨hl,rfl⟩:=hb'
   unfold cx
   dsimp only
   rw [if_pos hl,show (ak (an true) [(⟨#[98,102,105]⟩:ByteArray),(⟨#[98,102,99]⟩:ByteArray)],(if (!true)=true then [dO ⟨5,xx,false,rd,31,0,0,a,1,c⟩,nO ⟨5,xx,false,rd,31,0,0,a,1,c⟩] else [dO ⟨5,xx,false,rd,31,0,0,a,1,c⟩])++[aB (ga xx-a),aB (c+1)])=((⟨#[98,102,99]⟩:ByteArray),[ab rd xx,aB (ga xx-a),aB (c+1)]) from rfl,ai vl.2.2.2.2.2.2,rg61]
   have e1:ga xx-(ga xx-a)=a:=by omega
   simp [KL,ab,aB,op0,e1]
 rw [if_neg c4]
 obtain rfl:b=2:=by
  simp at c3 c4
  omega
 by_cases c5:(c==ga xx-1)=true
 ·rw [if_pos c5]
  obtain rfl:c=ga xx-1:=by simpa using c5
  rw [ai tE.2.1,Gw]
  simp [z9,dO,nO,cF,ab,aB,op0]
 rw [if_neg c5]
 by_cases c6:(c+1==a)=true
 ·rw [if_pos c6]
  obtain rfl:c+1=a:=by simpa using c6
  rw [ai tE.1,LO]
  have e1:ga xx-(ga xx-(c+1))=c+1:=by omega
  simp [F2,dO,nO,ab,aB,op0,e1]
 rw [if_neg c6]
 by_cases c7:(a==0&&!xx&&(c==7||c==15))=true
 ·rw [if_pos c7]
  simp only [Bool.and_eq_true,beq_iff_eq,Bool.or_eq_true,Bool.not_eq_true'] at c7
  obtain ⟨⟨rfl,rfl⟩,hc⟩:=c7
  rcases hc with rfl | rfl
  ·rw [show ak ((7:Int).fdiv 8) [(⟨#[117,120,116,98]⟩:ByteArray),(⟨#[117,120,116,104]⟩:ByteArray)]=(⟨#[117,120,116,98]⟩:ByteArray) from rfl,ai Cd.2.2.2.1,Mm]
   simp [Fz,dO,nO,ab,op0]
  ·rw [show ak ((15:Int).fdiv 8) [(⟨#[117,120,116,98]⟩:ByteArray),(⟨#[117,120,116,104]⟩:ByteArray)]=(⟨#[117,120,116,104]⟩:ByteArray) from rfl,ai Cd.2.2.2.2,Mm]
   simp [Fz,dO,nO,ab,op0]
 rw [if_neg c7]
 exact oE vl.2.2.1 vl.2.2.2.2.2.1
theorem AN (x:Bool) (h:0≤rd∧rd≤31):(cH ⟨rd,x,false⟩).2=0:=by
 have h1:¬(rd<0∨31<rd∨((false=true)∧¬rd=31)):=by
  intro hc
  rcases hc with h | h | h
  ·omega
  ·omega
  ·cases h.1
 unfold cH
 dsimp only
 rw [if_neg h1,if_neg (fun h=>by cases h.1),if_neg (by decide)]
 split<;>rfl
theorem Bo (x:Bool):(cH ⟨31,x,true⟩).2=0:=by cases x<;>decide +kernel
theorem xB (h : -9223372036854775808≤a∧a≤9223372036854775807):mw (dB a)=a:=by
 unfold mw dB
 rw [IntKind.wrap_i64]
 omega
theorem JU (h:ct ⟨3,xx,ss,rd,rn,rm,ra,a,b,c⟩=true):(cN (dB a) (wN xx)).isSome=true∧dB a≤cj xx:=by
 unfold ct at h
 dsimp only at h
 rw [Bool.and_eq_true] at h
 obtain ⟨h1,h2⟩:=h
 refine ⟨h1,?_⟩
 have hl:dB a<18446744073709551616:=by unfold dB;omega
 cases xx
 ·rcases Nat.lt_or_ge (dB a) 4294967296 with h | h
  ·show _≤4294967295;omega
  ·rw [if_neg (by decide)] at h1
   unfold cN at h1
   rw [if_pos ⟨rfl,h⟩] at h1
   cases h1
 ·show _≤18446744073709551615;omega
theorem Bh {v:Nat} {x:Bool} (h:v≤cj x):v &&& cj x=v:=by
 cases x
 ·rw [show cj false=2 ^ 32-1 from rfl,Nat.and_two_pow_sub_one_eq_mod]
  simp [cj] at h
  omega
 ·rw [show cj true=2 ^ 64-1 from rfl,Nat.and_two_pow_sub_one_eq_mod]
  simp [cj] at h
  omega
theorem tZ {v:Nat} {p:Bool} (hr:(cH ⟨rd,xx,p⟩).2=0) (hv:v≤cj xx) (hl:(cN v (wN xx)).isSome=true) (hn:¬(rd=31∧p=false)) (hm:¬((cS ⟨rd,xx,p⟩ v).2=0∧(cS ⟨rd,xx,p⟩ v).1.op=4)) :
  (cS ⟨rd,xx,p⟩ v).1=⟨3,xx,false,rd,31,0,0,mw v,1,0⟩:=by
 have h0:¬(¬(cH ⟨rd,xx,p⟩).2=0∨cj xx<v):=by
  intro h
  rcases h with h | h
  ·exact h hr
  ·omega
 have h3:¬((cN v (wN xx)).isSome=false∨(rd=31∧p=false)):=by
  intro h
  rcases h with h | h
  ·rw [hl] at h;cases h
  ·exact hn h
 revert hm
 unfold cS
 dsimp only
 rw [if_neg h0]
 cases h1:(if p=true then none else ge v xx) with
 | some y=>intro hm;exact absurd ⟨rfl,rfl⟩ hm
 | none =>
  cases h2:(if p=true then none else ge (v ^^^ cj xx) xx) with
  | some y=>intro hm;exact absurd ⟨rfl,rfl⟩ hm
  | none =>
   intro _
   dsimp only
   rw [if_neg h3]
theorem LJ (h:ao ⟨3,xx,ss,rd,rn,rm,ra,a,b,c⟩=0):back (lnF ⟨3,xx,ss,rd,rn,rm,ra,a,b,c⟩)=⟨3,xx,ss,rd,rn,rm,ra,a,b,c⟩:=by
 have hp:=MI h
 have ht:=(aA h).2
 obtain ⟨rfl,h1,h2,rfl,rfl,h3,h4,rfl⟩:=wf3 h
 have hL:ct ⟨3,xx,false,rd,rn,0,0,a,b,0⟩=true:=by
  unfold ce at ht
  rw [if_pos rfl] at ht
  exact ht
 obtain ⟨l1,l2⟩:=JU hL
 have A:alA ⟨3,xx,false,rd,rn,0,0,a,b,0⟩=ofO (ft ⟨3,xx,false,rd,rn,0,0,a,b,0⟩):=rfl
 unfold ft at A
 dsimp only at A
 by_cases c1:b=3∧rd=31
 ·rw [if_pos c1] at A
  obtain ⟨rfl,rfl⟩:=c1
  rw [d9 (r:=((⟨#[116,115,116]⟩:ByteArray),[ab rn xx,aB a])) A,ai Lw,Nn]
  simp [CZ,ab,aB,op0]
 rw [if_neg c1] at A
 by_cases c2:b=1∧rn=31
 ·rw [if_pos c2] at A
  obtain ⟨rfl,rfl⟩:=c2
  rw [Bh l2] at A
  by_cases c3:(cS ⟨rd,xx,false⟩ (dB a)).2=0∧(cS ⟨rd,xx,false⟩ (dB a)).1.op=4
  ·rw [if_pos c3] at A
   rw [dq A]
   exact hp
  ·rw [if_neg c3] at A
   rw [d9 (r:=((⟨#[109,111,118]⟩:ByteArray),[oSP rd xx,aB a])) A,ai EI,FG]
   have e:yu 0 false [oSP rd xx,aB a]=(cS ⟨rd,xx,rd==31⟩ (dB a)).1:=rfl
   rw [e]
   by_cases hr:rd=31
   ·subst hr
    refine (tZ (p:=true) (Bo xx) l2 l1 (fun h=>by cases h.2) ?_).trans ?_
    ·unfold cS
     dsimp only
     rw [if_neg (by intro h;rcases h with h | h;exact h (Bo xx);omega),if_pos rfl,if_pos rfl]
     dsimp only
     rw [if_neg (by intro h;rcases h with h | h;(rw [l1] at h;cases h);cases h.2)]
     intro h
     exact absurd (show (3:Int)=4 from h.2) (by decide)
    ·rw [xB h3]
   ·have hb:(rd==31)=false:=by simpa using hr
    rw [hb]
    refine (tZ (p:=false) (AN xx h1) l2 l1 (fun h=>hr h.1) c3).trans ?_
    rw [xB h3]
 rw [if_neg c2] at A
 rw [dq A]
 exact hp
theorem zq {v c:Nat} {x:Bool} (hc:c<fp x) (hv:v<65536) (h0:v=0→c=0):ge (v*2 ^ (16*c)) x=some (v,c):=by
 have hc4:c=0∨c=1∨c=2∨c=3:=by cases x<;>simp [fp] at hc<;>omega
 have hn:fp x=4∨(fp x=2∧c≤1):=by cases x<;>simp [fp] at hc ⊢<;>omega
 unfold ge
 rcases hc4 with rfl | rfl | rfl | rfl
 ·have p0:dz (v*2 ^ (16*0)) 0=true:=by simp [dz];omega
  rw [fN,if_pos (by omega),if_pos p0]
  simp
 ·have p0:dz (v*2 ^ (16*1)) 0=false:=by simp [dz];omega
  have p1:dz (v*2 ^ (16*1)) 1=true:=by simp [dz];omega
  rw [fN,if_pos (by omega),if_neg (by rw [p0];decide),fN,if_pos (by omega),if_pos p1]
  simp
 ·have p0:dz (v*2 ^ (16*2)) 0=false:=by simp [dz];omega
  have p1:dz (v*2 ^ (16*2)) 1=false:=by simp [dz];omega
  have p2:dz (v*2 ^ (16*2)) 2=true:=by simp [dz];omega
  rw [fN,if_pos (by omega),if_neg (by rw [p0];decide),fN,if_pos (by omega),if_neg (by rw [p1];decide),fN,if_pos (by omega),if_pos p2]
  simp
 ·have p0:dz (v*2 ^ (16*3)) 0=false:=by simp [dz];omega
  have p1:dz (v*2 ^ (16*3)) 1=false:=by simp [dz];omega
  have p2:dz (v*2 ^ (16*3)) 2=false:=by simp [dz];omega
  have p3:dz (v*2 ^ (16*3)) 3=true:=by simp [dz];omega
  rw [fN,if_pos (by omega),if_neg (by rw [p0];decide),fN,if_pos (by omega),if_neg (by rw [p1];decide),fN,if_pos (by omega),if_neg (by rw [p2];decide),fN,if_pos (by omega),if_pos p3]
  simp
theorem FF {w:Nat} {x:Bool} (h:∀ j,j<fp x→dz w j=false):ge w x=none:=by
 cases hw:ge w x with
 | none=>rfl
 | some y =>
  obtain ⟨-,h2,h3,-,-⟩:=oN (show fN w (fp x) 5 0=some (y.1,y.2) from hw)
  rw [h _ h2] at h3
  cases h3
theorem yy {v c:Nat} {x:Bool} (hc:c<fp x) (hv:v<65536) (hx:¬(x=false∧v=65535)):ge (cj x-v*2 ^ (16*c)) x=none:=by
 refine FF fun j hj=>?_
 cases x
 ·have hv':¬v=65535:=fun e=>hx ⟨rfl,e⟩
  simp only [fp] at hc hj
  rcases (show c=0∨c=1 by simp at hc;omega) with rfl | rfl<;>rcases (show j=0∨j=1 by simp at hj;omega) with rfl | rfl<;>simp [dz,cj]<;>omega
 ·simp only [fp] at hc hj
  rcases (show c=0∨c=1∨c=2∨c=3 by simp at hc;omega) with rfl | rfl | rfl | rfl<;>rcases (show j=0∨j=1∨j=2∨j=3 by simp at hj;omega) with rfl | rfl | rfl | rfl<;>simp [dz,cj]<;>omega
theorem Ln (h:ao ⟨4,xx,ss,rd,rn,rm,ra,a,b,c⟩=0):back (lnF ⟨4,xx,ss,rd,rn,rm,ra,a,b,c⟩)=⟨4,xx,ss,rd,rn,rm,ra,a,b,c⟩:=by
 have hp:=NE h
 have ht:=(aA h).2
 obtain ⟨rfl,h1,rfl,rfl,rfl,h2,h3,h4⟩:=wf4 h
 have hb:¬b=1∧(xx=true∨c≤1):=by simpa [ce] using ht
 have A:alA ⟨4,xx,false,rd,0,0,0,a,b,c⟩=ofO (fL ⟨4,xx,false,rd,0,0,0,a,b,c⟩):=rfl
 unfold fL at A
 dsimp only at A
 by_cases c1:b=3∨(a=0∧¬c=0)∨(b=0∧xx=false∧a=65535)
 ·rw [if_pos c1] at A
  rw [dq A]
  exact hp
 rw [if_neg c1] at A
 rw [d9 (r:=((⟨#[109,111,118]⟩:ByteArray),[ab rd xx,aB (mo ⟨4,xx,false,rd,0,0,0,a,b,c⟩)])) A,ai EI,FG]
 have e:yu 0 false [ab rd xx,aB (mo ⟨4,xx,false,rd,0,0,0,a,b,c⟩)]=(cS ⟨rd,xx,false⟩ (dB (mo ⟨4,xx,false,rd,0,0,0,a,b,c⟩))).1:=rfl
 rw [e]
 clear e A hp h ht
 obtain ⟨n,rfl⟩:=Int.eq_ofNat_of_zero_le h2.1
 obtain ⟨d,rfl⟩:=Int.eq_ofNat_of_zero_le h4.1
 have hn:n<65536:=by omega
 have hd:d<fp xx:=by
  cases xx
  ·show d<2
   rcases hb.2 with h | h
   ·cases h
   ·omega
  ·show d<4;omega
 have hv:n*2 ^ (16*d)≤cj xx:=by
  cases xx
  ·show _≤4294967295
   rcases (show d=0∨d=1 by have:d<2:=hd;omega) with rfl | rfl<;>simp<;>omega
  ·show _≤18446744073709551615
   rcases (show d=0∨d=1∨d=2∨d=3 by have:d<4:=hd;omega) with rfl | rfl | rfl | rfl<;>simp<;>omega
 have hlt:n*2 ^ (16*d)<18446744073709551616:=by have:=lF xx;omega
 have hz:n=0→d=0:=fun e=>by
  refine Decidable.byContradiction fun f=>c1 (.inr (.inl ⟨by omega,by omega⟩))
 have hs:=zq hd hn hz
 have hr:=AN xx h1
 rw [IF hlt hn rfl b]
 by_cases hb0:b=0
 ·subst hb0
  have hx:¬(xx=false∧n=65535):=fun e=>c1 (.inr (.inr ⟨rfl,e.1,by omega⟩))
  rw [if_pos rfl]
  have hw:n*2 ^ (16*d) ^^^ cj xx=cj xx-n*2 ^ (16*d):=by
   generalize n*2 ^ (16*d)=v at hv
   cases xx
   ·have e:(BitVec.ofNat 32 v ^^^ BitVec.allOnes 32).toNat=2 ^ 32-1-(BitVec.ofNat 32 v).toNat:=by rw [BitVec.xor_allOnes,BitVec.toNat_not]
    rw [BitVec.toNat_xor,BitVec.toNat_allOnes,BitVec.toNat_ofNat,Nat.mod_eq_of_lt (by simp [cj] at hv;omega)] at e
    exact e
   ·have e:(BitVec.ofNat 64 v ^^^ BitVec.allOnes 64).toNat=2 ^ 64-1-(BitVec.ofNat 64 v).toNat:=by rw [BitVec.xor_allOnes,BitVec.toNat_not]
    rw [BitVec.toNat_xor,BitVec.toNat_allOnes,BitVec.toNat_ofNat,Nat.mod_eq_of_lt (by simp [cj] at hv;omega)] at e
    exact e
  have hb2:(n*2 ^ (16*d) ^^^ cj xx) ^^^ cj xx=n*2 ^ (16*d):=by rw [Nat.xor_assoc,Nat.xor_self,Nat.xor_zero]
  have ol:=lF xx
  rw [xv (by omega)]
  have hno:=yy hd hn hx
  rw [← hw] at hno
  unfold cS
  dsimp only
  rw [if_neg (by intro h;rcases h with h | h;exact h hr;omega),if_neg (by decide),hno]
  dsimp only
  rw [if_neg (by decide),hb2,hs]
 ·obtain rfl:b=2:=by omega
  rw [if_neg (by decide),xv hlt]
  unfold cS
  dsimp only
  rw [if_neg (by intro h;rcases h with h | h;exact h hr;omega),if_neg (by decide),hs]
end
theorem nJ {x:Ins} (h:ao x=0):back (aj x)=x∧back (lnF x)=x:=by
 have ho:=j4 (aA h).1
 obtain ⟨op,xx,ss,rd,rn,rm,ra,a,b,c⟩:=x
 simp only at ho
 have hop:op=1∨op=2∨op=3∨op=4∨op=5∨op=6∨op=7∨op=8∨op=9∨op=10∨op=11∨op=12∨op=13∨op=14∨op=15∨op=16∨op=17∨op=18∨op=19∨op=20∨op=21∨op=22∨op=23∨op=24∨op=25∨op=26∨op=27∨op=28∨op=29∨op=30∨op=31∨op=32:=by omega
 clear ho
 rcases hop with rfl | rfl | rfl | rfl | rfl | rfl | rfl | rfl | rfl | rfl | rfl | rfl | rfl | rfl | rfl | rfl | rfl | rfl | rfl | rfl | rfl | rfl | rfl | rfl | rfl | rfl | rfl | rfl | rfl | rfl | rfl | rfl
 ·exact ⟨Oj h,(congrArg back (dq rfl)).trans (Oj h)⟩
 ·exact ⟨NT h,N7 h⟩
 ·exact ⟨MI h,LJ h⟩
 ·exact ⟨NE h,Ln h⟩
 ·exact ⟨own5 h,Mb h⟩
 ·exact ⟨On h,NO h⟩
 ·exact ⟨Oc h,(congrArg back (dq rfl)).trans (Oc h)⟩
 ·exact ⟨M9 h,(congrArg back (dq rfl)).trans (M9 h)⟩
 ·exact ⟨NJ h,(congrArg back (dq rfl)).trans (NJ h)⟩
 ·exact ⟨H8 h,(congrArg back (dq rfl)).trans (H8 h)⟩
 ·exact ⟨H6 h,KF h⟩
 ·exact ⟨HF h,KO h⟩
 ·exact ⟨HH h,JJ h⟩
 ·exact ⟨HQ h,JP h⟩
 ·exact ⟨HU h,(congrArg back (dq rfl)).trans (HU h)⟩
 ·exact ⟨Hx h,(congrArg back (dq rfl)).trans (Hx h)⟩
 ·exact ⟨Ii h,KS h⟩
 ·exact ⟨Hq h,(congrArg back (dq rfl)).trans (Hq h)⟩
 ·exact ⟨Hr h,(congrArg back (dq rfl)).trans (Hr h)⟩
 ·exact ⟨Ho h,(congrArg back (dq rfl)).trans (Ho h)⟩
 ·exact ⟨HG h,(congrArg back (dq rfl)).trans (HG h)⟩
 ·exact ⟨HX h,(congrArg back (dq rfl)).trans (HX h)⟩
 ·exact ⟨HJ h,(congrArg back (dq rfl)).trans (HJ h)⟩
 ·exact ⟨H4 h,Jl h⟩
 ·exact ⟨Ht h,IP h⟩
 ·exact ⟨Ik h,Kf h⟩
 ·exact ⟨Ic h,KH h⟩
 ·exact ⟨Id h,(congrArg back (dq rfl)).trans (Id h)⟩
 ·exact ⟨Hu h,IH h⟩
 ·exact ⟨HI h,(congrArg back (dq rfl)).trans (HI h)⟩
 ·exact ⟨HB h,KI h⟩
 ·exact ⟨Im h,JF h⟩
theorem xN {x y:Ins} (hx:ao x=0) (hy:ao y=0):aj x=aj y↔x=y :=
 ⟨fun h=>by rw [← (nJ hx).1,h,(nJ hy).1],fun h=>by rw [h]⟩
theorem Ee {x y:Ins} (hx:ao x=0) (hy:ao y=0):lnF x=lnF y↔x=y :=
 ⟨fun h=>by rw [← (nJ hx).2,h,(nJ hy).2],fun h=>by rw [h]⟩
end
end Go.Proofs.YtpjlafmhoifkmaaGreat
