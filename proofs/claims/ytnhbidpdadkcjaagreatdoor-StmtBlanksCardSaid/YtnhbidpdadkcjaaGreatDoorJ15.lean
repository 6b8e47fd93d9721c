import Derived.Test.YtnhbidpdadkcjaaGreatDoorJ13
set_option linter.unusedVariables false
set_option linter.unusedSimpArgs false
set_option maxRecDepth 100000
set_option maxHeartbeats 8000000
namespace Go.Proofs.YtnhbidpdadkcjaaGreatDoor
section
open Go.RowKit
def t7:bi Tryz.prog 216 :=
 CD _ (fun _ _=>by go_simp) (bq .i64) (fun n=>0≤n∧n<1000) (fun n=>sv (eT n)) (fun _=>rfl) (fun n hn M w v _ hv=>by
  have hv':v=.int .i64 n:=hv
  subst hv'
  exact (Na n w hn).mono fun e w' h=>⟨⟨_,h.1,rfl⟩,h.2⟩)
theorem pc {id:Nat} {h:ah} {args:List AV}:t7.run id h args=bT (ba (bq .i64) (fun n=>0≤n∧n<1000)) (fun n=>.ret (sv (eT n))) h args:=rfl
theorem oZ {id:Nat} {h:ah} {args:List AV}:t7.pan id h args=bU (ba (bq .i64) (fun n=>0≤n∧n<1000)) (fun n=>.ret (sv (eT n))) h args:=rfl
def tens:ByteArray:=⟨#[48,49,50,51,52,53,54,55,56,57]⟩
theorem S8:tens.size=10:=rfl
def Kx:bi Tryz.prog 226 :=
 mk2 _ _ _ Tryz.func226 rfl (fun _ _=>by go_simp) (bx) (bq .i64) ((fun _ _=>True)) ((fun s m=>.ret (gR 3 s m))) (by rw [Tryz.ntmps226];decide) (fun s m _=>Hw s m)
theorem dE {id:Nat} {h:ah} {args:List AV}:(Kx).run id h args=bT (cg (bx) (bq .i64) ((fun _ _=>True))) (fun x=>((fun s m=>.ret (gR 3 s m))) x.1 x.2) h args:=rfl
theorem dD {id:Nat} {h:ah} {args:List AV}:(Kx).pan id h args=bU (cg (bx) (bq .i64) ((fun _ _=>True))) (fun x=>((fun s m=>.ret (gR 3 s m))) x.1 x.2) h args:=rfl
theorem AH (args:Array Value) (w:World):(callFunc 98 args).run Tryz.prog w=.ok (.enter 98 args) w:=by go_simp
def tq:bi Tryz.prog 98 :=
 mk2 _ _ _ Tryz.func98 rfl AH (bx) (bx) ((fun _ _=>True)) ((fun s p=>.ret (bv (cM s p)))) (by rw [Tryz.ntmps98];decide) (fun s p _=>by
 refine aa (ctx:=[]) 4000 ?_
 rw [Tryz.ntmps98,Tryz.results98]
 simp only [Tryz.f98,Option.getD_some,aC]
 by_cases h:p.size≤s.size
 ·have hI:(p.size:Int)≤s.size:=by omega
  by_cases h2:s.extract 0 p.size=p
  ·simp only [go_sem,hI,Int.toNat_zero,h2,cM,h]
  ·simp only [go_sem,hI,Int.toNat_zero,h2,cM,h]
 ·have hI:¬(p.size:Int)≤s.size:=by omega
  simp only [go_sem,hI,cM,h,Bool.false_and])
theorem eP {id:Nat} {h:ah} {args:List AV}:(tq).run id h args=bT (cg (bx) (bx) ((fun _ _=>True))) (fun x=>((fun s p=>.ret (bv (cM s p)))) x.1 x.2) h args:=rfl
theorem eO {id:Nat} {h:ah} {args:List AV}:(tq).pan id h args=bU (cg (bx) (bx) ((fun _ _=>True))) (fun x=>((fun s p=>.ret (bv (cM s p)))) x.1 x.2) h args:=rfl
def ja (s p:ByteArray):AV:=.tup [.l (.v (.string (nB s p).1)),.l (.v (.bool (nB s p).2))]
def Km:bi Tryz.prog 245 :=
 mk2 _ _ _ Tryz.func245 rfl (fun _ _=>by go_simp) (bx) (bx) ((fun _ _=>True)) ((fun s p=>.ret (ja s p))) (by rw [Tryz.ntmps245];decide) (fun s p _=>by
 refine aa (ctx:=[⟨_,tq⟩]) 4000 ?_
 rw [Tryz.ntmps245,Tryz.results245]
 simp only [Tryz.f245,Option.getD_some,aC]
 have hle:cM s p=true→(p.size:Int)≤s.size:=fun h=>by have:=K0 h;omega
 cases h:cM s p with
 | true =>
  have:=hle h
  simp only [go_sem,eP,eO,h,ja,nB]
  omega
 | false=>simp only [go_sem,eP,eO,h,ja,nB])
theorem Ko {id:Nat} {h:ah} {args:List AV}:(Km).run id h args=bT (cg (bx) (bx) ((fun _ _=>True))) (fun x=>((fun s p=>.ret (ja s p))) x.1 x.2) h args:=rfl
theorem Kn {id:Nat} {h:ah} {args:List AV}:(Km).pan id h args=bU (cg (bx) (bx) ((fun _ _=>True))) (fun x=>((fun s p=>.ret (ja s p))) x.1 x.2) h args:=rfl
def Kq:bi Tryz.prog 225 :=
 mk2 _ _ _ Tryz.func225 rfl (fun _ _=>by go_simp) (bx) (bx) ((fun _ _=>True)) ((fun s p=>.ret (ja s p))) (by rw [Tryz.ntmps225];decide) (fun s p _=>by
 refine aa (ctx:=[⟨_,Km⟩]) 4000 ?_
 rw [Tryz.ntmps225,Tryz.results225]
 simp only [Tryz.f225,Option.getD_some,aC]
 simp only [go_sem,Ko,Kn,ja])
theorem dC {id:Nat} {h:ah} {args:List AV}:(Kq).run id h args=bT (cg (bx) (bx) ((fun _ _=>True))) (fun x=>((fun s p=>.ret (ja s p))) x.1 x.2) h args:=rfl
theorem dB {id:Nat} {h:ah} {args:List AV}:(Kq).pan id h args=bU (cg (bx) (bx) ((fun _ _=>True))) (fun x=>((fun s p=>.ret (ja s p))) x.1 x.2) h args:=rfl
def gF:ov kC where
 dec:=fun | [.v (.int .i64 n),.v (.bool x),.v (.bool p)]=>some ⟨n,x,p⟩ | _=>none
 enc:=fun r=>[.v (.int .i64 r.n),.v (.bool r.x),.v (.bool r.sp)]
 inv:=by
  intro c x h
  split at h
  ·injection h with h;subst h;rfl
  ·cases h
 back:=by intro x;rfl
def qE (r:kC×Int):AV:=.tup [.agg [.v (.int .i64 r.1.n),.v (.bool r.1.x),.v (.bool r.1.sp)],.l (.v (.int .i64 r.2))]
def gr (r:ByteArray×Int):AV:=.tup [.l (.v (.string r.1)),.l (.v (.int .i64 r.2))]
theorem RZ (s:ByteArray):SW Tryz.prog ⟨none,0⟩ Tryz.f186.ntmps (Tryz.f186.body.getD .skip) ⟨0,aC 0 [bx.enc s],[]⟩ (es Tryz.prog Tryz.f186.results.toList (.ret (qE (jD 3 s)))):=by
 refine aa (ctx:=[⟨_,Kq⟩,⟨_,Kx⟩]) 4000 ?_
 rw [Tryz.ntmps186,Tryz.results186]
 simp only [Tryz.f186,Option.getD_some,aC]
 by_cases h1:s=⟨#[120,122,114]⟩
 ·have e:jD 3 s=(⟨31,true,false⟩,0):=by rw [h1];rfl
  simp only [go_sem,e,eq_true h1,qE]
 by_cases h2:s=⟨#[119,122,114]⟩
 ·have e:jD 3 s=(⟨31,false,false⟩,0):=by rw [h2];rfl
  simp only [go_sem,e,h1,eq_true h2,qE]
 by_cases h3:s=⟨#[115,112]⟩
 ·have e:jD 3 s=(⟨31,true,true⟩,0):=by rw [h3];rfl
  simp only [go_sem,e,h1,h2,eq_true h3,qE]
 by_cases h4:s=⟨#[119,115,112]⟩
 ·have e:jD 3 s=(⟨31,false,true⟩,0):=by rw [h4];rfl
  simp only [go_sem,e,h1,h2,h3,eq_true h4,qE]
 have hx:nB s ⟨#[120]⟩=if 0<s.size∧aj s 0=120 then (s.extract 1 s.size,true) else (s,false):=by
  unfold nB
  rw [show (⟨#[120]⟩:ByteArray)=bu [120] from rfl,Qw s 120 (by omega)]
  simp only [decide_eq_true_eq]
  rfl
 have hw:nB s ⟨#[119]⟩=if 0<s.size∧aj s 0=119 then (s.extract 1 s.size,true) else (s,false):=by
  unfold nB
  rw [show (⟨#[119]⟩:ByteArray)=bu [119] from rfl,Qw s 119 (by omega)]
  simp only [decide_eq_true_eq]
  rfl
 have e0:jD 3 s=if s.size=0∨¬(aj s 0=120∨aj s 0=119) then (⟨0,false,false⟩,30) else
   C1 s (iE 3 (s.extract 1 s.size) 30):=by
  unfold jD
  rw [if_neg (show ¬s=SU from h1),if_neg (show ¬s=ST from h2),if_neg (show ¬s=spS from h3),if_neg (show ¬s=SS from h4)]
 by_cases hxx:0<s.size∧aj s 0=120
 ·rw [if_pos hxx] at hx
  rw [if_neg (by omega)] at e0
  rcases hd:iE 3 (s.extract 1 s.size) 30 with ⟨n,_ | _⟩
  ·rw [hd,C1] at e0
   simp only [go_sem,h1,h2,h3,h4,dC,dB,dE,dD,ja,gR,hx,hd,e0,qE]
  ·rw [hd,C1] at e0
   simp only [go_sem,h1,h2,h3,h4,dC,dB,dE,dD,ja,gR,hx,hd,e0,qE,hxx.2]
 ·rw [if_neg hxx] at hx
  by_cases hww:0<s.size∧aj s 0=119
  ·rw [if_pos hww] at hw
   rw [if_neg (by omega)] at e0
   have hn:¬aj s 0=120:=by omega
   rcases hd:iE 3 (s.extract 1 s.size) 30 with ⟨n,_ | _⟩
   ·rw [hd,C1] at e0
    simp only [go_sem,h1,h2,h3,h4,dC,dB,dE,dD,ja,gR,hx,hw,hd,e0,qE]
   ·rw [hd,C1] at e0
    simp only [go_sem,h1,h2,h3,h4,dC,dB,dE,dD,ja,gR,hx,hw,hd,e0,qE,hn]
  ·rw [if_neg hww] at hw
   rw [if_pos (by omega)] at e0
   simp only [go_sem,h1,h2,h3,h4,dC,dB,dE,dD,ja,gR,hx,hw,e0,qE]
def Pw:bi Tryz.prog 186 :=
 mk1 _ _ _ Tryz.func186 rfl (fun _ _=>by go_simp) (bx) ((fun _=>True)) ((fun s=>.ret (qE (jD 3 s)))) (by rw [Tryz.ntmps186];decide) (fun s _=>RZ s)
theorem wq {id:Nat} {h:ah} {args:List AV}:(Pw).run id h args=bT (ba (bx) ((fun _=>True))) ((fun s=>.ret (qE (jD 3 s)))) h args:=rfl
theorem wp {id:Nat} {h:ah} {args:List AV}:(Pw).pan id h args=bU (ba (bx) ((fun _=>True))) ((fun s=>.ret (qE (jD 3 s)))) h args:=rfl
end
section
open Go.RowKit
theorem sH (n:Int):(eT n).size≤3:=by
 unfold eT
 split
 ·rw [jf];simp
 ·split<;>(rw [jf];simp)
theorem Fh (r:kC):SW Tryz.prog ⟨none,0⟩ Tryz.f182.ntmps (Tryz.f182.body.getD .skip) ⟨0,aC 0 [(jr gF).enc r],[]⟩ (es Tryz.prog Tryz.f182.results.toList (.ret (gr (cC r)))):=by
 obtain ⟨n,x,sp⟩:=r
 refine aa (ctx:=[⟨_,t7⟩]) 4000 ?_
 rw [Tryz.ntmps182,Tryz.results182]
 simp only [Tryz.f182,Option.getD_some,aC]
 have hz:(eT n).size≤3:=sH n
 have e1:(1+(eT n).size:Nat)≤maxLen:=by unfold maxLen;omega
 have e2:(⟨#[119]⟩:ByteArray)=wS:=rfl
 have e3:(⟨#[120]⟩:ByteArray)=xS:=rfl
 by_cases h1:n<0
 ·cases x<;>cases sp<;>simp only [go_sem,gF,h1,gr,cC,aR]
 by_cases h2:31<n
 ·cases x<;>cases sp<;>simp only [go_sem,gF,h1,h2,gr,cC,aR]
 by_cases h3:n=31
 ·subst h3
  cases x<;>cases sp<;>simp only [go_sem,gF,gr,cC,aR]<;>first | rfl | exact ⟨by decide,rfl⟩ | decide
 ·have h4:0≤n∧n<1000:=by omega
  have h5:¬n > 31:=h2
  cases x<;>cases sp<;>simp only [go_sem,gF,h1,h2,h3,h4,gr,cC,aR,pc,oZ,e2,e3,show wS.size=1 from rfl,show xS.size=1 from rfl,e1]
def nk:bi Tryz.prog 182 :=
 mk1 _ _ _ Tryz.func182 rfl (fun _ _=>by go_simp) (jr gF) ((fun _=>True)) ((fun r=>.ret (gr (cC r)))) (by rw [Tryz.ntmps182];decide) (fun r _=>Fh r)
theorem lJ {id:Nat} {h:ah} {args:List AV}:(nk).run id h args=bT (ba (jr gF) ((fun _=>True))) ((fun r=>.ret (gr (cC r)))) h args:=rfl
theorem lI {id:Nat} {h:ah} {args:List AV}:(nk).pan id h args=bU (ba (jr gF) ((fun _=>True))) ((fun r=>.ret (gr (cC r)))) h args:=rfl
def Fi (r:kC):AV:=.s (.agg [.v (.int .i64 r.n),.v (.bool r.x),.v (.bool r.sp)])
def x7:bi Tryz.prog 183 :=
 mk1 _ _ _ Tryz.func183 rfl (fun _ _=>by go_simp) (bq .i64) ((fun n=>0≤n∧n<128)) ((fun n=>.ret (Fi (kx n)))) (by rw [Tryz.ntmps183];decide) (fun n hn=>by
 obtain ⟨h0,h1⟩:=hn
 refine aa (ctx:=[]) 4000 ?_
 rw [Tryz.ntmps183,Tryz.results183]
 simp only [Tryz.f183,Option.getD_some,aC]
 have d1:n.tdiv 32=n / 32:=Int.tdiv_eq_ediv_of_nonneg h0
 have d2:n.tmod 32=n % 32:=Int.tmod_eq_emod_of_nonneg h0
 have d3:(n / 32).tmod 2=n / 32 % 2:=Int.tmod_eq_emod_of_nonneg (by omega)
 have e1:IntKind.i64.wrap (n / 32)=n / 32:=by rw [IntKind.wrap_i64];omega
 have e2:IntKind.i64.wrap (n % 32)=n % 32:=by rw [IntKind.wrap_i64];omega
 simp only [go_sem,Fi,kx,d1,d2,d3,e1,e2]
 have e3:(n / 32 % 2==1)=decide (n / 32 % 2=1):=by by_cases h:n / 32 % 2=1<;>simp [h]
 rw [e3])
theorem uM {id:Nat} {h:ah} {args:List AV}:(x7).run id h args=bT (ba (bq .i64) ((fun n=>0≤n∧n<128))) ((fun n=>.ret (Fi (kx n)))) h args:=rfl
theorem uL {id:Nat} {h:ah} {args:List AV}:(x7).pan id h args=bU (ba (bq .i64) ((fun n=>0≤n∧n<128))) ((fun n=>.ret (Fi (kx n)))) h args:=rfl
def EQ:bi Tryz.prog 187 :=
 mk1 _ _ _ Tryz.func187 rfl (fun _ _=>by go_simp) (jr gF) ((fun r => -100000<r.n∧r.n<100000)) ((fun r=>.ret (iv (qw r)))) (by rw [Tryz.ntmps187];decide) (fun r hr=>by
 obtain ⟨n,x,sp⟩:=r
 obtain ⟨h0,h1⟩:=hr
 simp only at h0 h1
 refine aa (ctx:=[]) 4000 ?_
 rw [Tryz.ntmps187,Tryz.results187]
 simp only [Tryz.f187,Option.getD_some,aC]
 have e1:IntKind.i64.wrap n=n:=by rw [IntKind.wrap_i64];omega
 have e2:IntKind.i64.wrap (n+32)=n+32:=by rw [IntKind.wrap_i64];omega
 have e3:IntKind.i64.wrap (n+64)=n+64:=by rw [IntKind.wrap_i64];omega
 have e4:IntKind.i64.wrap (n+32+64)=n+32+64:=by rw [IntKind.wrap_i64];omega
 cases x<;>cases sp<;>simp only [go_sem,gF,qw,e1,e2,e3,e4,Int.add_zero])
theorem Iz {id:Nat} {h:ah} {args:List AV}:(EQ).run id h args=bT (ba (jr gF) ((fun r => -100000<r.n∧r.n<100000))) ((fun r=>.ret (iv (qw r)))) h args:=rfl
theorem Iy {id:Nat} {h:ah} {args:List AV}:(EQ).pan id h args=bU (ba (jr gF) ((fun r => -100000<r.n∧r.n<100000))) ((fun r=>.ret (iv (qw r)))) h args:=rfl
end
end Go.Proofs.YtnhbidpdadkcjaaGreatDoor
