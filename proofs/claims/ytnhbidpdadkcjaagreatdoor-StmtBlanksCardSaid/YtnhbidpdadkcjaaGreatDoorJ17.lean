import Derived.Test.YtnhbidpdadkcjaaGreatDoorJ15
set_option linter.unusedVariables false
set_option linter.unusedSimpArgs false
set_option maxRecDepth 100000
set_option maxHeartbeats 8000000
namespace Go.Proofs.YtnhbidpdadkcjaaGreatDoor
section
open Go.RowKit
def mY:ov (ByteArray×Int) where
 dec:=fun | [.v (.string s),.v (.int .i64 n)]=>some (s,n) | _=>none
 enc:=fun r=>[.v (.string r.1),.v (.int .i64 r.2)]
 inv:=by
  intro c x h
  split at h
  ·injection h with h;subst h;rfl
  ·cases h
 back:=by intro x;rfl
def Iw:AV:=.s (.l (.v (.slice none 0 0)))
abbrev gk (l:List (ByteArray×Int)):AV:=.s (.l (.d (.sd 2 (l.map mY.enc))))
theorem Ke:SW Tryz.prog ⟨none,0⟩ Tryz.f217.ntmps (Tryz.f217.body.getD .skip) ⟨0,[],[]⟩ (es Tryz.prog Tryz.f217.results.toList (.ret (gk sc))):=by
 refine aa (ctx:=[]) 4000 ?_
 rw [Tryz.ntmps217,Tryz.results217]
 simp only [Tryz.f217,Option.getD_some,aC]
 simp only [go_sem,true_or,or_true,or_false,false_or,sc,mY]
 rfl
def D1:bi Tryz.prog 217 :=
 mk0 _ _ _ Tryz.func217 rfl (fun _ _=>by go_simp) (True) ((.ret (gk sc))) (fun _=>Ke)
theorem kO {id:Nat} {h:ah} {args:List AV}:(D1).run id h args=bT (jl (True)) (fun _=>(.ret (gk sc))) h args:=rfl
theorem kN {id:Nat} {h:ah} {args:List AV}:(D1).pan id h args=bU (jl (True)) (fun _=>(.ret (gk sc))) h args:=rfl
theorem Pe:SW Tryz.prog ⟨none,0⟩ Tryz.f218.ntmps (Tryz.f218.body.getD .skip) ⟨0,[],[]⟩ (es Tryz.prog Tryz.f218.results.toList (.ret (gk xD))):=by
 refine aa (ctx:=[]) 4000 ?_
 rw [Tryz.ntmps218,Tryz.results218]
 simp only [Tryz.f218,Option.getD_some,aC]
 simp only [go_sem,true_or,or_true,or_false,false_or,xD,mY]
 rfl
def Lw:bi Tryz.prog 218 :=
 mk0 _ _ _ Tryz.func218 rfl (fun _ _=>by go_simp) (True) ((.ret (gk xD))) (fun _=>Pe)
theorem mW {id:Nat} {h:ah} {args:List AV}:(Lw).run id h args=bT (jl (True)) (fun _=>(.ret (gk xD))) h args:=rfl
theorem mV {id:Nat} {h:ah} {args:List AV}:(Lw).pan id h args=bU (jl (True)) (fun _=>(.ret (gk xD))) h args:=rfl
theorem BO:SW Tryz.prog ⟨none,0⟩ Tryz.f219.ntmps (Tryz.f219.body.getD .skip) ⟨0,[],[]⟩ (es Tryz.prog Tryz.f219.results.toList (.ret (gk kK))):=by
 refine aa (ctx:=[]) 4000 ?_
 rw [Tryz.ntmps219,Tryz.results219]
 simp only [Tryz.f219,Option.getD_some,aC]
 simp only [go_sem,true_or,or_true,or_false,false_or,kK,mY]
 rfl
def ue:bi Tryz.prog 219 :=
 mk0 _ _ _ Tryz.func219 rfl (fun _ _=>by go_simp) (True) ((.ret (gk kK))) (fun _=>BO)
theorem gP {id:Nat} {h:ah} {args:List AV}:(ue).run id h args=bT (jl (True)) (fun _=>(.ret (gk kK))) h args:=rfl
theorem gO {id:Nat} {h:ah} {args:List AV}:(ue).pan id h args=bU (jl (True)) (fun _=>(.ret (gk kK))) h args:=rfl
theorem K1:SW Tryz.prog ⟨none,0⟩ Tryz.f220.ntmps (Tryz.f220.body.getD .skip) ⟨0,[],[]⟩ (es Tryz.prog Tryz.f220.results.toList (.ret (gk sq))):=by
 refine aa (ctx:=[]) 4000 ?_
 rw [Tryz.ntmps220,Tryz.results220]
 simp only [Tryz.f220,Option.getD_some,aC]
 simp only [go_sem,true_or,or_true,or_false,false_or,sq,mY]
 rfl
def Er:bi Tryz.prog 220 :=
 mk0 _ _ _ Tryz.func220 rfl (fun _ _=>by go_simp) (True) ((.ret (gk sq))) (fun _=>K1)
theorem kX {id:Nat} {h:ah} {args:List AV}:(Er).run id h args=bT (jl (True)) (fun _=>(.ret (gk sq))) h args:=rfl
theorem kW {id:Nat} {h:ah} {args:List AV}:(Er).pan id h args=bU (jl (True)) (fun _=>(.ret (gk sq))) h args:=rfl
theorem FL:SW Tryz.prog ⟨none,0⟩ Tryz.f221.ntmps (Tryz.f221.body.getD .skip) ⟨0,[],[]⟩ (es Tryz.prog Tryz.f221.results.toList (.ret (gk iV))):=by
 refine aa (ctx:=[]) 4000 ?_
 rw [Tryz.ntmps221,Tryz.results221]
 simp only [Tryz.f221,Option.getD_some,aC]
 simp only [go_sem,true_or,or_true,or_false,false_or,iV,mY]
 rfl
def yx:bi Tryz.prog 221 :=
 mk0 _ _ _ Tryz.func221 rfl (fun _ _=>by go_simp) (True) ((.ret (gk iV))) (fun _=>FL)
theorem iX {id:Nat} {h:ah} {args:List AV}:(yx).run id h args=bT (jl (True)) (fun _=>(.ret (gk iV))) h args:=rfl
theorem iW {id:Nat} {h:ah} {args:List AV}:(yx).pan id h args=bU (jl (True)) (fun _=>(.ret (gk iV))) h args:=rfl
theorem El:SW Tryz.prog ⟨none,0⟩ Tryz.f222.ntmps (Tryz.f222.body.getD .skip) ⟨0,[],[]⟩ (es Tryz.prog Tryz.f222.results.toList (.ret (gk mM))):=by
 refine aa (ctx:=[]) 4000 ?_
 rw [Tryz.ntmps222,Tryz.results222]
 simp only [Tryz.f222,Option.getD_some,aC]
 simp only [go_sem,true_or,or_true,or_false,false_or,mM,mY]
 rfl
def xc:bi Tryz.prog 222 :=
 mk0 _ _ _ Tryz.func222 rfl (fun _ _=>by go_simp) (True) ((.ret (gk mM))) (fun _=>El)
theorem iL {id:Nat} {h:ah} {args:List AV}:(xc).run id h args=bT (jl (True)) (fun _=>(.ret (gk mM))) h args:=rfl
theorem iK {id:Nat} {h:ah} {args:List AV}:(xc).pan id h args=bU (jl (True)) (fun _=>(.ret (gk mM))) h args:=rfl
theorem Mv:SW Tryz.prog ⟨none,0⟩ Tryz.f223.ntmps (Tryz.f223.body.getD .skip) ⟨0,[],[]⟩ (es Tryz.prog Tryz.f223.results.toList (.ret (gk sB))):=by
 refine aa (ctx:=[]) 4000 ?_
 rw [Tryz.ntmps223,Tryz.results223]
 simp only [Tryz.f223,Option.getD_some,aC]
 simp only [go_sem,true_or,or_true,or_false,false_or,sB,mY]
 rfl
def EX:bi Tryz.prog 223 :=
 mk0 _ _ _ Tryz.func223 rfl (fun _ _=>by go_simp) (True) ((.ret (gk sB))) (fun _=>Mv)
theorem lf {id:Nat} {h:ah} {args:List AV}:(EX).run id h args=bT (jl (True)) (fun _=>(.ret (gk sB))) h args:=rfl
theorem lc {id:Nat} {h:ah} {args:List AV}:(EX).pan id h args=bU (jl (True)) (fun _=>(.ret (gk sB))) h args:=rfl
def oY (k:Int):AV:=if kF k=[] then Iw else gk (kF k)
theorem M6 (k:Int):SW Tryz.prog ⟨none,0⟩ Tryz.f184.ntmps (Tryz.f184.body.getD .skip) ⟨0,aC 0 [(bq .i64).enc k],[]⟩ (es Tryz.prog Tryz.f184.results.toList (.ret (oY k))):=by
 refine aa (ctx:=[⟨_,D1⟩,⟨_,Lw⟩,⟨_,ue⟩,⟨_,Er⟩,⟨_,yx⟩,⟨_,xc⟩,⟨_,EX⟩]) 4000 ?_
 rw [Tryz.ntmps184,Tryz.results184]
 simp only [Tryz.f184,Option.getD_some,aC]
 by_cases h2:k=2
 ·have e:oY k=gk sc:=by rw [h2];rfl
  simp only [go_sem,true_or,or_true,or_false,false_or,kO,kN,mW,mV,gP,gO,kX,kW,iX,iW,iL,iK,lf,lc,e,eq_true h2]
 by_cases h3:k=3
 ·have e:oY k=gk xD:=by rw [h3];rfl
  simp only [go_sem,true_or,or_true,or_false,false_or,kO,kN,mW,mV,gP,gO,kX,kW,iX,iW,iL,iK,lf,lc,e,h2,eq_true h3]
 by_cases h4:k=4
 ·have e:oY k=gk kK:=by rw [h4];rfl
  simp only [go_sem,true_or,or_true,or_false,false_or,kO,kN,mW,mV,gP,gO,kX,kW,iX,iW,iL,iK,lf,lc,e,h2,h3,eq_true h4]
 by_cases h5:k=5
 ·have e:oY k=gk sq:=by rw [h5];rfl
  simp only [go_sem,true_or,or_true,or_false,false_or,kO,kN,mW,mV,gP,gO,kX,kW,iX,iW,iL,iK,lf,lc,e,h2,h3,h4,eq_true h5]
 by_cases h6:k=6
 ·have e:oY k=gk iV:=by rw [h6];rfl
  simp only [go_sem,true_or,or_true,or_false,false_or,kO,kN,mW,mV,gP,gO,kX,kW,iX,iW,iL,iK,lf,lc,e,h2,h3,h4,h5,eq_true h6]
 by_cases h7:k=7
 ·have e:oY k=gk mM:=by rw [h7];rfl
  simp only [go_sem,true_or,or_true,or_false,false_or,kO,kN,mW,mV,gP,gO,kX,kW,iX,iW,iL,iK,lf,lc,e,h2,h3,h4,h5,h6,eq_true h7]
 by_cases h8:k=8
 ·have e:oY k=gk sB:=by rw [h8];rfl
  simp only [go_sem,true_or,or_true,or_false,false_or,kO,kN,mW,mV,gP,gO,kX,kW,iX,iW,iL,iK,lf,lc,e,h2,h3,h4,h5,h6,h7,eq_true h8]
 simp only [go_sem,true_or,or_true,or_false,false_or,h2,h3,h4,h5,h6,h7,h8,oY,kF,Iw]
def Bu:bi Tryz.prog 184 :=
 mk1 _ _ _ Tryz.func184 rfl (fun _ _=>by go_simp) (bq .i64) ((fun _=>True)) ((fun k=>.ret (oY k))) (by rw [Tryz.ntmps184];decide) (fun k _=>M6 k)
theorem rr {id:Nat} {h:ah} {args:List AV}:(Bu).run id h args=bT (ba (bq .i64) ((fun _=>True))) ((fun k=>.ret (oY k))) h args:=rfl
theorem rm {id:Nat} {h:ah} {args:List AV}:(Bu).pan id h args=bU (ba (bq .i64) ((fun _=>True))) ((fun k=>.ret (oY k))) h args:=rfl
end
section
open Go.RowKit
end
section
open Go.RowKit
def tPI:Ty Int where
 dec:=fun | .s (.l (.d (.pd [.v (.int .i64 z)])))=>some z | _=>none
 enc:=fun z=>.s (.l (.d (.pd [.v (.int .i64 z)])))
 ok:=by
  intro A x h ρ al v hr
  split at h
  ·injection h with h;subst h;exact hr
  ·cases h
theorem Ob (i:Nat) (hi:i≤62) (x:Int) (h0:0≤x) (h1:x<4611686018427387904):bits .and .i64 x (2 ^ i-1)=x % 2 ^ i :=
 bits_mask .i64 62 (by decide) (fun n h0 h1=>by rw [IntKind.wrap_i64];omega) i hi x h0 h1
theorem IU (n:Int) (h0:0≤n) (h1:n<32768) (lo wd:Nat) (hl:lo≤62) (hw:wd≤10):bits .and .i64 (n.fdiv (2 ^ min lo 64)) (IntKind.i64.wrap (IntKind.i64.wrap (1*2 ^ min wd 64)-1))=n / 2 ^ lo % 2 ^ wd:=by
 have hp:(0:Int)<2 ^ lo:=Int.pow_pos (by decide)
 have hq:(1:Int)≤2 ^ wd:=Int.pow_pos (by decide)
 have hq2:(2:Int) ^ wd≤1024:=by
  have h2:((2 ^ wd:Nat):Int)≤((1024:Nat):Int):=Int.ofNat_le.2 (Nat.pow_le_pow_right (n:=2) (by decide) hw)
  rw [Int.natCast_pow] at h2
  exact h2
 have e1:min lo 64=lo:=by omega
 have e2:min wd 64=wd:=by omega
 have e3:IntKind.i64.wrap (1*2 ^ wd)=2 ^ wd:=by rw [IntKind.wrap_i64];omega
 have e4:IntKind.i64.wrap (2 ^ wd-1)=2 ^ wd-1:=by rw [IntKind.wrap_i64];omega
 rw [e1,e2,e3,e4,Int.fdiv_eq_ediv_of_nonneg _ (Int.le_of_lt hp)]
 have h2:0≤n / 2 ^ lo:=Int.ediv_nonneg h0 (Int.le_of_lt hp)
 have h3:n / 2 ^ lo≤n:=Int.ediv_le_self _ h0
 exact Ob wd (by omega) _ h2 (by omega)
theorem pH (n:Int) (lo wd:Nat) (hw:wd≤4):0≤n / 2 ^ lo % 2 ^ wd∧n / 2 ^ lo % 2 ^ wd<16:=by
 have hq:(0:Int)<2 ^ wd:=Int.pow_pos (by decide)
 have hq2:(2:Int) ^ wd≤16:=by
  have h2:((2 ^ wd:Nat):Int)≤((16:Nat):Int):=Int.ofNat_le.2 (Nat.pow_le_pow_right (n:=2) (by decide) hw)
  rw [Int.natCast_pow] at h2
  exact h2
 have:=Int.emod_nonneg (n / 2 ^ lo) (Int.ne_of_gt hq)
 have:=Int.emod_lt_of_pos (n / 2 ^ lo) hq
 omega
def qy (low width n:Int):Prop:=(0≤n∧n<32768)∧(low=11∧width=3∨low=7∧width=4∨low=3∧width=4∨low=0∧width=3)
theorem Ps (low width n:Int) (h:qy low width n) :
  SW Tryz.prog ⟨none,0⟩ Tryz.f224.ntmps (Tryz.f224.body.getD .skip) ⟨0,aC 0 [(bq .i64).enc low,(bq .i64).enc width,tPI.enc n],[]⟩ (es Tryz.prog Tryz.f224.results.toList (.ret (sv (oP n low.toNat width.toNat)))):=by
 obtain ⟨⟨h0,h1⟩,h⟩:=h
 refine aa (ctx:=[⟨_,t7⟩]) 4000 ?_
 rw [Tryz.ntmps224,Tryz.results224]
 simp only [Tryz.f224,Option.getD_some,aC]
 have hb:=IU n h0 h1
 rcases h with ⟨rfl,rfl⟩ | ⟨rfl,rfl⟩ | ⟨rfl,rfl⟩ | ⟨rfl,rfl⟩
 ·have hr:=pH n 11 3 (by decide)
  simp only [go_sem,tPI]
  refine bI (ctx:=[⟨_,t7⟩]) mixed [] (by kernel_rfl) ?_
  simp only [go_sem,tPI,pc,oZ]
  rw [hb 11 3 (by decide) (by decide)]
  exact ⟨by omega,rfl⟩
 ·have hr:=pH n 7 4 (by decide)
  simp only [go_sem,tPI]
  refine bI (ctx:=[⟨_,t7⟩]) mixed [] (by kernel_rfl) ?_
  simp only [go_sem,tPI,pc,oZ]
  rw [hb 7 4 (by decide) (by decide)]
  exact ⟨by omega,rfl⟩
 ·have hr:=pH n 3 4 (by decide)
  simp only [go_sem,tPI]
  refine bI (ctx:=[⟨_,t7⟩]) mixed [] (by kernel_rfl) ?_
  simp only [go_sem,tPI,pc,oZ]
  rw [hb 3 4 (by decide) (by decide)]
  exact ⟨by omega,rfl⟩
 ·have hr:=pH n 0 3 (by decide)
  simp only [go_sem,tPI]
  refine bI (ctx:=[⟨_,t7⟩]) mixed [] (by kernel_rfl) ?_
  simp only [go_sem,tPI,pc,oZ]
  rw [hb 0 3 (by decide) (by decide)]
  exact ⟨by omega,rfl⟩
def Mr:bi Tryz.prog 224 :=
 mk3 _ _ _ Tryz.func224 rfl (fun _ _=>by go_simp) (bq .i64) (bq .i64) (tPI) ((fun l w n=>qy l w n)) ((fun l w n=>.ret (sv (oP n l.toNat w.toNat)))) (by rw [Tryz.ntmps224];decide) (fun l w n h=>Ps l w n h)
theorem Mu {id:Nat} {h:ah} {args:List AV}:(Mr).run id h args=bT (rD (bq .i64) (bq .i64) (tPI) ((fun l w n=>qy l w n))) (fun x=>((fun l w n=>.ret (sv (oP n l.toNat w.toNat)))) x.1 x.2.1 x.2.2) h args:=rfl
theorem Mt {id:Nat} {h:ah} {args:List AV}:(Mr).pan id h args=bU (rD (bq .i64) (bq .i64) (tPI) ((fun l w n=>qy l w n))) (fun x=>((fun l w n=>.ret (sv (oP n l.toNat w.toNat)))) x.1 x.2.1 x.2.2) h args:=rfl
theorem FK (n:Int) (h:0≤n∧n<32768):SW Tryz.prog ⟨none,0⟩ Tryz.f185.ntmps (Tryz.f185.body.getD .skip) ⟨0,aC 0 [(bq .i64).enc n],[]⟩ (es Tryz.prog Tryz.f185.results.toList (.ret (sv (fD n)))):=by
 obtain ⟨h0,h1⟩:=h
 refine aa (ctx:=[⟨_,t7⟩,⟨_,Mr⟩]) 4000 ?_
 rw [Tryz.ntmps185,Tryz.results185]
 simp only [Tryz.f185,Option.getD_some,aC]
 have e1:n.fdiv (2 ^ min 14 64)=n / 16384:=by
  rw [show min (14:Nat) 64=14 from rfl,Int.fdiv_eq_ediv_of_nonneg _ (by decide)]
  rfl
 have e2:IntKind.i64.wrap (n / 16384+2)=n / 16384+2:=by rw [IntKind.wrap_i64];omega
 have q1:qy 11 3 n:=⟨⟨h0,h1⟩,by omega⟩
 have q2:qy 7 4 n:=⟨⟨h0,h1⟩,by omega⟩
 have q3:qy 3 4 n:=⟨⟨h0,h1⟩,by omega⟩
 have q4:qy 0 3 n:=⟨⟨h0,h1⟩,by omega⟩
 have sz:=sH
 have z1:=sz (n / 16384+2)
 have z2:(oP n 11 3).size≤3:=sz _
 have z3:(oP n 7 4).size≤3:=sz _
 have z4:(oP n 3 4).size≤3:=sz _
 have z5:(oP n 0 3).size≤3:=sz _
 have hm:maxLen=9223372036854775807:=rfl
 have c1:(⟨#[115]⟩:ByteArray).size=1:=rfl
 have c2:(⟨#[95]⟩:ByteArray).size=1:=rfl
 have c3:(⟨#[95,99]⟩:ByteArray).size=2:=rfl
 have er:fD n=⟨#[115]⟩++eT (n / 16384+2)++⟨#[95]⟩++oP n 11 3++⟨#[95,99]⟩++oP n 7 4++⟨#[95,99]⟩++oP n 3 4++⟨#[95]⟩++oP n 0 3:=by
  unfold fD oP
  rw [show n / 2 ^ 0 % 2 ^ 3=n % 8 by omega]
  rfl
 simp only [go_sem,pc,oZ,Mu,Mt,tPI,e1,e2,q1,q2,q3,q4,er,ByteArray.size_append,c1,c2,c3,hm]
 omega
def t6:bi Tryz.prog 185 :=
 mk1 _ _ _ Tryz.func185 rfl (fun _ _=>by go_simp) (bq .i64) ((fun n=>0≤n∧n<32768)) ((fun n=>.ret (sv (fD n)))) (by rw [Tryz.ntmps185];decide) (fun n h=>FK n h)
theorem Dr {id:Nat} {h:ah} {args:List AV}:(t6).run id h args=bT (ba (bq .i64) ((fun n=>0≤n∧n<32768))) ((fun n=>.ret (sv (fD n)))) h args:=rfl
theorem Dq {id:Nat} {h:ah} {args:List AV}:(t6).pan id h args=bU (ba (bq .i64) ((fun n=>0≤n∧n<32768))) ((fun n=>.ret (sv (fD n)))) h args:=rfl
theorem Pg (k n:Int):SW Tryz.prog ⟨none,0⟩ Tryz.f140.ntmps (Tryz.f140.body.getD .skip) ⟨0,aC 0 [(bq .i64).enc k,(bq .i64).enc n],[]⟩ (es Tryz.prog Tryz.f140.results.toList (.ret (gr (cX k n)))):=by
 refine aa (ctx:=[⟨_,x7⟩,⟨_,nk⟩,⟨_,Bu⟩,⟨_,t6⟩]) 4000 ?_
 rw [Tryz.ntmps140,Tryz.results140]
 simp only [Tryz.f140,Option.getD_some,aC]
 by_cases hk:k=1
 ·subst hk
  by_cases h1:n<0
  ·simp only [go_sem,h1,gr,cX,aR]
  by_cases h2:128≤n
  ·simp only [go_sem,h1,h2,gr,cX,aR]
  have h3:0≤n∧n<128:=by omega
  simp only [go_sem,h1,h2,h3,gr,cX,aR,uM,uL,lJ,lI,Fi,gF]
 ·have loop:∀ (l:List (ByteArray×Int)) (Q:Exit→St→Prop) (c:Code) (s0:St),kF k=l→l.length≤100→Wk ⟨none,0⟩ s0 ⟨0,[(0,iv k),(1,iv n),(22,gk l),(23,iv l.length),(24,iv 0)],[]⟩→(∀ i,i≤l.length→(∀ (j:Nat) (r:ByteArray×Int),j<i→l[j]? = some r→¬r.2=n)→SW Tryz.prog ⟨none,0⟩ 47 c ⟨0,[(0,iv k),(1,iv n),(22,gk l),(23,iv l.length),(24,iv i)],[]⟩ (uN ⟨none,0⟩ (fun i=>i≤l.length∧∀ (j:Nat) (r:ByteArray×Int),j<i→l[j]? = some r→¬r.2=n) (fun (i:Nat)=>(⟨0,[(0,iv k),(1,iv n),(22,gk l),(23,iv l.length),(24,iv i)],[]⟩:St)) (fun i=>l.length-i) i Q))→SW Tryz.prog ⟨none,0⟩ 47 (.loop c) s0 Q :=
   fun l Q c s0 _ _ hw hr=>cW (ι:=Nat) (fun i=>i≤l.length∧∀ (j:Nat) (r:ByteArray×Int),j<i→l[j]? = some r→¬r.2=n) _ (fun i=>l.length-i) 0 ⟨Nat.zero_le _,fun j r hj=>absurd hj (Nat.not_lt_zero j)⟩ hw (fun i hi=>hr i hi.1 hi.2)
  obtain ⟨l,hl⟩:∃ l,kF k=l:=⟨_,rfl⟩
  have hlen:l.length≤100:=by
   rw [← hl]
   unfold kF
   repeat' split
   all_goals decide
  by_cases hnil:l=[]
  have e:oY k=Iw:=by unfold oY;rw [hl,if_pos hnil]
  simp only [go_sem,hk,rr,rm,e,Iw]
  refine loop l _ _ _ hl hlen ((Wk.nilD 22 2 rfl).trans (Wk.renL [] (by simp) (by simp) (by simp) (by subst hnil;rfl) rfl)) (fun i hi hn=>?_)
  rotate_left
  have e:oY k=gk l:=by unfold oY;rw [hl,if_neg hnil]
  simp only [go_sem,hk,rr,rm,e,List.length_map]
  refine loop l _ _ _ hl hlen (Wk.renL [] (by simp) (by simp) (by simp) rfl rfl) (fun i hi hn=>?_)
  all_goals
   refine aa (ctx:=[⟨_,t6⟩]) 4000 ?_
   rcases Nat.lt_or_ge i l.length with hlt | hge
   ·have hltI:(i:Int)<l.length:=by omega
    obtain ⟨r,hr⟩:∃ r,l[i]? = some r:=⟨_,List.getElem?_eq_getElem hlt⟩
    have ei:IntKind.i64.wrap ((i:Int)+1)=((i+1:Nat):Int):=by rw [IntKind.wrap_i64];omega
    by_cases hrn:r.2=n
    ·have er:cX k n=(r.1,0):=by unfold cX;rw [if_neg hk,hl,Iu hn hr hrn]
     simp only [go_sem,hltI,hr,mY,hrn,er,gr]
    ·simp only [go_sem,hltI,hr,mY,hrn,ei]
     refine ⟨i+1,⟨hlt,fun j r' hj hr'=>?_⟩,by omega,Wk.renL [] (by simp) (by simp) (by simp) rfl rfl⟩
     by_cases e2:j=i
     ·subst e2
      rw [hr] at hr'
      injection hr' with hr'
      rw [← hr']
      exact hrn
     ·exact hn j r' (by omega) hr'
   ·obtain rfl:i=l.length:=by omega
    have hI:¬(l.length:Int)<l.length:=by omega
    have hno:=CH hn
    by_cases hs:k=6∧0≤n∧n<32768
    ·have er:cX k n=(fD n,0):=by unfold cX;rw [if_neg hk,hl,hno];simp only [hs,and_self,if_true]
     simp only [go_sem,hI,eq_true hs.1,hs.2.1,hs.2.2,Dr,Dq,er,gr]
    ·have er:cX k n=(emp,30):=by unfold cX;rw [if_neg hk,hl,hno];simp only [hs,if_false]
     by_cases a1:k=6
     ·by_cases a2:0≤n
      ·have a3:¬n<32768:=fun h=>hs ⟨a1,a2,h⟩
       simp only [go_sem,hI,eq_true a1,a2,a3,er,gr,aR]
      ·simp only [go_sem,hI,eq_true a1,a2,er,gr,aR]
     ·simp only [go_sem,hI,a1,er,gr,aR]
theorem AI (args:Array Value) (w:World):(callFunc 140 args).run Tryz.prog w=.ok (.enter 140 args) w:=by go_simp
def nameS:bi Tryz.prog 140 :=
 mk2 _ _ _ Tryz.func140 rfl AI (bq .i64) (bq .i64) ((fun _ _=>True)) ((fun k n=>.ret (gr (cX k n)))) (by rw [Tryz.ntmps140];decide) (fun k n _=>Pg k n)
theorem name_run {id:Nat} {h:ah} {args:List AV}:(nameS).run id h args=bT (cg (bq .i64) (bq .i64) ((fun _ _=>True))) (fun x=>((fun k n=>.ret (gr (cX k n)))) x.1 x.2) h args:=rfl
theorem name_pan {id:Nat} {h:ah} {args:List AV}:(nameS).pan id h args=bU (cg (bq .i64) (bq .i64) ((fun _ _=>True))) (fun x=>((fun k n=>.ret (gr (cX k n)))) x.1 x.2) h args:=rfl
end
end Go.Proofs.YtnhbidpdadkcjaaGreatDoor
