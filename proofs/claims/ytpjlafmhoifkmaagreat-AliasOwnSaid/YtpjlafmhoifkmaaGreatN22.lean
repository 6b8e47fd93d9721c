import Derived.Test.YtpjlafmhoifkmaaGreatN19
import Derived.Test.YtpjlafmhoifkmaaGreatN21
set_option linter.unusedVariables false
set_option linter.unusedSimpArgs false
set_option maxRecDepth 100000
set_option maxHeartbeats 8000000
namespace Go.Proofs.YtpjlafmhoifkmaaGreat
section
open Go.RowKit
def rVi (size ones turn:Nat) (n:Nat):Nat:=(List.range n).foldl (fun v i=>if (i % size+turn) % size<ones then v ||| 2 ^ i else v) 0
theorem t8 (size ones turn n:Nat):rVi size ones turn (n+1)=if (n % size+turn) % size<ones then rVi size ones turn n ||| 2 ^ n else rVi size ones turn n:=by
 unfold rVi
 rw [List.range_succ,List.foldl_append]
 rfl
theorem D3 (size ones turn:Nat):∀ n,n≤64→rVi size ones turn n<2 ^ 64
 | 0,_=>by show 0<2 ^ 64;decide
 | n+1,h=>by
  rw [t8]
  have ih:=D3 size ones turn n (by omega)
  split
  ·exact Nat.or_lt_two_pow ih (Nat.pow_lt_pow_right (by decide) (by omega))
  ·exact ih
theorem EA (i:Nat) (h:i<64):IntKind.u64.wrap (1*2 ^ min i 64)=((2 ^ i:Nat):Int):=by
 have h1:2 ^ i<2 ^ 64:=Nat.pow_lt_pow_right (by decide) h
 have h2:1*2 ^ i % 18446744073709551616=2 ^ i:=by rw [Nat.one_mul];exact Nat.mod_eq_of_lt h1
 have h3:=sV 1 i (by omega)
 rw [h2] at h3
 exact h3
def rvI (s o t w:Nat) (i:Nat):St:=⟨0,[(0,iv s),(1,iv o),(2,iv t),(3,iv w),(9,uv (rVi s o t i)),(10,iv i)],[]⟩
theorem Gk (s o tu w:Nat) (h:2≤s∧s≤64∧tu<s∧(w=32∨w=64)):SW Tryz.prog ⟨none,0⟩ Tryz.f194.ntmps (Tryz.f194.body.getD .skip) ⟨0,ag 0 [(ar .i64).enc (s:Int),(ar .i64).enc (o:Int),(ar .i64).enc (tu:Int),(ar .i64).enc (w:Int)],[]⟩ (aH Tryz.prog Tryz.f194.results.toList (.ret (uv (lg s o tu w)))):=by
 obtain ⟨h1,h2,h3,h4⟩:=h
 have t:∀ n:Nat,Int.toNat (n:Int)=n:=fun _=>rfl
 refine aa (ctx:=[]) 4000 ?_
 rw [Tryz.ntmps194,Tryz.results194]
 simp only [Tryz.f194,Option.getD_some,ag]
 simp only [go_sem]
 refine cM (ι:=Nat) (fun i=>i≤w) (rvI s o tu w) (fun i=>w-i) 0 (Nat.zero_le _) (Wk.renL [] (by simp) (Nat.zero_le _) (by decide) rfl rfl) ?_
 intro i hi
 refine aa (ctx:=[]) 4000 ?_
 have hb:=D3 s o tu i (by omega)
 by_cases hlt:i<w
 ·have hltI:(i:Int)<w:=by omega
  have i64:i<64:=by omega
  have s0:¬(s:Int)=0:=by omega
  have e1:Int.tmod (i:Int) (s:Int)=((i % s:Nat):Int):=rfl
  have m1:i % s<s:=Nat.mod_lt _ (by omega)
  have e2:IntKind.i64.wrap (((i % s:Nat):Int)+tu)=((i % s+tu:Nat):Int):=by rw [IntKind.wrap_i64];omega
  have e3:Int.tmod ((i % s+tu:Nat):Int) (s:Int)=(((i % s+tu) % s:Nat):Int):=rfl
  have e4:IntKind.u64.wrap (i:Int)=(i:Int):=by rw [o7];omega
  have e5:=EA i i64
  have e6:=J9 (rVi s o tu i) (2 ^ i) hb (Nat.pow_lt_pow_right (by decide) i64)
  have e7:IntKind.i64.wrap ((i:Int)+1)=((i+1:Nat):Int):=by rw [IntKind.wrap_i64];omega
  have hn:=t8 s o tu i
  have i0:(0:Int)≤i:=Int.natCast_nonneg _
  by_cases hc:(i % s+tu) % s<o
  ·have hcI:(((i % s+tu) % s:Nat):Int)<o:=by omega
   rw [if_pos hc] at hn
   simp only [go_sem,rvI,hltI,s0,e1,e2,e3,e4,e5,e6,e7,hcI,t,i0]
   exact ⟨i+1,by omega,by omega,Wk.renL [] (by simp) (Nat.zero_le _) (by decide) (by rw [hn];rfl) rfl⟩
  ·have hcI:¬(((i % s+tu) % s:Nat):Int)<o:=by omega
   rw [if_neg hc] at hn
   simp only [go_sem,rvI,hltI,s0,e1,e2,e3,e4,e5,e6,e7,hcI,t,i0]
   exact ⟨i+1,by omega,by omega,Wk.renL [] (by simp) (Nat.zero_le _) (by decide) (by rw [hn];rfl) rfl⟩
 ·obtain rfl:i=w:=by omega
  have hltI:¬(i:Int)<i:=by omega
  have e:lg s o tu i=rVi s o tu i:=rfl
  simp only [go_sem,rvI,hltI,e]
def rvQ (s o t w:Int):Prop:=2≤s∧s≤64∧0≤o∧0≤t∧t<s∧(w=32∨w=64)
def BB:aQ Tryz.prog 194 :=
 mk4 _ _ _ Tryz.func194 rfl (fun _ _=>by go_simp) (ar .i64) (ar .i64) (ar .i64) (ar .i64) (rvQ) ((fun s o t w=>.ret (uv (lg s.toNat o.toNat t.toNat w.toNat)))) (by rw [Tryz.ntmps194];decide) (fun s o t w h=>by
 obtain ⟨h1,h2,h3,h4,h5,h6⟩:=h
 obtain ⟨s,rfl⟩:=Int.eq_ofNat_of_zero_le (show 0≤s by omega)
 obtain ⟨o,rfl⟩:=Int.eq_ofNat_of_zero_le h3
 obtain ⟨t,rfl⟩:=Int.eq_ofNat_of_zero_le h4
 obtain ⟨w,rfl⟩:=Int.eq_ofNat_of_zero_le (show 0≤w by omega)
 exact Gk s o t w ⟨by omega,by omega,by omega,by omega⟩)
theorem tj {id:Nat} {h:ah} {args:List AV}:(BB).run id h args=bm (qB (ar .i64) (ar .i64) (ar .i64) (ar .i64) (rvQ)) (fun x=>((fun s o t w=>.ret (uv (lg s.toNat o.toNat t.toNat w.toNat)))) x.1 x.2.1 x.2.2.1 x.2.2.2) h args:=rfl
theorem sW {id:Nat} {h:ah} {args:List AV}:(BB).pan id h args=bt (qB (ar .i64) (ar .i64) (ar .i64) (ar .i64) (rvQ)) (fun x=>((fun s o t w=>.ret (uv (lg s.toNat o.toNat t.toNat w.toNat)))) x.1 x.2.1 x.2.2.1 x.2.2.2) h args:=rfl
def nB (s:Int):Int:=if s=2 then 60 else if s=4 then 56 else if s=8 then 48 else if s=16 then 32 else 0
def BZ:aQ Tryz.prog 191 :=
 mk1 _ _ _ Tryz.func191 rfl (fun _ _=>by go_simp) (ar .i64) ((fun _=>True)) ((fun s=>.ret (iv (nB s)))) (by rw [Tryz.ntmps191];decide) (fun s _=>by
 refine aa (ctx:=[]) 4000 ?_
 rw [Tryz.ntmps191,Tryz.results191]
 simp only [Tryz.f191,Option.getD_some,ag]
 unfold nB
 by_cases h1:s=2
 ·simp only [go_sem,h1]
 have b1:(s==2)=false:=by simpa using h1
 by_cases h2:s=4
 ·simp only [go_sem,h2]
 have b2:(s==4)=false:=by simpa using h2
 by_cases h3:s=8
 ·simp only [go_sem,h3]
 have b3:(s==8)=false:=by simpa using h3
 by_cases h4:s=16
 ·simp only [go_sem,h4]
 have b4:(s==16)=false:=by simpa using h4
 simp only [go_sem,h1,h2,h3,h4,b1,b2,b3,b4])
theorem t9 {id:Nat} {h:ah} {args:List AV}:(BZ).run id h args=bm (av (ar .i64) ((fun _=>True))) ((fun s=>.ret (iv (nB s)))) h args:=rfl
theorem sL {id:Nat} {h:ah} {args:List AV}:(BZ).pan id h args=bt (av (ar .i64) ((fun _=>True))) ((fun s=>.ret (iv (nB s)))) h args:=rfl
end
section
open Go.RowKit
def rPi (v n:Nat):Nat:=(List.range n).foldl (fun s i=>s+v / 2 ^ i % 2) 0
theorem t7 (v n:Nat):rPi v (n+1)=rPi v n+v / 2 ^ n % 2:=by
 unfold rPi
 rw [List.range_succ,List.foldl_append]
 rfl
theorem Ba (v:Nat):∀ n,rPi v n≤n
 | 0=>Nat.le_refl 0
 | n+1=>by
  rw [t7]
  have:=Ba v n
  omega
def ptA (v w:Nat) (k:Nat):St:=⟨0,[(0,uv v),(1,iv w),(8,iv (szI k))],[]⟩
def ptB (v w s:Nat) (i:Nat):St:=⟨0,[(0,uv v),(1,iv w),(8,iv s),(9,iv (rPi v i)),(10,iv i)],[]⟩
def ptC (v w s o:Nat) (x:Nat×Nat):St:=⟨0,[(0,uv v),(1,iv w),(8,iv s),(9,iv o),(11,iv x.2)],[]⟩
def rQ:Option (Nat×Nat×Nat)→AV
 | some (s,o,t)=>.tup [.l (.v (.int .i64 (s:Int))),.l (.v (.int .i64 (o:Int))),.l (.v (.int .i64 (t:Int))),.l (.v (.int .i64 0))]
 | none=>.tup [.l (.v (.int .i64 0)),.l (.v (.int .i64 0)),.l (.v (.int .i64 0)),.l (.v (.int .i64 20))]
theorem MZ {w:Nat} (hw:w=32∨w=64) {k:Nat} (h:k<(cJ w).length):∃ s,(cJ w).drop k=s::(cJ w).drop (k+1)∧szI k=(s:Int)∧szI (k+1)=(s:Int)*2∧2≤s∧s≤w:=by
 rcases hw with rfl | rfl
 ·have:k=0∨k=1∨k=2∨k=3∨k=4:=by have:k<5:=h;omega
  rcases this with rfl | rfl | rfl | rfl | rfl<;>exact ⟨_,rfl,rfl,rfl,by decide,by decide⟩
 ·have:k=0∨k=1∨k=2∨k=3∨k=4∨k=5:=by have:k<6:=h;omega
  rcases this with rfl | rfl | rfl | rfl | rfl | rfl<;>exact ⟨_,rfl,rfl,rfl,by decide,by decide⟩
theorem I7 {w:Nat} (hw:w=32∨w=64):(w:Int)<szI (cJ w).length:=by
 rcases hw with rfl | rfl<;>decide
theorem I2 {w:Nat} (hw:w=32∨w=64):(cJ w).length≤6:=by
 rcases hw with rfl | rfl<;>decide
theorem uP (v w:Nat) (hv:v<18446744073709551616) (hw:w=32∨w=64):SW Tryz.prog ⟨none,0⟩ Tryz.f190.ntmps (Tryz.f190.body.getD .skip) ⟨0,ag 0 [tU.enc (v:Int),(ar .i64).enc (w:Int)],[]⟩ (aH Tryz.prog Tryz.f190.results.toList (.ret (rQ (iG v w)))):=by
 have t:∀ n:Nat,Int.toNat (n:Int)=n:=fun _=>rfl
 refine aa (ctx:=[⟨_,Cy⟩]) 4000 ?_
 rw [Tryz.ntmps190,Tryz.results190]
 simp only [Tryz.f190,Option.getD_some,ag]
 have hbad:decide (¬(w:Int)=32∧¬(w:Int)=64)=false:=by
  apply decide_eq_false
  omega
 simp only [go_sem,tU,Bg,Cn,hbad]
 refine cM (ι:=Nat) (fun k=>k≤(cJ w).length∧gE v w ((cJ w).drop k)=iG v w) (ptA v w) (fun k=>(cJ w).length-k) 0 ⟨Nat.zero_le _,rfl⟩ (Wk.renL [] (by simp) (Nat.zero_le _) (by decide) rfl rfl) ?_
 rintro k ⟨hk,hinv⟩
 refine aa (ctx:=[]) 4000 ?_
 by_cases hlt:k<(cJ w).length
 ·obtain ⟨s,hd,hs1,hs2,s2,sw⟩:=MZ hw hlt
  have hlen:=I2 hw
  have hle:(s:Int)≤w:=by omega
  rw [hd,gE] at hinv
  have n2:IntKind.i64.wrap ((s:Int)*2)=(s:Int)*2:=by rw [IntKind.wrap_i64];omega
  have next:gE v w ((cJ w).drop (k+1))=iG v w→∀ tm,cR tm 0=uv v→cR tm 1=iv w→cR tm 8=iv ((s:Int)*2)→∀ nx,Wk ⟨none,0⟩ ⟨nx,tm,[]⟩ (ptA v w (k+1)):=by
   intro _ tm h0 h1 h8 nx
   exact Wk.renL [] (by simp) (Nat.zero_le _) (by decide) (by simp [ptA,h0,h1,h8,hs2,AV.ren,SV.ren,LV.ren]) rfl
  simp only [go_sem,ptA,hs1,hle]
  refine cM (ι:=Nat) (fun i=>i≤s) (ptB v w s) (fun i=>s-i) 0 (Nat.zero_le _) (Wk.renL [] (by simp) (Nat.zero_le _) (by decide) rfl rfl) ?_
  intro i hi
  refine aa (ctx:=[]) 4000 ?_
  by_cases hlt2:i<s
  ·have hltI:(i:Int)<s:=by omega
   have e1:IntKind.u64.wrap (i:Int)=(i:Int):=by rw [o7];omega
   have e2:=sA v i (by omega)
   have e3:Int.tmod ((v / 2 ^ i:Nat):Int) 2=((v / 2 ^ i % 2:Nat):Int):=rfl
   have e4:IntKind.i64.wrap ((v / 2 ^ i % 2:Nat):Int)=((v / 2 ^ i % 2:Nat):Int):=by rw [IntKind.wrap_i64];omega
   have hb:=Ba v i
   have e5:IntKind.i64.wrap ((rPi v i:Int)+((v / 2 ^ i % 2:Nat):Int))=((rPi v (i+1):Nat):Int):=by rw [t7,IntKind.wrap_i64];omega
   have e6:IntKind.i64.wrap ((i:Int)+1)=((i+1:Nat):Int):=by rw [IntKind.wrap_i64];omega
   have i0:(0:Int)≤i:=Int.natCast_nonneg _
   simp only [go_sem,ptB,hltI,e1,e2,e3,e4,e5,e6,t,i0]
   exact ⟨i+1,by omega,by omega,Wk.renL [] (by simp) (Nat.zero_le _) (by decide) rfl rfl⟩
  ·obtain rfl:i=s:=by omega
   have hltI:¬(i:Int)<i:=by omega
   have ho:rPi v i=pf v i:=rfl
   obtain ⟨o,hoo⟩:∃ o,pf v i=o:=⟨_,rfl⟩
   rw [hoo] at ho hinv
   by_cases ho1:o<1
   ·have hoI:(o:Int)<1:=by omega
    rw [if_neg (by omega)] at hinv
    simp only [go_sem,ptB,hltI,ho,hoI,n2]
    exact ⟨k+1,⟨by omega,hinv⟩,by omega,next hinv _ rfl rfl rfl _⟩
   by_cases ho2:i≤o
   ·have hoI:¬(o:Int)<1:=by omega
    have hoI2:(i:Int)≤o:=by omega
    rw [if_neg (by omega)] at hinv
    simp only [go_sem,ptB,hltI,ho,hoI,hoI2,n2]
    exact ⟨k+1,⟨by omega,hinv⟩,by omega,next hinv _ rfl rfl rfl _⟩
   ·have hoI:¬(o:Int)<1:=by omega
    have hoI2:¬(i:Int)≤o:=by omega
    rw [if_pos (by omega)] at hinv
    simp only [go_sem,ptB,hltI,ho,hoI,hoI2]
    refine cM (ι:=Nat×Nat) (fun x=>jp v i o w x.1 x.2=jp v i o w 64 0∧x.1+x.2=64) (ptC v w i o) (fun x=>64-x.2) (64,0) ⟨rfl,rfl⟩ (Wk.renL [] (by simp) (Nat.zero_le _) (by decide) rfl rfl) ?_
    rintro ⟨f,tu⟩ ⟨j1,j2⟩
    simp only at j1 j2
    refine aa (ctx:=[⟨_,BB⟩]) 4000 ?_
    by_cases hlt3:tu<i
    ·obtain ⟨f',rfl⟩:∃ f',f=f'+1:=⟨f-1,by omega⟩
     rw [jp,if_pos hlt3] at j1
     have hltI3:(tu:Int)<i:=by omega
     have hq:rvQ i o tu w:=by unfold rvQ;omega
     have e6:IntKind.i64.wrap ((tu:Int)+1)=((tu+1:Nat):Int):=by rw [IntKind.wrap_i64];omega
     by_cases heq:lg i o tu w=v
     ·rw [if_pos heq] at j1
      rw [← j1] at hinv
      have hF:iG v w=some (i,o,tu):=hinv.symm
      have hbq:(((lg i o tu w:Nat):Int)==(v:Int))=true:=by rw [heq];simp
      simp only [go_sem,ptC,hltI3,tj,sW,hq,t,hbq,hF,rQ]
     ·rw [if_neg heq] at j1
      have hbq:(((lg i o tu w:Nat):Int)==(v:Int))=false:=by
       simp only [beq_eq_false_iff_ne,ne_eq]
       exact fun h=>heq (Int.ofNat.inj h)
      simp only [go_sem,ptC,hltI3,tj,sW,hq,t,hbq,e6]
      exact ⟨(f',tu+1),⟨j1,by simp only;omega⟩,by simp only;omega,Wk.renL [] (by simp) (Nat.zero_le _) (by decide) rfl rfl⟩
    ·have hltI3:¬(tu:Int)<i:=by omega
     have hT:jp v i o w 64 0=none:=by
      rw [← j1]
      cases f
      ·rfl
      ·rw [jp,if_neg hlt3]
     rw [hT] at hinv
     simp only [go_sem,ptC,hltI3,n2]
     exact ⟨k+1,⟨by omega,hinv⟩,by omega,next hinv _ rfl rfl rfl _⟩
 ·obtain rfl:k=(cJ w).length:=by omega
  have he:=I7 hw
  have hle:¬szI (cJ w).length≤(w:Int):=by omega
  rw [List.drop_length,gE] at hinv
  simp only [go_sem,ptA,hle,← hinv,rQ]
def oW:aQ Tryz.prog 190 :=
 mk2 _ _ _ Tryz.func190 rfl (fun _ _=>by go_simp) (tU) (ar .i64) ((fun v w=>(0≤v∧v<18446744073709551616)∧(w=32∨w=64))) ((fun v w=>.ret (rQ (iG v.toNat w.toNat)))) (by rw [Tryz.ntmps190];decide) (fun v w h=>by
 obtain ⟨⟨h1,h2⟩,h3⟩:=h
 obtain ⟨v,rfl⟩:=Int.eq_ofNat_of_zero_le h1
 obtain ⟨w,rfl⟩:=Int.eq_ofNat_of_zero_le (show 0≤w by omega)
 exact uP v w (by omega) (by omega))
theorem jY {id:Nat} {h:ah} {args:List AV}:(oW).run id h args=bm (cq (tU) (ar .i64) ((fun v w=>(0≤v∧v<18446744073709551616)∧(w=32∨w=64)))) (fun x=>((fun v w=>.ret (rQ (iG v.toNat w.toNat)))) x.1 x.2) h args:=rfl
theorem jQ {id:Nat} {h:ah} {args:List AV}:(oW).pan id h args=bt (cq (tU) (ar .i64) ((fun v w=>(0≤v∧v<18446744073709551616)∧(w=32∨w=64)))) (fun x=>((fun v w=>.ret (rQ (iG v.toNat w.toNat)))) x.1 x.2) h args:=rfl
theorem vP {v w:Nat} (hw:w=32∨w=64) {s o t:Nat} (h:iG v w=some (s,o,t)):2≤s∧s≤w∧1≤o∧o<s∧t<s:=by
 have:=ia h
 have hm:=mg hw this.1
 simp only at this hm
 omega
def pG (v w:Nat):Int×Int×Int×Int:=match iG v w with
 | some (s,o,t)=>(if (s:Int)=64 then 1 else 0,t,nB s+o-1,0)
 | none=>(0,0,0,20)
theorem Kq (s:Int):0≤nB s∧nB s≤60:=by
 unfold nB;repeat' split
 all_goals omega
def oL:aQ Tryz.prog 168 :=
 mk2 _ _ _ Tryz.func168 rfl (fun _ _=>by go_simp) (tU) (ar .i64) ((fun v w=>(0≤v∧v<18446744073709551616)∧(w=32∨w=64))) ((fun v w=>.ret (lc (pG v.toNat w.toNat)))) (by rw [Tryz.ntmps168];decide) (fun v w h=>by
 refine aa (ctx:=[⟨_,oW⟩,⟨_,BZ⟩]) 4000 ?_
 rw [Tryz.ntmps168,Tryz.results168]
 simp only [Tryz.f168,Option.getD_some,ag]
 obtain ⟨⟨h1,h2⟩,h3⟩:=h
 obtain ⟨v,rfl⟩:=Int.eq_ofNat_of_zero_le h1
 obtain ⟨w,rfl⟩:=Int.eq_ofNat_of_zero_le (show 0≤w by omega)
 have t:∀ n:Nat,Int.toNat (n:Int)=n:=fun _=>rfl
 unfold pG
 simp only [t]
 cases hF:iG v w with
 | none=>simp only [go_sem,tU,jY,jQ,h1,h2,h3,t,hF,rQ,lc]
 | some y =>
  obtain ⟨s,o,tt⟩:=y
  have hb:=vP (by omega) hF
  have ht:=Kq s
  have e1:IntKind.i64.wrap (nB s+o)=nB s+o:=by rw [IntKind.wrap_i64];omega
  have e2:IntKind.i64.wrap (nB s+o-1)=nB s+o-1:=by rw [IntKind.wrap_i64];omega
  by_cases h64:(s:Int)=64
  ·have b64:((s:Int)==64)=true:=by simpa using h64
   simp only [go_sem,tU,jY,jQ,h1,h2,h3,t,hF,rQ,lc,b64,t9,sL,e1,e2,eq_true h64]
  ·have b64:((s:Int)==64)=false:=by simpa using h64
   simp only [go_sem,tU,jY,jQ,h1,h2,h3,t,hF,rQ,lc,b64,t9,sL,e1,e2,h64])
theorem mL {id:Nat} {h:ah} {args:List AV}:(oL).run id h args=bm (cq (tU) (ar .i64) ((fun v w=>(0≤v∧v<18446744073709551616)∧(w=32∨w=64)))) (fun x=>((fun v w=>.ret (lc (pG v.toNat w.toNat)))) x.1 x.2) h args:=rfl
theorem ne {id:Nat} {h:ah} {args:List AV}:(oL).pan id h args=bt (cq (tU) (ar .i64) ((fun v w=>(0≤v∧v<18446744073709551616)∧(w=32∨w=64)))) (fun x=>((fun v w=>.ret (lc (pG v.toNat w.toNat)))) x.1 x.2) h args:=rfl
def gg (v w:Nat):Int×Int:=if (iG v w).isSome then ((ey (pG v w)).1,0) else (0,20)
def rb:aQ Tryz.prog 140 :=
 mk2 _ _ _ Tryz.func140 rfl (fun _ _=>by go_simp) (tU) (ar .i64) ((fun v w=>(0≤v∧v<18446744073709551616)∧(w=32∨w=64))) ((fun v w=>.ret (de (gg v.toNat w.toNat)))) (by rw [Tryz.ntmps140];decide) (fun v w h=>by
 refine aa (ctx:=[⟨_,oL⟩]) 4000 ?_
 rw [Tryz.ntmps140,Tryz.results140]
 simp only [Tryz.f140,Option.getD_some,ag]
 obtain ⟨⟨h1,h2⟩,h3⟩:=h
 obtain ⟨v,rfl⟩:=Int.eq_ofNat_of_zero_le h1
 obtain ⟨w,rfl⟩:=Int.eq_ofNat_of_zero_le (show 0≤w by omega)
 have t:∀ n:Nat,Int.toNat (n:Int)=n:=fun _=>rfl
 simp only [t]
 cases hF:iG v w with
 | none =>
  have e:pG v w=(0,0,0,20):=by unfold pG;rw [hF]
  have e2:gg v w=(0,20):=by unfold gg;rw [hF];rfl
  simp only [go_sem,tU,mL,ne,h1,h2,h3,t,e,lc,e2,de]
 | some y =>
  have e2:gg v w=((ey (pG v w)).1,0):=by unfold gg;rw [hF];rfl
  obtain ⟨r,hr⟩:∃ r,pG v w=r:=⟨_,rfl⟩
  have e3:r.2.2.2=0:=by rw [← hr];unfold pG;rw [hF]
  rw [hr] at e2
  simp only [go_sem,tU,mL,ne,h1,h2,h3,t,hr,lc,e2,e3,de,ey])
theorem gK {id:Nat} {h:ah} {args:List AV}:(rb).run id h args=bm (cq (tU) (ar .i64) ((fun v w=>(0≤v∧v<18446744073709551616)∧(w=32∨w=64)))) (fun x=>((fun v w=>.ret (de (gg v.toNat w.toNat)))) x.1 x.2) h args:=rfl
theorem gL {id:Nat} {h:ah} {args:List AV}:(rb).pan id h args=bt (cq (tU) (ar .i64) ((fun v w=>(0≤v∧v<18446744073709551616)∧(w=32∨w=64)))) (fun x=>((fun v w=>.ret (de (gg v.toNat w.toNat)))) x.1 x.2) h args:=rfl
theorem vp {v w:Nat} (hw:w=32∨w=64):(gg v w).2=if (cN v w).isSome then 0 else 20:=by
 unfold gg
 rw [yx hw]
 split<;>rfl
end
section
open Go.RowKit
def cL:aQ Tryz.prog 136 :=
 mk3 _ _ _ Tryz.func136 rfl (fun _ _=>by go_simp) (ar .i64) (ar .i64) (ar .i64) ((fun _ _ _=>True)) ((fun f a b=>.ret (cD (f,a,b)))) (by rw [Tryz.ntmps136];decide) (fun f a b _=>by
 refine aa (ctx:=[]) 4000 ?_
 rw [Tryz.ntmps136,Tryz.results136]
 simp only [Tryz.f136,Option.getD_some,ag]
 simp only [go_sem,cD,dx])
theorem iW {id:Nat} {h:ah} {args:List AV}:(cL).run id h args=bm (gp (ar .i64) (ar .i64) (ar .i64) ((fun _ _ _=>True))) (fun x=>((fun f a b=>.ret (cD (f,a,b)))) x.1 x.2.1 x.2.2) h args:=rfl
theorem iE {id:Nat} {h:ah} {args:List AV}:(cL).pan id h args=bt (gp (ar .i64) (ar .i64) (ar .i64) ((fun _ _ _=>True))) (fun x=>((fun f a b=>.ret (cD (f,a,b)))) x.1 x.2.1 x.2.2) h args:=rfl
def raS:aQ Tryz.prog 131 :=
 mk2 _ _ _ Tryz.func131 rfl (fun _ _=>by go_simp) (ar .i64) (ar .i64) ((fun _ _=>True)) ((fun a b=>.ret (cD (7,a,b)))) (by rw [Tryz.ntmps131];decide) (fun a b _=>by
 refine aa (ctx:=[⟨_,cL⟩]) 4000 ?_
 rw [Tryz.ntmps131,Tryz.results131]
 simp only [Tryz.f131,Option.getD_some,ag]
 simp only [go_sem,iW,iE,cD,dx])
theorem Jp {id:Nat} {h:ah} {args:List AV}:(raS).run id h args=bm (cq (ar .i64) (ar .i64) ((fun _ _=>True))) (fun x=>((fun a b=>.ret (cD (7,a,b)))) x.1 x.2) h args:=rfl
theorem Ix {id:Nat} {h:ah} {args:List AV}:(raS).pan id h args=bt (cq (ar .i64) (ar .i64) ((fun _ _=>True))) (fun x=>((fun a b=>.ret (cD (7,a,b)))) x.1 x.2) h args:=rfl
def rbS:aQ Tryz.prog 134 :=
 mk1 _ _ _ Tryz.func134 rfl (fun _ _=>by go_simp) (ar .i64) ((fun _=>True)) ((fun b=>.ret (cD (8,0,b)))) (by rw [Tryz.ntmps134];decide) (fun b _=>by
 refine aa (ctx:=[⟨_,cL⟩]) 4000 ?_
 rw [Tryz.ntmps134,Tryz.results134]
 simp only [Tryz.f134,Option.getD_some,ag]
 simp only [go_sem,iW,iE,cD,dx])
theorem Kb {id:Nat} {h:ah} {args:List AV}:(rbS).run id h args=bm (av (ar .i64) ((fun _=>True))) ((fun b=>.ret (cD (8,0,b)))) h args:=rfl
theorem I8 {id:Nat} {h:ah} {args:List AV}:(rbS).pan id h args=bt (av (ar .i64) ((fun _=>True))) ((fun b=>.ret (cD (8,0,b)))) h args:=rfl
def rcS:aQ Tryz.prog 135 :=
 mk1 _ _ _ Tryz.func135 rfl (fun _ _=>by go_simp) (ar .i64) ((fun _=>True)) ((fun b=>.ret (cD (9,0,b)))) (by rw [Tryz.ntmps135];decide) (fun b _=>by
 refine aa (ctx:=[⟨_,cL⟩]) 4000 ?_
 rw [Tryz.ntmps135,Tryz.results135]
 simp only [Tryz.f135,Option.getD_some,ag]
 simp only [go_sem,iW,iE,cD,dx])
theorem J8 {id:Nat} {h:ah} {args:List AV}:(rcS).run id h args=bm (av (ar .i64) ((fun _=>True))) ((fun b=>.ret (cD (9,0,b)))) h args:=rfl
theorem Iu {id:Nat} {h:ah} {args:List AV}:(rcS).pan id h args=bt (av (ar .i64) ((fun _=>True))) ((fun b=>.ret (cD (9,0,b)))) h args:=rfl
def vL:aQ Tryz.prog 138 :=
 mk1 _ _ _ Tryz.func138 rfl (fun _ _=>by go_simp) (ez) ((fun _=>True)) ((fun q=>.ret (iv (an q)))) (by rw [Tryz.ntmps138];decide) (fun q _=>by
 refine aa (ctx:=[]) 4000 ?_
 rw [Tryz.ntmps138,Tryz.results138]
 simp only [Tryz.f138,Option.getD_some,ag]
 cases q<;>simp only [go_sem,an])
theorem yf {id:Nat} {h:ah} {args:List AV}:(vL).run id h args=bm (av (ez) ((fun _=>True))) ((fun q=>.ret (iv (an q)))) h args:=rfl
theorem ze {id:Nat} {h:ah} {args:List AV}:(vL).pan id h args=bt (av (ez) ((fun _=>True))) ((fun q=>.ret (iv (an q)))) h args:=rfl
def rpI (l:List Int) (i:Nat):St:=⟨2,[(0,.s (.l (.sl 0 0 l.length))),(3,.s (.l (.sl 1 0 i))),(4,iv i)],[(0,some (cX.blk l)),(1,some (aY.blk (aU (l.take i))))]⟩
theorem Af (l:List Int) (h:l.length≤20∧∀ z∈l,1≤z):SW Tryz.prog ⟨none,0⟩ Tryz.f133.ntmps (Tryz.f133.body.getD .skip) ⟨1,ag 0 [.s (.l (.sl 0 0 l.length))],cn 0 [cX.blk l]⟩
  (fy Tryz.prog Tryz.f133.results.toList 0 (ee aY (fun l (_:Unit)=>aU l) (l,()))):=by
 obtain ⟨h,hz1⟩:=h
 refine aa (ctx:=[]) 4000 ?_
 rw [Tryz.ntmps133,Tryz.results133]
 simp only [Tryz.f133,Option.getD_some,ag]
 simp only [go_sem,RowL.blk,cX]
 refine cM (ι:=Nat) (fun i=>i≤l.length) (rpI l) (fun i=>l.length-i) 0 (Nat.zero_le _) ((Wk.nil 3 75 3 rfl).trans (Wk.renL [0,49] (by simp) (Nat.le_refl 2) (by decide) rfl ?_)) ?_
 ·simp [rpI,hget,Blk.ren,RowL.blk,cX,aY,dx,aU,LV.ren,Function.comp_def]
 intro i hi
 refine aa (ctx:=[⟨_,cL⟩]) 4000 ?_
 by_cases hlt:i<l.length
 ·have hltI:(i:Int)<l.length:=by omega
  obtain ⟨z,hz⟩:∃ z,l[i]? = some z:=⟨_,List.getElem?_eq_getElem hlt⟩
  have hz1':=hz1 z (List.mem_of_getElem? hz)
  have ei:IntKind.i64.wrap ((i:Int)+1)=((i+1:Nat):Int):=by rw [IntKind.wrap_i64];omega
  have hsn:=nu hz
  have hm:i+1≤maxLen:=by unfold maxLen;omega
  have hb:(i+1)*24≤140737488355328:=by omega
  have hl:(aU (l.take i)).length=i:=by rw [jg,List.length_take];omega
  have htk:List.take i (List.map dx (aU (l.take i)))=List.map dx (aU (l.take i)):=List.take_of_length_le (by rw [List.length_map,hl];exact Nat.le_refl _)
  by_cases h1:z≤2
  ·have e:gk z=(z,0,1):=by unfold gk;rw [if_pos (by omega)]
   simp only [go_sem,rpI,RowL.blk,cX,aY,hltI,hlt,hz,h1,iW,iE,cD,dx,hm,hb,ei,htk]
   exact ⟨Nat.le_of_eq hl.symm,i+1,by omega,by omega,Wk.renL [0,306] (by simp) (Nat.le_refl 2) (by decide) rfl (by simp only [rpI,RowL.blk,cX,aY,hsn,e];simp [hget,Blk.ren,dx,LV.ren,Function.comp_def])⟩
  ·have e:gk z=(z,0,31):=by unfold gk;rw [if_neg (by omega)]
   simp only [go_sem,rpI,RowL.blk,cX,aY,hltI,hlt,hz,h1,iW,iE,cD,dx,hm,hb,ei,htk]
   exact ⟨Nat.le_of_eq hl.symm,i+1,by omega,by omega,Wk.renL [0,290] (by simp) (Nat.le_refl 2) (by decide) rfl (by simp only [rpI,RowL.blk,cX,aY,hsn,e];simp [hget,Blk.ren,dx,LV.ren,Function.comp_def])⟩
 ·obtain rfl:i=l.length:=by omega
  have hltI:¬(l.length:Int)<l.length:=by omega
  simp only [go_sem,rpI,RowL.blk,cX,aY,hltI,List.take_length,dE,cA,ee]
  have e:=jg l
  rw [← e]
  exact iY (st:=⟨_,_,_⟩) (k:=aY.blk (aU l)) rfl rfl (aY.blk_ren _)
def bQ:aQ Tryz.prog 133 :=
 IU _ _ _ Tryz.func133 rfl (fun _ _=>by go_simp) cX aY xw0 (fun l _=>l.length≤20∧∀ z∈l,1≤z) (fun l _=>aU l) (by rw [Tryz.ntmps133];decide) (fun l x h=>Af l h)
theorem wA {id:Nat} {h:ah} {args:List AV}:bQ.run id h args=bT 0 (lb cX xw0 (fun l _=>l.length≤20∧∀ z∈l,1≤z)) (ee aY (fun l _=>aU l)) id h args:=rfl
theorem uo {id:Nat} {h:ah} {args:List AV}:bQ.pan id h args=none:=rfl
def w5:aQ Tryz.prog 66 :=
 mk2 _ _ _ Tryz.func66 rfl (fun _ _=>by go_simp) (am ae) (ar .i64) ((fun _ f=>fq f)) ((fun x f=>.ret (ki (cO x f)))) (by rw [Tryz.ntmps66];decide) (fun x f h=>by
 refine aa (ctx:=[⟨_,vL⟩]) 4000 ?_
 rw [Tryz.ntmps66,Tryz.results66]
 simp only [Tryz.f66,Option.getD_some,ag]
 rcases h with rfl | rfl | rfl | rfl | rfl | rfl | rfl | rfl | rfl
 all_goals simp only [go_sem,ae,yf,ze,ki,Hz,Ie,HT,HV,Hn,Hs,HZ,Ih,HN])
theorem lp {id:Nat} {h:ah} {args:List AV}:(w5).run id h args=bm (cq (am ae) (ar .i64) ((fun _ f=>fq f))) (fun x=>((fun x f=>.ret (ki (cO x f)))) x.1 x.2) h args:=rfl
theorem lq {id:Nat} {h:ah} {args:List AV}:(w5).pan id h args=bt (cq (am ae) (ar .i64) ((fun _ f=>fq f))) (fun x=>((fun x f=>.ret (ki (cO x f)))) x.1 x.2) h args:=rfl
def Cg:aQ Tryz.prog 139 :=
 mk3 _ _ _ Tryz.func139 rfl (fun _ _=>by go_simp) (am ae) (ar .i64) (ar .i64) ((fun _ f _=>fq f)) ((fun x f v=>.ret (gW (jL x f v)))) (by rw [Tryz.ntmps139];decide) (fun x f v h=>by
 refine aa (ctx:=[]) 4000 ?_
 rw [Tryz.ntmps139,Tryz.results139]
 simp only [Tryz.f139,Option.getD_some,ag]
 rcases h with rfl | rfl | rfl | rfl | rfl | rfl | rfl | rfl | rfl
 all_goals simp only [go_sem,ae,gW,aw,Nu,HO,HA,H7,Hy,Ib,HE,HL,Ij,If])
theorem CK {id:Nat} {h:ah} {args:List AV}:(Cg).run id h args=bm (gp (am ae) (ar .i64) (ar .i64) ((fun _ f _=>fq f))) (fun x=>((fun x f v=>.ret (gW (jL x f v)))) x.1 x.2.1 x.2.2) h args:=rfl
theorem De {id:Nat} {h:ah} {args:List AV}:(Cg).pan id h args=bt (gp (am ae) (ar .i64) (ar .i64) ((fun _ f _=>fq f))) (fun x=>((fun x f v=>.ret (gW (jL x f v)))) x.1 x.2.1 x.2.2) h args:=rfl
end
end Go.Proofs.YtpjlafmhoifkmaaGreat
