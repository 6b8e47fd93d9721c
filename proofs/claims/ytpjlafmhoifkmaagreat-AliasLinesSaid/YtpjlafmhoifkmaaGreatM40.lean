import Derived.Test.YtpjlafmhoifkmaaGreatM13
import Derived.Test.YtpjlafmhoifkmaaGreatM30
import Derived.Test.YtpjlafmhoifkmaaGreatM34
set_option linter.unusedVariables false
set_option linter.unusedSimpArgs false
set_option maxRecDepth 100000
set_option maxHeartbeats 8000000
namespace Go.Proofs.YtpjlafmhoifkmaaGreat
section
inductive AlV where
 | no
 | ln (r:cE) (is:Bool)
def gq (x:Ins):AlV :=
 if x.s&&x.rd==31 then .ln (ae x.b [(⟨#[99,109,110]⟩:ByteArray),(⟨#[99,109,112]⟩:ByteArray)],[nsO x,eI x]) true
 else if x.b==0&&x.a==0&&x.c==0&&!x.s&&(x.rd==31||x.rn==31) then .ln ((⟨#[109,111,118]⟩:ByteArray),[dsO x,nsO x]) true
 else .no
def nA (x:Bool):Int:=if x then 64 else 32
def dy (ins ext:ByteArray) (width:Int) (source:Bool) (x:Ins):cE :=
 if x.c<x.a then (ins,(if source then [dO x,nO x] else [dO x])++[aw (width-x.a),aw (x.c+1)])
 else (ext,(if source then [dO x,nO x] else [dO x])++[aw x.a,aw (x.c-x.a+1)])
def Am (x:Ins):Bool:=decide (x.c<x.a)&&x.rn==31
def o9 (x:Ins):cE :=
 if x.b==0&&x.c==nA x.x-1 then ((⟨#[97,115,114]⟩:ByteArray),[dO x,nO x,dL x])
 else if x.b==0&&x.a==0&&(x.c==7||x.c==15||x.c==31) then (ae (x.c.fdiv 8) [(⟨#[115,120,116,98]⟩:ByteArray),(⟨#[115,120,116,104]⟩:ByteArray),emp,(⟨#[115,120,116,119]⟩:ByteArray)],[dO x,ah x.rn false])
 else if x.b==0 then dy (⟨#[115,98,102,105,122]⟩:ByteArray) (⟨#[115,98,102,120]⟩:ByteArray) (nA x.x) true x
 else if x.b==1 then dy (ae (aU (Am x)) [(⟨#[98,102,105]⟩:ByteArray),(⟨#[98,102,99]⟩:ByteArray)]) (⟨#[98,102,120,105,108]⟩:ByteArray) (nA x.x) (!Am x) x
 else if x.c==nA x.x-1 then ((⟨#[108,115,114]⟩:ByteArray),[dO x,nO x,dL x])
 else if x.c+1==x.a then ((⟨#[108,115,108]⟩:ByteArray),[dO x,nO x,aw (nA x.x-x.a)])
 else if x.a==0&&!x.x&&(x.c==7||x.c==15) then (ae (x.c.fdiv 8) [(⟨#[117,120,116,98]⟩:ByteArray),(⟨#[117,120,116,104]⟩:ByteArray)],[dO x,nO x])
 else dy (⟨#[117,98,102,105,122]⟩:ByteArray) (⟨#[117,98,102,120]⟩:ByteArray) (nA x.x) true x
def mc (x:Ins):AlV :=
 if x.op==11 then .ln ((⟨#[114,101,116]⟩:ByteArray),[]) (x.b==2&&x.rn==30)
 else if x.op==12 then .ln ((bz x).1,[]) (decide (5≤x.b)&&x.a==0)
 else if x.op==13 then .ln ((cV 5 x.a).1,[]) ((cV 5 x.a).2==0)
 else if x.op==14 then .ln ((bz x).1,[]) (x.a==15&&(x.b==2||x.b==6))
 else if x.op==17 then .ln ((⟨#[115,121,115]⟩:ByteArray),li x) (x.b==0&&x.rd==31)
 else .no
def gn (x:Ins):AlV :=
 if x.b==1&&!x.s&&x.rn==31&&x.a==0&&x.c==0 then .ln ((⟨#[109,111,118]⟩:ByteArray),[dO x,mO x]) true
 else if x.b==1&&x.s&&x.rn==31 then .ln ((⟨#[109,118,110]⟩:ByteArray),cK x [dO x,mO x]) true
 else if x.b==3&&!x.s&&x.rd==31 then .ln ((⟨#[116,115,116]⟩:ByteArray),cK x [nO x,mO x]) true
 else .no
def dw (x:Ins):AlV :=
 if x.op==27 then .ln (ae (aU x.s) [(⟨#[110,103,99]⟩:ByteArray),(⟨#[110,103,99,115]⟩:ByteArray)],[dO x,mO x]) (x.b==1&&x.rn==31)
 else if x.s&&x.rd==31 then .ln (ae x.b [(⟨#[99,109,110]⟩:ByteArray),(⟨#[99,109,112]⟩:ByteArray)],cK x [nO x,mO x]) true
 else if x.b==1&&x.rn==31 then .ln (ae (aU x.s) [(⟨#[110,101,103]⟩:ByteArray),(⟨#[110,101,103,115]⟩:ByteArray)],cK x [dO x,mO x]) true
 else .no
def G0 (l:List OpV) (m:Int):List OpV:=l.set (l.length-1) { l.getD (l.length-1) (op0 0) with md:=m }
def Aa (x:Ins):Bool:=x.s&&x.rd==31
def yj (x:Ins):Bool:=(x.rn==31||(x.rd==31&&!x.s))&&x.c==2+aU x.x
def gk (x:Ins):AlV :=
 let l:cE:=if Aa x then (ae x.b [(⟨#[99,109,110]⟩:ByteArray),(⟨#[99,109,112]⟩:ByteArray)],[nsO x,dK x]) else bP x
 if !Aa x&&!yj x then .ln l false
 else if yj x then .ln (l.1,G0 l.2 (if x.a==0 then 0 else 1)) true
 else .ln l true
def gt (n:Int):Int:=if n<0∨15<n then -1 else if n % 2=0 then n+1 else n-1
def kh (x:Ins):AlV :=
 if 14≤x.a then .no
 else if (x.b==1||x.b==2)&&x.rn==x.rm&&x.rn==31 then .ln (ae x.b [emp,(⟨#[99,115,101,116]⟩:ByteArray),(⟨#[99,115,101,116,109]⟩:ByteArray)],[dO x,oOf 4 (gt x.a)]) true
 else if x.b !=0&&x.rn==x.rm then .ln (ae x.b [emp,(⟨#[99,105,110,99]⟩:ByteArray),(⟨#[99,105,110,118]⟩:ByteArray),(⟨#[99,110,101,103]⟩:ByteArray)],[dO x,nO x,oOf 4 (gt x.a)]) true
 else .no
def kq (x:Ins):AlV :=
 if x.ra !=31||x.b==4||x.b==7 then .ln (bz x) false
 else .ln (ae x.b [(⟨#[109,117,108]⟩:ByteArray),(⟨#[109,110,101,103]⟩:ByteArray),(⟨#[115,109,117,108,108]⟩:ByteArray),(⟨#[115,109,110,101,103,108]⟩:ByteArray),emp,(⟨#[117,109,117,108,108]⟩:ByteArray),(⟨#[117,109,110,101,103,108]⟩:ByteArray)],(bz x).2.take 3) true
def ofO:Option cE→AlV
 | some r=>.ln r true
 | none=>.no
def alA (x:Ins):AlV :=
 if x.op==2 then gq x else if x.op==3 then ofO (io x) else if x.op==4 then ofO (iH x) else if x.op==5 then .ln (o9 x) true
 else if x.op==6 then .ln ((⟨#[114,111,114]⟩:ByteArray),[dO x,nO x,dL x]) (x.rn==x.rm)
 else if x.op==24 then gn x else if x.op==25||x.op==27 then dw x else if x.op==26 then gk x else if x.op==29 then kh x
 else if x.op==31 then .ln (ae (x.b-8) [(⟨#[108,115,108]⟩:ByteArray),(⟨#[108,115,114]⟩:ByteArray),(⟨#[97,115,114]⟩:ByteArray),(⟨#[114,111,114]⟩:ByteArray)],[dO x,nO x,mO x]) (decide (8≤x.b)&&decide (x.b≤11))
 else if x.op==32 then kq x else mc x
def lnF (x:Ins):cE:=match alA x with
 | .ln r true=>r
 | _=>bz x
end
section
def mvI (x:Ins):Ins×Int:=bR ⟨x.rd,x.x,false⟩ (dg x.a)
def yG (x:Ins):Nat:=dg x.a*65536 ^ x.c.toNat % 18446744073709551616
def ip (x:Ins):Int:=mI (if x.b=0 then (cg x.x+18446744073709551616-yG x) % 18446744073709551616 else yG x)
def fK (x:Ins):AlV :=
 if x.op==2&&x.s&&x.rd==31 then .ln (ae x.b [(⟨#[99,109,110]⟩:ByteArray),(⟨#[99,109,112]⟩:ByteArray)],[oSP x.rn x.x,if x.c=1 then cw (aw x.a) 1 12 else aw x.a]) true
 else if x.op==2 then .ln ((⟨#[109,111,118]⟩:ByteArray),[oSP x.rd x.x,oSP x.rn x.x]) (x.b==0&&x.a==0&&x.c==0&&!x.s&&(x.rd==31||x.rn==31))
 else if x.op==3&&x.b==3 then .ln ((⟨#[116,115,116]⟩:ByteArray),[ah x.rn x.x,aw x.a]) (x.rd==31)
 else if x.op==3 then .ln ((⟨#[109,111,118]⟩:ByteArray),[oSP x.rd x.x,aw x.a]) (x.b==1&&x.rn==31&&((mvI x).2 !=0||(mvI x).1.op !=4))
 else if x.op==4 then .ln ((⟨#[109,111,118]⟩:ByteArray),[ah x.rd x.x,aw (ip x)]) (decide (x.b<3)&&(x.a !=0||x.c==0)&&(x.b==2||x.x||x.a !=65535))
 else if x.op==6 then .ln ((⟨#[114,111,114]⟩:ByteArray),[ah x.rd x.x,ah x.rn x.x,aw x.a]) (x.rn==x.rm)
 else .no
def vv (x:Ins):List OpV:=[ah x.rd x.x,ah x.rn x.x,aw (nA x.x-x.a),aw (x.c+1)]
def wG (x:Ins):List OpV:=[ah x.rd x.x,ah x.rn x.x,aw x.a,aw (x.c-x.a+1)]
def ne (x:Ins):cE :=
 if x.b==0 then
  if x.c==nA x.x-1 then ((⟨#[97,115,114]⟩:ByteArray),[ah x.rd x.x,ah x.rn x.x,aw x.a])
  else if x.a==0&&x.c==7 then ((⟨#[115,120,116,98]⟩:ByteArray),[ah x.rd x.x,ah x.rn false])
  else if x.a==0&&x.c==15 then ((⟨#[115,120,116,104]⟩:ByteArray),[ah x.rd x.x,ah x.rn false])
  else if x.a==0&&x.c==31 then ((⟨#[115,120,116,119]⟩:ByteArray),[ah x.rd x.x,ah x.rn false])
  else if x.c<x.a then ((⟨#[115,98,102,105,122]⟩:ByteArray),vv x) else ((⟨#[115,98,102,120]⟩:ByteArray),wG x)
 else if x.b==1 then
  if decide (x.c<x.a)&&x.rn==31 then ((⟨#[98,102,99]⟩:ByteArray),[ah x.rd x.x,aw (nA x.x-x.a),aw (x.c+1)])
  else if x.c<x.a then ((⟨#[98,102,105]⟩:ByteArray),vv x) else ((⟨#[98,102,120,105,108]⟩:ByteArray),wG x)
 else
  if x.c==nA x.x-1 then ((⟨#[108,115,114]⟩:ByteArray),[ah x.rd x.x,ah x.rn x.x,aw x.a])
  else if x.c+1==x.a then ((⟨#[108,115,108]⟩:ByteArray),[ah x.rd x.x,ah x.rn x.x,aw (nA x.x-x.a)])
  else if x.a==0&&!x.x&&x.c==7 then ((⟨#[117,120,116,98]⟩:ByteArray),[ah x.rd x.x,ah x.rn x.x])
  else if x.a==0&&!x.x&&x.c==15 then ((⟨#[117,120,116,104]⟩:ByteArray),[ah x.rd x.x,ah x.rn x.x])
  else if x.c<x.a then ((⟨#[117,98,102,105,122]⟩:ByteArray),vv x) else ((⟨#[117,98,102,120]⟩:ByteArray),wG x)
def iR (x:Ins):AlV :=
 if x.op==11 then .ln ((⟨#[114,101,116]⟩:ByteArray),[]) (x.b==2&&x.rn==30)
 else if x.op==12 then .ln ((bt x).1,[]) (decide (5≤x.b)&&x.a==0)
 else if x.op==13 then .ln ((cV 5 x.a).1,[]) ((cV 5 x.a).2==0)
 else if x.op==14 then .ln ((bt x).1,[]) ((x.b==2||x.b==6)&&x.a==15)
 else if x.op==17 then .ln ((⟨#[115,121,115]⟩:ByteArray),(bt x).2.take 4) (x.b==0&&x.rd==31)
 else .no
def Aw (x:Ins):Bool:=x.c==(if x.x then 3 else 2)&&(x.rn==31||(x.rd==31&&!x.s))
def zT (x:Ins):OpV:=if Aw x then { dK x with md:=if x.a==0 then 0 else 1 } else dK x
def fI (x:Ins):AlV :=
 if x.op==24&&x.b==1&&!x.s&&x.rn==31&&x.a==0&&x.c==0 then .ln ((⟨#[109,111,118]⟩:ByteArray),[ah x.rd x.x,ah x.rm x.x]) true
 else if x.op==24&&x.b==1&&x.s&&x.rn==31 then .ln ((⟨#[109,118,110]⟩:ByteArray),[ah x.rd x.x,shF x]) true
 else if x.op==24&&x.b==3&&!x.s&&x.rd==31 then .ln ((⟨#[116,115,116]⟩:ByteArray),[ah x.rn x.x,shF x]) true
 else if x.op==25&&x.s&&x.rd==31 then .ln (ae x.b [(⟨#[99,109,110]⟩:ByteArray),(⟨#[99,109,112]⟩:ByteArray)],[ah x.rn x.x,shF x]) true
 else if x.op==25&&x.b==1&&x.rn==31 then .ln (cJ (⟨#[110,101,103]⟩:ByteArray) x.s (⟨#[115]⟩:ByteArray),[ah x.rd x.x,shF x]) true
 else if x.op==27&&x.b==1&&x.rn==31 then .ln (cJ (⟨#[110,103,99]⟩:ByteArray) x.s (⟨#[115]⟩:ByteArray),[ah x.rd x.x,ah x.rm x.x]) true
 else if x.op==26 then
  if x.s&&x.rd==31 then .ln (ae x.b [(⟨#[99,109,110]⟩:ByteArray),(⟨#[99,109,112]⟩:ByteArray)],[oSP x.rn x.x,zT x]) true
  else .ln (cJ (ae x.b [(⟨#[97,100,100]⟩:ByteArray),(⟨#[115,117,98]⟩:ByteArray)]) x.s (⟨#[115]⟩:ByteArray),[spF (!x.s) x.rd x.x,oSP x.rn x.x,zT x]) true
 else .no
def gR (x:Ins):AlV :=
 if x.op==29&&(decide (14≤x.a)||x.rn !=x.rm||x.b==0) then .no
 else if x.op==29&&x.b==3 then .ln ((⟨#[99,110,101,103]⟩:ByteArray),[ah x.rd x.x,ah x.rn x.x,oOf 4 (gt x.a)]) true
 else if x.op==29&&x.rn==31 then .ln (ae x.b [emp,(⟨#[99,115,101,116]⟩:ByteArray),(⟨#[99,115,101,116,109]⟩:ByteArray)],[ah x.rd x.x,oOf 4 (gt x.a)]) true
 else if x.op==29 then .ln (ae x.b [emp,(⟨#[99,105,110,99]⟩:ByteArray),(⟨#[99,105,110,118]⟩:ByteArray)],[ah x.rd x.x,ah x.rn x.x,oOf 4 (gt x.a)]) true
 else if x.op==31&&decide (8≤x.b)&&decide (x.b≤11) then .ln (ae (x.b-8) [(⟨#[108,115,108]⟩:ByteArray),(⟨#[108,115,114]⟩:ByteArray),(⟨#[97,115,114]⟩:ByteArray),(⟨#[114,111,114]⟩:ByteArray)],[ah x.rd x.x,ah x.rn x.x,ah x.rm x.x]) true
 else if x.op==32&&x.ra==31&&decide (x.b<2) then .ln (ae x.b [(⟨#[109,117,108]⟩:ByteArray),(⟨#[109,110,101,103]⟩:ByteArray)],[ah x.rd x.x,ah x.rn x.x,ah x.rm x.x]) true
 else if x.op==32&&x.ra==31&&x.b !=4&&x.b !=7 then .ln (ae x.b [emp,emp,(⟨#[115,109,117,108,108]⟩:ByteArray),(⟨#[115,109,110,101,103,108]⟩:ByteArray),emp,(⟨#[117,109,117,108,108]⟩:ByteArray),(⟨#[117,109,110,101,103,108]⟩:ByteArray)],[ah x.rd true,ah x.rn false,ah x.rm false]) true
 else .no
def rlA (x:Ins):AlV :=
 if x.op==2||x.op==3||x.op==4||x.op==6 then fK x
 else if x.op==5 then .ln (ne x) true
 else if x.op==11||x.op==12||x.op==13||x.op==14||x.op==17 then iR x
 else if x.op==24||x.op==25||x.op==27||x.op==26 then fI x
 else if x.op==29||x.op==31||x.op==32 then gR x
 else .no
def wC (x:Ins):cE:=match rlA x with
 | .ln r true=>r
 | _=>bt x
theorem qV (v:Nat) (x:Bool) (h:v≤cg x):v ^^^ cg x=cg x-v:=by
 cases x
 ·have e:(BitVec.ofNat 32 v ^^^ BitVec.allOnes 32).toNat=2 ^ 32-1-(BitVec.ofNat 32 v).toNat:=by rw [BitVec.xor_allOnes,BitVec.toNat_not]
  rw [BitVec.toNat_xor,BitVec.toNat_allOnes,BitVec.toNat_ofNat,Nat.mod_eq_of_lt (by simp [cg] at h;omega)] at e
  exact e
 ·have e:(BitVec.ofNat 64 v ^^^ BitVec.allOnes 64).toNat=2 ^ 64-1-(BitVec.ofNat 64 v).toNat:=by rw [BitVec.xor_allOnes,BitVec.toNat_not]
  rw [BitVec.toNat_xor,BitVec.toNat_allOnes,BitVec.toNat_ofNat,Nat.mod_eq_of_lt (by simp [cg] at h;omega)] at e
  exact e
end
section
def mJ (x:Ins) (a b:AlV):Prop:=(match a with | .ln r true=>r | _=>bt x)=(match b with | .ln r true=>r | _=>bz x)
theorem lG {x:Ins} (hp:bt x=bz x) {r s:cE} {p q:Bool} (h:p=q) (hr:p=true→r=s):mJ x (.ln r p) (.ln s q):=by
 subst h
 unfold mJ
 cases p
 ·exact hp
 ·exact hr rfl
theorem Rj {x:Ins} (hp:bt x=bz x) (h:x.op=2):mJ x (fK x) (gq x):=by
 have b2:(x.op==2)=true:=by simpa using h
 unfold fK gq
 rw [b2]
 cases hc:(x.s&&x.rd==31)
 ·simp only [Bool.true_and,hc,if_true,Bool.false_eq_true,if_false]
  cases hq:(x.b==0&&x.a==0&&x.c==0&&!x.s&&(x.rd==31||x.rn==31))
  ·simp only [Bool.false_eq_true,if_false]
   exact hp
  ·rfl
 ·simp only [Bool.true_and,hc,if_true]
  rfl
theorem GE (a:Int):dg a<18446744073709551616:=by unfold dg;omega
theorem I4 {x:Ins} (h:df x=true):dg x.a &&& cg x.x=dg x.a:=by
 have l:=GE x.a
 cases hx:x.x
 ·have hL:(dF (dg x.a) 32).isSome=true:=by
   unfold df at h
   rw [hx] at h
   simp at h
   simpa using h.1
  have h32:dg x.a<4294967296:=by
   rcases Nat.lt_or_ge (dg x.a) 4294967296 with h | h
   ·exact h
   ·unfold dF at hL
    rw [if_pos ⟨rfl,h⟩] at hL
    cases hL
  show dg x.a &&& (2 ^ 32-1)=dg x.a
  rw [Nat.and_two_pow_sub_one_eq_mod]
  exact Nat.mod_eq_of_lt h32
 ·show dg x.a &&& (2 ^ 64-1)=dg x.a
  rw [Nat.and_two_pow_sub_one_eq_mod]
  exact Nat.mod_eq_of_lt l
theorem N6 {x:Ins} (hp:bt x=bz x) (h:x.op=3) (hl:df x=true):mJ x (fK x) (ofO (io x)):=by
 have b2:(x.op==2)=false:=by rw [h];decide
 have b3:(x.op==3)=true:=by rw [h];decide
 unfold fK io mvI
 rw [b2,b3,I4 hl]
 by_cases hb:x.b=3
 ·have e3:(x.b==3)=true:=by simpa using hb
  have e1:(x.b==1)=false:=by rw [hb];decide
  by_cases hd:x.rd=31
  ·have ed:(x.rd==31)=true:=by simpa using hd
   simp only [e3,ed,hb,hd,Bool.true_and,Bool.false_and,Bool.false_eq_true,if_false,if_true,and_self,ofO]
   rfl
  ·have ed:(x.rd==31)=false:=by simpa using hd
   have h1:¬(x.b=1∧x.rn=31):=by omega
   rw [if_neg (show ¬(x.b=3∧x.rd=31) by omega),if_neg h1]
   simp only [e3,ed,Bool.true_and,Bool.false_and,Bool.false_eq_true,if_false,if_true,ofO]
   exact hp
 ·have e3:(x.b==3)=false:=by simpa using hb
  simp only [e3,hb,Bool.true_and,Bool.false_and,Bool.false_eq_true,if_false,if_true,false_and]
  by_cases h1:x.b=1∧x.rn=31
  ·have e1:(x.b==1)=true:=by simpa using h1.1
   have en:(x.rn==31)=true:=by simpa using h1.2
   rw [if_pos h1,e1,en]
   obtain ⟨m,hm⟩:∃ m,bR ⟨x.rd,x.x,false⟩ (dg x.a)=m:=⟨_,rfl⟩
   rw [hm]
   by_cases hq:m.2=0∧m.1.op=4
   ·have q1:(m.2 !=0)=false:=by simpa using hq.1
    have q2:(m.1.op !=4)=false:=by simpa using hq.2
    rw [q1,q2]
    show mJ x _ (ofO (if m.2=0∧m.1.op=4 then none else _))
    rw [if_pos hq]
    exact hp
   ·have q1:(m.2 !=0||m.1.op !=4)=true:=by
     rw [Bool.or_eq_true]
     simp only [bne_iff_ne,ne_eq]
     omega
    rw [q1]
    show mJ x _ (ofO (if m.2=0∧m.1.op=4 then none else _))
    rw [if_neg hq]
    rfl
  ·have q:(x.b==1&&x.rn==31&&((bR ⟨x.rd,x.x,false⟩ (dg x.a)).2 !=0||(bR ⟨x.rd,x.x,false⟩ (dg x.a)).1.op !=4))=false:=by
    have:(x.b==1&&x.rn==31)=false:=by
     rw [Bool.and_eq_false_iff]
     simp only [beq_eq_false_iff_ne,ne_eq]
     omega
    rw [this]
    rfl
   rw [q,if_neg h1]
   exact hp
theorem Nr {x:Ins} (ha:0≤x.a∧x.a≤65535) (hc:0≤x.c∧x.c≤3) (hx:x.x=true∨x.c≤1):ip x=qQ x:=by
 have hu:dg x.a=x.a.toNat:=by unfold dg;omega
 have hcn:x.c.toNat=0∨x.c.toNat=1∨x.c.toNat=2∨x.c.toNat=3:=by omega
 have h16:(16*x.c).toNat=16*x.c.toNat:=by omega
 have hv:dg x.a*2 ^ (16*x.c).toNat % 18446744073709551616=yG x:=by
  unfold yG
  rw [h16]
  rcases hcn with h | h | h | h<;>rw [h]
 have hle:yG x≤cg x.x:=by
  unfold yG
  rw [hu]
  rcases hx with h | h
  ·rw [h]
   have:=Nat.mod_lt (x.a.toNat*65536 ^ x.c.toNat) (show 0<18446744073709551616 by decide)
   show _≤18446744073709551615
   omega
  ·have:x.c.toNat=0∨x.c.toNat=1:=by omega
   have ho:4294967295≤cg x.x:=by cases x.x<;>decide
   rcases this with h | h<;>(rw [h];omega)
 have hol:cg x.x<18446744073709551616:=lm x.x
 unfold ip qQ
 rw [hv]
 by_cases hb:x.b=0
 ·rw [if_pos hb,if_pos hb,qV _ _ hle]
  congr 1
  omega
 ·rw [if_neg hb,if_neg hb]
theorem O8 {x:Ins} (hp:bt x=bz x) (h:x.op=4) (hb:0≤x.b∧x.b≤3∧¬x.b=1) (hm:ip x=qQ x):mJ x (fK x) (ofO (iH x)):=by
 have b2:(x.op==2)=false:=by rw [h];decide
 have b3:(x.op==3)=false:=by rw [h];decide
 have b4:(x.op==4)=true:=by rw [h];decide
 unfold fK iH
 rw [b2,b3,b4,hm]
 simp only [Bool.false_and,Bool.false_eq_true,if_false,if_true]
 by_cases hq:x.b=3∨(x.a=0∧¬x.c=0)∨(x.b=0∧x.x=false∧x.a=65535)
 ·have e:(decide (x.b<3)&&(x.a !=0||x.c==0)&&(x.b==2||x.x||x.a !=65535))=false:=by
   rcases hq with h | ⟨h1,h2⟩ | ⟨h1,h2,h3⟩
   ·have:decide (x.b<3)=false:=decide_eq_false (by omega)
    rw [this]
    rfl
   ·have e1:(x.a !=0)=false:=by simpa using h1
    have e2:(x.c==0)=false:=by simpa using h2
    rw [e1,e2]
    simp
   ·have e1:(x.b==2)=false:=by rw [h1];decide
    have e2:(x.a !=65535)=false:=by simpa using h3
    rw [e1,e2,h2]
    simp
  rw [e,if_pos hq]
  exact hp
 ·have e:(decide (x.b<3)&&(x.a !=0||x.c==0)&&(x.b==2||x.x||x.a !=65535))=true:=by
   rw [Bool.and_eq_true,Bool.and_eq_true]
   refine ⟨⟨decide_eq_true (by omega),?_⟩,?_⟩
   ·rw [Bool.or_eq_true]
    simp only [bne_iff_ne,ne_eq,beq_iff_eq]
    omega
   ·cases hx:x.x
    ·rw [Bool.or_eq_true,Bool.or_eq_true]
     simp only [bne_iff_ne,ne_eq,beq_iff_eq]
     rw [hx] at hq
     simp at hq
     omega
    ·simp
  rw [e,if_neg hq]
  rfl
theorem efld {x:Ins} (hb:0≤x.b∧x.b≤2) (hc:0≤x.c∧x.c≤63) (ha:0≤x.a) (hw:x.x=true∨x.c≤31):ne x=o9 x:=by
 unfold ne o9 dy vv wG Am
 have hb3:x.b=0∨x.b=1∨x.b=2:=by omega
 rcases hb3 with h | h | h
 ·have b0:(x.b==0)=true:=by rw [h];decide
  simp only [b0,if_true,Bool.true_and]
  cases hf:(x.c==nA x.x-1)
  ·simp only [Bool.false_eq_true,if_false]
   cases h0:(x.a==0)
   ·simp only [Bool.false_and,Bool.false_eq_true,if_false,if_true]
    split<;>rfl
   ·have ha0:x.a=0:=by simpa using h0
    simp only [Bool.true_and]
    by_cases c7:x.c=7
    ·rw [c7];rfl
    by_cases c15:x.c=15
    ·rw [c15];rfl
    by_cases c31:x.c=31
    ·rw [c31];rfl
    have e7:(x.c==7)=false:=by simpa using c7
    have e15:(x.c==15)=false:=by simpa using c15
    have e31:(x.c==31)=false:=by simpa using c31
    simp only [e7,e15,e31,Bool.or_false,Bool.false_eq_true,if_false,if_true]
    split<;>rfl
  ·simp only [if_true]
   rfl
 ·have b0:(x.b==0)=false:=by rw [h];decide
  have b1:(x.b==1)=true:=by rw [h];decide
  simp only [b0,b1,if_true,Bool.false_and,Bool.false_eq_true,if_false]
  by_cases hl:x.c<x.a
  ·simp only [hl,decide_true,Bool.true_and,if_true]
   cases hn:(x.rn==31)<;>rfl
  ·simp only [hl,decide_false,Bool.false_and,Bool.false_eq_true,if_false]
   rfl
 ·have b0:(x.b==0)=false:=by rw [h];decide
  have b1:(x.b==1)=false:=by rw [h];decide
  simp only [b0,b1,Bool.false_and,Bool.false_eq_true,if_false]
  cases hf:(x.c==nA x.x-1)
  ·simp only [Bool.false_eq_true,if_false]
   cases hs:(x.c+1==x.a)
   ·simp only [Bool.false_eq_true,if_false]
    cases h0:(x.a==0&&!x.x)
    ·simp only [Bool.false_and,Bool.false_eq_true,if_false,if_true]
     split<;>rfl
    ·simp only [Bool.true_and]
     by_cases c7:x.c=7
     ·rw [c7];rfl
     by_cases c15:x.c=15
     ·rw [c15];rfl
     have e7:(x.c==7)=false:=by simpa using c7
     have e15:(x.c==15)=false:=by simpa using c15
     simp only [e7,e15,Bool.or_false,Bool.false_eq_true,if_false,if_true]
     split<;>rfl
   ·rfl
  ·rfl
theorem sh2 (x:Ins) (o:OpV):cK x [o,mO x]=[o,shF x]:=by
 unfold cK shF
 by_cases h:x.a=0∧x.c=0
 ·rw [if_pos h,if_neg (by omega)]
  rfl
 ·rw [if_neg h,if_pos (by omega)]
  rfl
theorem flg (s:Bool) (a b:ByteArray) (h:b=a++(⟨#[115]⟩:ByteArray)):cJ a s (⟨#[115]⟩:ByteArray)=ae (aU s) [a,b]:=by
 subst h
 cases s<;>rfl
theorem Mh {x:Ins} (hp:bt x=bz x) (h:x.op=24):mJ x (fI x) (gn x):=by
 have b24:(x.op==24)=true:=by rw [h];decide
 have b25:(x.op==25)=false:=by rw [h];decide
 have b26:(x.op==26)=false:=by rw [h];decide
 have b27:(x.op==27)=false:=by rw [h];decide
 unfold fI gn
 rw [sh2,sh2]
 simp only [b24,b25,b26,b27,Bool.true_and,Bool.false_and,Bool.false_eq_true,if_false]
 split
 ·rfl
 split
 ·rfl
 split
 ·rfl
 ·exact hp
theorem Mj {x:Ins} (hp:bt x=bz x) (h:x.op=25):mJ x (fI x) (dw x):=by
 have b24:(x.op==24)=false:=by rw [h];decide
 have b25:(x.op==25)=true:=by rw [h];decide
 have b26:(x.op==26)=false:=by rw [h];decide
 have b27:(x.op==27)=false:=by rw [h];decide
 unfold fI dw
 rw [sh2,sh2,flg x.s (⟨#[110,101,103]⟩:ByteArray) (⟨#[110,101,103,115]⟩:ByteArray) (by decide +kernel)]
 simp only [b24,b25,b26,b27,Bool.true_and,Bool.false_and,Bool.false_eq_true,if_false]
 split
 ·rfl
 split
 ·rfl
 ·exact hp
theorem LD {x:Ins} (hp:bt x=bz x) (h:x.op=27):mJ x (fI x) (dw x):=by
 have b24:(x.op==24)=false:=by rw [h];decide
 have b25:(x.op==25)=false:=by rw [h];decide
 have b26:(x.op==26)=false:=by rw [h];decide
 have b27:(x.op==27)=true:=by rw [h];decide
 unfold fI dw
 rw [flg x.s (⟨#[110,103,99]⟩:ByteArray) (⟨#[110,103,99,115]⟩:ByteArray) (by decide +kernel)]
 simp only [b24,b25,b26,b27,Bool.true_and,Bool.false_and,Bool.false_eq_true,if_false,if_true]
 cases hq:(x.b==1&&x.rn==31)
 ·simp only [Bool.false_eq_true,if_false]
  exact hp
 ·rfl
theorem K7 (x:Ins):Aw x=yj x:=by
 unfold Aw yj
 rw [Bool.and_comm]
 cases x.x<;>rfl
theorem PR {x:Ins} (hp:bt x=bz x) (h:x.op=29) (hb:0≤x.b∧x.b≤3):mJ x (gR x) (kh x):=by
 have b29:(x.op==29)=true:=by rw [h];decide
 have b31:(x.op==31)=false:=by rw [h];decide
 have b32:(x.op==32)=false:=by rw [h];decide
 unfold gR kh
 simp only [b29,b31,b32,Bool.true_and,Bool.false_and,Bool.false_eq_true,if_false]
 by_cases ha:14≤x.a
 ·simp only [ha,decide_true,Bool.true_or,if_true]
  exact hp
 simp only [ha,decide_false,Bool.false_or,if_false]
 by_cases hm:x.rn=x.rm
 ·have e1:(x.rn !=x.rm)=false:=by simpa using hm
  have e2:(x.rn==x.rm)=true:=by simpa using hm
  simp only [e1,e2,Bool.false_or,Bool.and_true]
  have hb4:x.b=0∨x.b=1∨x.b=2∨x.b=3:=by omega
  rcases hb4 with hq | hq | hq | hq
  ·rw [hq]
   exact hp
  ·rw [hq]
   cases hn:(x.rn==31)<;>rfl
  ·rw [hq]
   cases hn:(x.rn==31)<;>rfl
  ·rw [hq]
   rfl
 ·have e1:(x.rn !=x.rm)=true:=by simpa using hm
  have e2:(x.rn==x.rm)=false:=by simpa using hm
  simp only [e1,e2,Bool.true_or,Bool.and_false,Bool.false_and,Bool.false_eq_true,if_false,if_true]
  exact hp
theorem eext {x:Ins} (hp:bt x=bz x) (h:x.op=26):mJ x (fI x) (gk x):=by
 have b24:(x.op==24)=false:=by rw [h];decide
 have b25:(x.op==25)=false:=by rw [h];decide
 have b26:(x.op==26)=true:=by rw [h];decide
 have b27:(x.op==27)=false:=by rw [h];decide
 have hs:bz x=bP x:=by unfold bz;rw [if_neg (by omega),if_neg (by omega),if_neg (by omega),if_neg (by omega),if_pos (by omega)]
 have hsum:bP x=(cJ (ae x.b [(⟨#[97,100,100]⟩:ByteArray),(⟨#[115,117,98]⟩:ByteArray)]) x.s (⟨#[115]⟩:ByteArray),[spF (!x.s) x.rd x.x,oSP x.rn x.x,dK x]):=by
  unfold bP
  rw [if_neg (by omega),if_neg (by omega),if_pos h]
  refine jP ?_ ?_
  ·unfold sS
   cases x.s
   ·exact zU _
   ·rfl
  ·cases x.s<;>rfl
 unfold fI gk zT
 rw [K7]
 simp only [b24,b25,b26,b27,Bool.true_and,Bool.false_and,Bool.false_eq_true,if_false,if_true]
 have hc:Aa x=(x.s&&x.rd==31):=rfl
 cases hq:(x.s&&x.rd==31)
 ·rw [hq] at hc
  rw [hc]
  cases hl:yj x
  ·simp only [Bool.false_eq_true,if_false,Bool.not_false,Bool.and_self,if_true]
   show _=bz x
   rw [hs,hsum]
  ·simp only [Bool.false_eq_true,if_false,Bool.not_false,Bool.not_true,Bool.and_false,if_true]
   show _=(_,_)
   rw [hsum]
   rfl
 ·rw [hq] at hc
  rw [hc]
  cases hl:yj x
  ·simp only [Bool.false_eq_true,if_false,Bool.not_false,Bool.not_true,Bool.false_and,if_true]
   rfl
  ·simp only [Bool.false_eq_true,if_false,Bool.not_false,Bool.not_true,Bool.false_and,if_true]
   rfl
theorem edp2 {x:Ins} (hp:bt x=bz x) (h:x.op=31):mJ x (gR x) (.ln (ae (x.b-8) [(⟨#[108,115,108]⟩:ByteArray),(⟨#[108,115,114]⟩:ByteArray),(⟨#[97,115,114]⟩:ByteArray),(⟨#[114,111,114]⟩:ByteArray)],[dO x,nO x,mO x]) (decide (8≤x.b)&&decide (x.b≤11))):=by
 have b29:(x.op==29)=false:=by rw [h];decide
 have b31:(x.op==31)=true:=by rw [h];decide
 have b32:(x.op==32)=false:=by rw [h];decide
 unfold gR
 simp only [b29,b31,b32,Bool.true_and,Bool.false_and,Bool.false_eq_true,if_false]
 cases hq:(decide (8≤x.b)&&decide (x.b≤11))
 ·exact hp
 ·rfl
theorem QU {x:Ins} (hp:bt x=bz x) (h:x.op=32) (hb:0≤x.b∧x.b≤7):mJ x (gR x) (kq x):=by
 have b29:(x.op==29)=false:=by rw [h];decide
 have b31:(x.op==31)=false:=by rw [h];decide
 have b32:(x.op==32)=true:=by rw [h];decide
 have hs:bz x=bM x:=by unfold bz;rw [if_neg (by omega),if_neg (by omega),if_neg (by omega),if_neg (by omega),if_neg (by omega)]
 unfold gR kq
 simp only [b29,b31,b32,Bool.true_and,Bool.false_and,Bool.false_eq_true,if_false]
 cases hr:(x.ra==31)
 ·have hr2:(x.ra !=31)=true:=by simpa using hr
  simp only [hr2,Bool.false_and,Bool.true_or,Bool.false_eq_true,if_false,if_true]
  exact hp
 ·have hr2:(x.ra !=31)=false:=by simpa using hr
  simp only [hr2,Bool.true_and,Bool.false_or]
  by_cases h2:x.b<2
  ·have e4:(x.b==4)=false:=by simp only [beq_eq_false_iff_ne,ne_eq];omega
   have e7:(x.b==7)=false:=by simp only [beq_eq_false_iff_ne,ne_eq];omega
   have ho:(bM x).2=[dO x,nO x,mO x,aO x]:=by unfold bM;rw [if_neg (by omega),if_neg (by omega),if_neg (by omega),if_pos h2]
   simp only [h2,e4,e7,decide_true,if_true,Bool.or_self,Bool.false_eq_true,if_false]
   show (_,_)=(_,_)
   rw [hs,ho]
   have:x.b=0∨x.b=1:=by omega
   rcases this with e | e<;>(rw [e];rfl)
  ·simp only [h2,decide_false,Bool.false_eq_true,if_false]
   by_cases h4:x.b=4
   ·have e4:(x.b==4)=true:=by simpa using h4
    have n4:(x.b !=4)=false:=by simpa using h4
    simp only [e4,n4,Bool.false_and,Bool.true_or,Bool.false_eq_true,if_false,if_true]
    exact hp
   by_cases h7:x.b=7
   ·have e4:(x.b==4)=false:=by simpa using h4
    have n4:(x.b !=4)=true:=by simpa using h4
    have e7:(x.b==7)=true:=by simpa using h7
    have n7:(x.b !=7)=false:=by simpa using h7
    simp only [e4,n4,e7,n7,Bool.and_false,Bool.or_true,Bool.false_eq_true,if_false,if_true]
    exact hp
   have e4:(x.b==4)=false:=by simpa using h4
   have n4:(x.b !=4)=true:=by simpa using h4
   have e7:(x.b==7)=false:=by simpa using h7
   have n7:(x.b !=7)=true:=by simpa using h7
   have ho:(bM x).2=[ah x.rd true,ah x.rn false,ah x.rm false,ah x.ra true]:=by unfold bM;rw [if_neg (by omega),if_neg (by omega),if_neg (by omega),if_neg h2,if_neg (by omega)]
   simp only [e4,n4,e7,n7,Bool.and_self,Bool.or_self,Bool.false_eq_true,if_false,if_true]
   show (_,_)=(_,_)
   rw [hs,ho]
   have:x.b=2∨x.b=3∨x.b=5∨x.b=6:=by omega
   rcases this with e | e | e | e<;>(rw [e];rfl)
theorem esys {x:Ins} (hp:bt x=bz x) (h:x.op=11∨x.op=12∨x.op=13∨x.op=14∨x.op=17):mJ x (iR x) (mc x):=by
 unfold iR mc
 rw [hp]
 rcases h with h | h | h | h | h
 ·have e:(x.op==11)=true:=by rw [h];decide
  simp only [e,if_true]
  exact lG hp rfl (fun _=>rfl)
 ·have e:(x.op==11)=false:=by rw [h];decide
  have e2:(x.op==12)=true:=by rw [h];decide
  simp only [e,e2,if_true,Bool.false_eq_true,if_false]
  exact lG hp rfl (fun _=>rfl)
 ·have e:(x.op==11)=false:=by rw [h];decide
  have e2:(x.op==12)=false:=by rw [h];decide
  have e3:(x.op==13)=true:=by rw [h];decide
  simp only [e,e2,e3,if_true,Bool.false_eq_true,if_false]
  exact lG hp rfl (fun _=>rfl)
 ·have e:(x.op==11)=false:=by rw [h];decide
  have e2:(x.op==12)=false:=by rw [h];decide
  have e3:(x.op==13)=false:=by rw [h];decide
  have e4:(x.op==14)=true:=by rw [h];decide
  simp only [e,e2,e3,e4,if_true,Bool.false_eq_true,if_false]
  exact lG hp (Bool.and_comm _ _) (fun _=>rfl)
 ·have e:(x.op==11)=false:=by rw [h];decide
  have e2:(x.op==12)=false:=by rw [h];decide
  have e3:(x.op==13)=false:=by rw [h];decide
  have e4:(x.op==14)=false:=by rw [h];decide
  have e5:(x.op==17)=true:=by rw [h];decide
  simp only [e,e2,e3,e4,e5,if_true,Bool.false_eq_true,if_false]
  refine lG hp rfl (fun hq=>jP rfl ?_)
  rw [Bool.and_eq_true] at hq
  have hb:x.b=0:=by simpa using hq.1
  have hs:bz x=((⟨#[115,121,115]⟩:ByteArray),li x++[xdO x]):=by
   unfold bz
   rw [if_neg (by omega),if_neg (by omega),if_pos (by omega)]
   unfold dT
   rw [if_neg (by omega),if_neg (by omega),if_neg (by omega),if_neg (by omega),if_pos hb]
  rw [hs]
  rfl
theorem eno {x:Ins} (hp:bt x=bz x) (h:x.op=1∨(7≤x.op∧x.op≤10)∨x.op=15∨x.op=16∨(18≤x.op∧x.op≤23)∨x.op=28∨x.op=30):mJ x (rlA x) (alA x):=by
 have hk:∀ k:Int,¬x.op=k→(x.op==k)=false:=fun k hk=>by simpa using hk
 unfold rlA alA mc
 rw [hk 2 (by omega),hk 3 (by omega),hk 4 (by omega),hk 5 (by omega),hk 6 (by omega),hk 11 (by omega),hk 12 (by omega),hk 13 (by omega),hk 14 (by omega),hk 17 (by omega),hk 24 (by omega),hk 25 (by omega),hk 26 (by omega),hk 27 (by omega),hk 29 (by omega),hk 31 (by omega),hk 32 (by omega)]
 exact hp
theorem La {x:Ins} (h:ay x=0):wC x=lnF x:=by
 have hp:=BP h
 have q:=eK h
 obtain ⟨h1,h2⟩:=jF h
 have ha:=jT h1
 have ho:=q.op
 show mJ x (rlA x) (alA x)
 have hlim:∀ f∈an x.op,gv x f=true:=List.all_eq_true.1 ha
 have lim:∀ f:Lim,f∈an x.op→f.2.1≤jm x f.1∧jm x f.1≤f.2.2:=fun f hf=>by
  have h3:=hlim f hf
  unfold gv at h3
  rw [Bool.and_eq_true,decide_eq_true_eq,decide_eq_true_eq] at h3
  exact h3
 have hk:∀ k:Int,¬x.op=k→(x.op==k)=false:=fun k hk=>by simpa using hk
 have hop:x.op=2∨x.op=3∨x.op=4∨x.op=5∨x.op=6∨(x.op=11∨x.op=12∨x.op=13∨x.op=14∨x.op=17)∨x.op=24∨x.op=25∨x.op=26∨x.op=27∨x.op=29∨x.op=31∨x.op=32 ∨
   (x.op=1∨(7≤x.op∧x.op≤10)∨x.op=15∨x.op=16∨(18≤x.op∧x.op≤23)∨x.op=28∨x.op=30):=by omega
 rcases hop with e | e | e | e | e | e | e | e | e | e | e | e | e | e
 ·have hr:rlA x=fK x:=by unfold rlA;rw [e];rfl
  have hs:alA x=gq x:=by unfold alA;rw [e];rfl
  rw [hr,hs]
  exact Rj hp e
 ·have hr:rlA x=fK x:=by unfold rlA;rw [e];rfl
  have hs:alA x=ofO (io x):=by unfold alA;rw [e];rfl
  rw [hr,hs]
  exact N6 hp e (by simpa [de,e] using h2)
 ·have hr:rlA x=fK x:=by unfold rlA;rw [e];rfl
  have hs:alA x=ofO (iH x):=by unfold alA;rw [e];rfl
  have la:=lim (7,0,65535) (by rw [e];decide)
  have lb:=lim (8,0,3) (by rw [e];decide)
  have lc:=lim (9,0,3) (by rw [e];decide)
  have ht:¬x.b=1∧(x.x=true∨x.c≤1):=by simpa [de,e] using h2
  rw [hr,hs]
  exact O8 hp e ⟨lb.1,lb.2,ht.1⟩ (Nr la lc ht.2)
 ·have hr:rlA x=.ln (ne x) true:=by unfold rlA;rw [e];rfl
  have hs:alA x=.ln (o9 x) true:=by unfold alA;rw [e];rfl
  have la:=lim (7,0,63) (by rw [e];decide)
  have lb:=lim (8,0,2) (by rw [e];decide)
  have lc:=lim (9,0,63) (by rw [e];decide)
  have ht:(x.x=true∨x.a≤31)∧(x.x=true∨x.c≤31):=by simpa [de,e] using h2
  rw [hr,hs]
  exact lG hp rfl (fun _=>efld lb lc la.1 ht.2)
 ·have hr:rlA x=fK x:=by unfold rlA;rw [e];rfl
  have hs:alA x=.ln ((⟨#[114,111,114]⟩:ByteArray),[dO x,nO x,dL x]) (x.rn==x.rm):=by unfold alA;rw [e];rfl
  have hr2:fK x=.ln ((⟨#[114,111,114]⟩:ByteArray),[ah x.rd x.x,ah x.rn x.x,aw x.a]) (x.rn==x.rm):=by unfold fK;rw [e];rfl
  rw [hr,hs,hr2]
  exact lG hp rfl (fun _=>rfl)
 ·have hr:rlA x=iR x:=by
   unfold rlA
   rcases e with e | e | e | e | e<;>(rw [e];rfl)
  have hs:alA x=mc x:=by
   unfold alA
   rcases e with e | e | e | e | e<;>(rw [e];rfl)
  rw [hr,hs]
  exact esys hp e
 ·have hr:rlA x=fI x:=by unfold rlA;rw [e];rfl
  have hs:alA x=gn x:=by unfold alA;rw [e];rfl
  rw [hr,hs]
  exact Mh hp e
 ·have hr:rlA x=fI x:=by unfold rlA;rw [e];rfl
  have hs:alA x=dw x:=by unfold alA;rw [e];rfl
  rw [hr,hs]
  exact Mj hp e
 ·have hr:rlA x=fI x:=by unfold rlA;rw [e];rfl
  have hs:alA x=gk x:=by unfold alA;rw [e];rfl
  rw [hr,hs]
  exact eext hp e
 ·have hr:rlA x=fI x:=by unfold rlA;rw [e];rfl
  have hs:alA x=dw x:=by unfold alA;rw [e];rfl
  rw [hr,hs]
  exact LD hp e
 ·have hr:rlA x=gR x:=by unfold rlA;rw [e];rfl
  have hs:alA x=kh x:=by unfold alA;rw [e];rfl
  have lb:=lim (8,0,3) (by rw [e];decide)
  rw [hr,hs]
  exact PR hp e lb
 ·have hr:rlA x=gR x:=by unfold rlA;rw [e];rfl
  have hs:alA x=.ln (ae (x.b-8) [(⟨#[108,115,108]⟩:ByteArray),(⟨#[108,115,114]⟩:ByteArray),(⟨#[97,115,114]⟩:ByteArray),(⟨#[114,111,114]⟩:ByteArray)],[dO x,nO x,mO x]) (decide (8≤x.b)&&decide (x.b≤11)):=by unfold alA;rw [e];rfl
  rw [hr,hs]
  exact edp2 hp e
 ·have hr:rlA x=gR x:=by unfold rlA;rw [e];rfl
  have hs:alA x=kq x:=by unfold alA;rw [e];rfl
  have lb:=lim (8,0,7) (by rw [e];decide)
  rw [hr,hs]
  exact QU hp e lb
 ·exact eno hp e
end
section
structure LnB (x:Ins):Prop where
 fld:x.op=5→(0≤x.b∧x.b≤2)∧(0≤x.a∧x.a≤63)∧(0≤x.c∧x.c≤63)
 csel:x.op=29→0≤x.b∧x.b≤3
 prod:x.op=32→0≤x.b∧x.b≤7
 mov:x.op=4→(0≤x.b∧x.b≤3)∧(0≤x.c∧x.c≤3)∧(0≤x.a∧x.a≤65535)
 mod:x.op=24∨x.op=25∨x.op=26→0≤x.c∧x.c≤7
theorem kE {x:Ins} (h:ay x=0):LnB x:=by
 obtain ⟨h1,h2⟩:=jF h
 have ho:=oX h1
 have ha:=jT h1
 clear h h1 h2
 obtain ⟨op,xx,ss,rd,rn,rm,ra,a,b,c⟩:=x
 simp only at ho ha
 by_cases hop:op=4∨op=5∨op=24∨op=25∨op=26∨op=29∨op=32
 ·rcases hop with rfl | rfl | rfl | rfl | rfl | rfl | rfl
  all_goals
   simp [an,pE,bi] at ha
   simp [gv,jm] at ha
   refine ⟨?_,?_,?_,?_,?_⟩<;>simp only []<;>omega
 ·refine ⟨?_,?_,?_,?_,?_⟩<;>(simp only [];intro hq;exfalso;omega)
end
end Go.Proofs.YtpjlafmhoifkmaaGreat
