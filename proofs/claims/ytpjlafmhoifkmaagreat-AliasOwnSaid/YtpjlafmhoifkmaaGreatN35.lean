import Derived.Test.YtpjlafmhoifkmaaGreatN13
import Derived.Test.YtpjlafmhoifkmaaGreatN30
set_option linter.unusedVariables false
set_option linter.unusedSimpArgs false
set_option maxRecDepth 100000
set_option maxHeartbeats 8000000
namespace Go.Proofs.YtpjlafmhoifkmaaGreat
section
inductive AlV where
 | no
 | ln (r:cG) (is:Bool)
def eG (x:Ins):AlV :=
 if x.s&&x.rd==31 then .ln (ak x.b [(⟨#[99,109,110]⟩:ByteArray),(⟨#[99,109,112]⟩:ByteArray)],[nsO x,dh x]) true
 else if x.b==0&&x.a==0&&x.c==0&&!x.s&&(x.rd==31||x.rn==31) then .ln ((⟨#[109,111,118]⟩:ByteArray),[dsO x,nsO x]) true
 else .no
def ga (x:Bool):Int:=if x then 64 else 32
def cx (ins ext:ByteArray) (width:Int) (source:Bool) (x:Ins):cG :=
 if x.c<x.a then (ins,(if source then [dO x,nO x] else [dO x])++[aB (width-x.a),aB (x.c+1)])
 else (ext,(if source then [dO x,nO x] else [dO x])++[aB x.a,aB (x.c-x.a+1)])
def t4 (x:Ins):Bool:=decide (x.c<x.a)&&x.rn==31
def ny (x:Ins):cG :=
 if x.b==0&&x.c==ga x.x-1 then ((⟨#[97,115,114]⟩:ByteArray),[dO x,nO x,cF x])
 else if x.b==0&&x.a==0&&(x.c==7||x.c==15||x.c==31) then (ak (x.c.fdiv 8) [(⟨#[115,120,116,98]⟩:ByteArray),(⟨#[115,120,116,104]⟩:ByteArray),emp,(⟨#[115,120,116,119]⟩:ByteArray)],[dO x,ab x.rn false])
 else if x.b==0 then cx (⟨#[115,98,102,105,122]⟩:ByteArray) (⟨#[115,98,102,120]⟩:ByteArray) (ga x.x) true x
 else if x.b==1 then cx (ak (an (t4 x)) [(⟨#[98,102,105]⟩:ByteArray),(⟨#[98,102,99]⟩:ByteArray)]) (⟨#[98,102,120,105,108]⟩:ByteArray) (ga x.x) (!t4 x) x
 else if x.c==ga x.x-1 then ((⟨#[108,115,114]⟩:ByteArray),[dO x,nO x,cF x])
 else if x.c+1==x.a then ((⟨#[108,115,108]⟩:ByteArray),[dO x,nO x,aB (ga x.x-x.a)])
 else if x.a==0&&!x.x&&(x.c==7||x.c==15) then (ak (x.c.fdiv 8) [(⟨#[117,120,116,98]⟩:ByteArray),(⟨#[117,120,116,104]⟩:ByteArray)],[dO x,nO x])
 else cx (⟨#[117,98,102,105,122]⟩:ByteArray) (⟨#[117,98,102,120]⟩:ByteArray) (ga x.x) true x
def mI (x:Ins):AlV :=
 if x.op==11 then .ln ((⟨#[114,101,116]⟩:ByteArray),[]) (x.b==2&&x.rn==30)
 else if x.op==12 then .ln ((aj x).1,[]) (decide (5≤x.b)&&x.a==0)
 else if x.op==13 then .ln ((dn 5 x.a).1,[]) ((dn 5 x.a).2==0)
 else if x.op==14 then .ln ((aj x).1,[]) (x.a==15&&(x.b==2||x.b==6))
 else if x.op==17 then .ln ((⟨#[115,121,115]⟩:ByteArray),lY x) (x.b==0&&x.rd==31)
 else .no
def eH (x:Ins):AlV :=
 if x.b==1&&!x.s&&x.rn==31&&x.a==0&&x.c==0 then .ln ((⟨#[109,111,118]⟩:ByteArray),[dO x,mO x]) true
 else if x.b==1&&x.s&&x.rn==31 then .ln ((⟨#[109,118,110]⟩:ByteArray),bS x [dO x,mO x]) true
 else if x.b==3&&!x.s&&x.rd==31 then .ln ((⟨#[116,115,116]⟩:ByteArray),bS x [nO x,mO x]) true
 else .no
def dw (x:Ins):AlV :=
 if x.op==27 then .ln (ak (an x.s) [(⟨#[110,103,99]⟩:ByteArray),(⟨#[110,103,99,115]⟩:ByteArray)],[dO x,mO x]) (x.b==1&&x.rn==31)
 else if x.s&&x.rd==31 then .ln (ak x.b [(⟨#[99,109,110]⟩:ByteArray),(⟨#[99,109,112]⟩:ByteArray)],bS x [nO x,mO x]) true
 else if x.b==1&&x.rn==31 then .ln (ak (an x.s) [(⟨#[110,101,103]⟩:ByteArray),(⟨#[110,101,103,115]⟩:ByteArray)],bS x [dO x,mO x]) true
 else .no
def tg (l:List OpV) (m:Int):List OpV:=l.set (l.length-1) { l.getD (l.length-1) (op0 0) with md:=m }
def xi (x:Ins):Bool:=x.s&&x.rd==31
def F8 (x:Ins):Bool:=(x.rn==31||(x.rd==31&&!x.s))&&x.c==2+an x.x
def eJ (x:Ins):AlV :=
 let l:cG:=if xi x then (ak x.b [(⟨#[99,109,110]⟩:ByteArray),(⟨#[99,109,112]⟩:ByteArray)],[nsO x,im x]) else bx x
 if !xi x&&!F8 x then .ln l false
 else if F8 x then .ln (l.1,tg l.2 (if x.a==0 then 0 else 1)) true
 else .ln l true
def gt (n:Int):Int:=if n<0∨15<n then -1 else if n % 2=0 then n+1 else n-1
def iV (x:Ins):AlV :=
 if 14≤x.a then .no
 else if (x.b==1||x.b==2)&&x.rn==x.rm&&x.rn==31 then .ln (ak x.b [emp,(⟨#[99,115,101,116]⟩:ByteArray),(⟨#[99,115,101,116,109]⟩:ByteArray)],[dO x,oOf 4 (gt x.a)]) true
 else if x.b !=0&&x.rn==x.rm then .ln (ak x.b [emp,(⟨#[99,105,110,99]⟩:ByteArray),(⟨#[99,105,110,118]⟩:ByteArray),(⟨#[99,110,101,103]⟩:ByteArray)],[dO x,nO x,oOf 4 (gt x.a)]) true
 else .no
def gU (x:Ins):AlV :=
 if x.ra !=31||x.b==4||x.b==7 then .ln (aj x) false
 else .ln (ak x.b [(⟨#[109,117,108]⟩:ByteArray),(⟨#[109,110,101,103]⟩:ByteArray),(⟨#[115,109,117,108,108]⟩:ByteArray),(⟨#[115,109,110,101,103,108]⟩:ByteArray),emp,(⟨#[117,109,117,108,108]⟩:ByteArray),(⟨#[117,109,110,101,103,108]⟩:ByteArray)],(aj x).2.take 3) true
def ofO:Option cG→AlV
 | some r=>.ln r true
 | none=>.no
def alA (x:Ins):AlV :=
 if x.op==2 then eG x else if x.op==3 then ofO (ft x) else if x.op==4 then ofO (fL x) else if x.op==5 then .ln (ny x) true
 else if x.op==6 then .ln ((⟨#[114,111,114]⟩:ByteArray),[dO x,nO x,cF x]) (x.rn==x.rm)
 else if x.op==24 then eH x else if x.op==25||x.op==27 then dw x else if x.op==26 then eJ x else if x.op==29 then iV x
 else if x.op==31 then .ln (ak (x.b-8) [(⟨#[108,115,108]⟩:ByteArray),(⟨#[108,115,114]⟩:ByteArray),(⟨#[97,115,114]⟩:ByteArray),(⟨#[114,111,114]⟩:ByteArray)],[dO x,nO x,mO x]) (decide (8≤x.b)&&decide (x.b≤11))
 else if x.op==32 then gU x else mI x
def lnF (x:Ins):cG:=match alA x with
 | .ln r true=>r
 | _=>aj x
end
section
structure LnB (x:Ins):Prop where
 fld:x.op=5→(0≤x.b∧x.b≤2)∧(0≤x.a∧x.a≤63)∧(0≤x.c∧x.c≤63)
 csel:x.op=29→0≤x.b∧x.b≤3
 prod:x.op=32→0≤x.b∧x.b≤7
 mov:x.op=4→(0≤x.b∧x.b≤3)∧(0≤x.c∧x.c≤3)∧(0≤x.a∧x.a≤65535)
 mod:x.op=24∨x.op=25∨x.op=26→0≤x.c∧x.c≤7
theorem oP {x:Ins} (h:ao x=0):LnB x:=by
 obtain ⟨h1,h2⟩:=aA h
 have ho:=j4 h1
 have ha:=k9 h1
 clear h h1 h2
 obtain ⟨op,xx,ss,rd,rn,rm,ra,a,b,c⟩:=x
 simp only at ho ha
 by_cases hop:op=4∨op=5∨op=24∨op=25∨op=26∨op=29∨op=32
 ·rcases hop with rfl | rfl | rfl | rfl | rfl | rfl | rfl
  all_goals
   simp [ac,l7,aU] at ha
   simp [bY,cO] at ha
   refine ⟨?_,?_,?_,?_,?_⟩<;>simp only []<;>omega
 ·refine ⟨?_,?_,?_,?_,?_⟩<;>(simp only [];intro hq;exfalso;omega)
end
end Go.Proofs.YtpjlafmhoifkmaaGreat
