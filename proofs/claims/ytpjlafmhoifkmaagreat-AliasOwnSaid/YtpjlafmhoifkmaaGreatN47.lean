import Derived.Test.YtpjlafmhoifkmaaGreatN35
set_option linter.unusedVariables false
set_option linter.unusedSimpArgs false
set_option maxRecDepth 100000
set_option maxHeartbeats 8000000
namespace Go.Proofs.YtpjlafmhoifkmaaGreat
section
def lkT:List (ByteArray×Nat×Int×Bool)→ByteArray→Nat×Int×Bool
 | [],_=>(0,0,false)
 | r::l,s=>if r.1=s then r.2 else lkT l s
def aR:List (ByteArray×Nat×Int×Bool) :=
  [((⟨#[97,100,114]⟩:ByteArray),1,0,false),
   ((⟨#[97,100,114,112]⟩:ByteArray),1,0,true),
   ((⟨#[97,100,100]⟩:ByteArray),2,0,false),
   ((⟨#[97,100,100,115]⟩:ByteArray),2,0,true),
   ((⟨#[115,117,98]⟩:ByteArray),2,1,false),
   ((⟨#[115,117,98,115]⟩:ByteArray),2,1,true),
   ((⟨#[97,110,100]⟩:ByteArray),3,0,false),
   ((⟨#[111,114,114]⟩:ByteArray),3,1,false),
   ((⟨#[101,111,114]⟩:ByteArray),3,2,false),
   ((⟨#[97,110,100,115]⟩:ByteArray),3,3,false),
   ((⟨#[109,111,118,110]⟩:ByteArray),4,0,false),
   ((⟨#[109,111,118,122]⟩:ByteArray),4,2,false),
   ((⟨#[109,111,118,107]⟩:ByteArray),4,3,false),
   ((⟨#[115,98,102,109]⟩:ByteArray),5,0,false),
   ((⟨#[98,102,109]⟩:ByteArray),5,1,false),
   ((⟨#[117,98,102,109]⟩:ByteArray),5,2,false),
   ((⟨#[101,120,116,114]⟩:ByteArray),6,0,false),
   ((⟨#[98,46,101,113]⟩:ByteArray),7,0,false),
   ((⟨#[98,46,110,101]⟩:ByteArray),7,1,false),
   ((⟨#[98,46,99,115]⟩:ByteArray),7,2,false),
   ((⟨#[98,46,99,99]⟩:ByteArray),7,3,false),
   ((⟨#[98,46,109,105]⟩:ByteArray),7,4,false),
   ((⟨#[98,46,112,108]⟩:ByteArray),7,5,false),
   ((⟨#[98,46,118,115]⟩:ByteArray),7,6,false),
   ((⟨#[98,46,118,99]⟩:ByteArray),7,7,false),
   ((⟨#[98,46,104,105]⟩:ByteArray),7,8,false),
   ((⟨#[98,46,108,115]⟩:ByteArray),7,9,false),
   ((⟨#[98,46,103,101]⟩:ByteArray),7,10,false),
   ((⟨#[98,46,108,116]⟩:ByteArray),7,11,false),
   ((⟨#[98,46,103,116]⟩:ByteArray),7,12,false),
   ((⟨#[98,46,108,101]⟩:ByteArray),7,13,false),
   ((⟨#[98,46,97,108]⟩:ByteArray),7,14,false),
   ((⟨#[98,46,110,118]⟩:ByteArray),7,15,false),
   ((⟨#[98]⟩:ByteArray),8,0,false),
   ((⟨#[98,108]⟩:ByteArray),8,0,true),
   ((⟨#[99,98,122]⟩:ByteArray),9,0,false),
   ((⟨#[99,98,110,122]⟩:ByteArray),9,1,false),
   ((⟨#[116,98,122]⟩:ByteArray),10,0,false),
   ((⟨#[116,98,110,122]⟩:ByteArray),10,1,false),
   ((⟨#[98,114]⟩:ByteArray),11,0,false),
   ((⟨#[98,108,114]⟩:ByteArray),11,1,false),
   ((⟨#[114,101,116]⟩:ByteArray),11,2,false),
   ((⟨#[101,114,101,116]⟩:ByteArray),11,4,false),
   ((⟨#[115,118,99]⟩:ByteArray),12,0,false),
   ((⟨#[104,118,99]⟩:ByteArray),12,1,false),
   ((⟨#[115,109,99]⟩:ByteArray),12,2,false),
   ((⟨#[98,114,107]⟩:ByteArray),12,3,false),
   ((⟨#[104,108,116]⟩:ByteArray),12,4,false),
   ((⟨#[100,99,112,115,49]⟩:ByteArray),12,5,false),
   ((⟨#[100,99,112,115,50]⟩:ByteArray),12,6,false),
   ((⟨#[100,99,112,115,51]⟩:ByteArray),12,7,false),
   ((⟨#[104,105,110,116]⟩:ByteArray),13,0,false),
   ((⟨#[99,108,114,101,120]⟩:ByteArray),14,2,false),
   ((⟨#[100,115,98]⟩:ByteArray),14,4,false),
   ((⟨#[100,109,98]⟩:ByteArray),14,5,false),
   ((⟨#[105,115,98]⟩:ByteArray),14,6,false),
   ((⟨#[109,115,114]⟩:ByteArray),15,0,false),
   ((⟨#[109,114,115]⟩:ByteArray),16,0,false),
   ((⟨#[115,121,115]⟩:ByteArray),17,0,false),
   ((⟨#[115,121,115,108]⟩:ByteArray),18,0,false),
   ((⟨#[98,105,99]⟩:ByteArray),19,0,true),
   ((⟨#[111,114,110]⟩:ByteArray),19,1,true),
   ((⟨#[101,111,110]⟩:ByteArray),19,2,true),
   ((⟨#[98,105,99,115]⟩:ByteArray),19,3,true),
   ((⟨#[108,100,114]⟩:ByteArray),20,0,true),
   ((⟨#[115,116,114]⟩:ByteArray),20,0,false),
   ((⟨#[108,100,114,98]⟩:ByteArray),21,0,true),
   ((⟨#[115,116,114,98]⟩:ByteArray),21,0,false),
   ((⟨#[108,100,114,115,98]⟩:ByteArray),22,0,false),
   ((⟨#[108,100,114,104]⟩:ByteArray),21,1,true),
   ((⟨#[115,116,114,104]⟩:ByteArray),21,1,false),
   ((⟨#[108,100,114,115,104]⟩:ByteArray),22,1,false),
   ((⟨#[108,100,114,115,119]⟩:ByteArray),23,0,false),
   ((⟨#[112,114,102,109]⟩:ByteArray),24,0,false),
   ((⟨#[108,100,117,114]⟩:ByteArray),25,0,true),
   ((⟨#[115,116,117,114]⟩:ByteArray),25,0,false),
   ((⟨#[108,100,117,114,98]⟩:ByteArray),26,0,true),
   ((⟨#[115,116,117,114,98]⟩:ByteArray),26,0,false),
   ((⟨#[108,100,117,114,115,98]⟩:ByteArray),27,0,false),
   ((⟨#[108,100,117,114,104]⟩:ByteArray),26,1,true),
   ((⟨#[115,116,117,114,104]⟩:ByteArray),26,1,false),
   ((⟨#[108,100,117,114,115,104]⟩:ByteArray),27,1,false),
   ((⟨#[108,100,117,114,115,119]⟩:ByteArray),28,0,false),
   ((⟨#[112,114,102,117,109]⟩:ByteArray),29,0,false),
   ((⟨#[108,100,116,114]⟩:ByteArray),30,0,true),
   ((⟨#[115,116,116,114]⟩:ByteArray),30,0,false),
   ((⟨#[108,100,116,114,98]⟩:ByteArray),31,0,true),
   ((⟨#[115,116,116,114,98]⟩:ByteArray),31,0,false),
   ((⟨#[108,100,116,114,115,98]⟩:ByteArray),32,0,false),
   ((⟨#[108,100,116,114,104]⟩:ByteArray),31,1,true),
   ((⟨#[115,116,116,114,104]⟩:ByteArray),31,1,false),
   ((⟨#[108,100,116,114,115,104]⟩:ByteArray),32,1,false),
   ((⟨#[108,100,116,114,115,119]⟩:ByteArray),33,0,false),
   ((⟨#[115,116,112]⟩:ByteArray),34,0,false),
   ((⟨#[115,116,110,112]⟩:ByteArray),34,1,false),
   ((⟨#[108,100,112]⟩:ByteArray),34,0,true),
   ((⟨#[108,100,110,112]⟩:ByteArray),34,1,true),
   ((⟨#[108,100,112,115,119]⟩:ByteArray),35,0,false),
   ((⟨#[115,116,120,114,98]⟩:ByteArray),36,0,false),
   ((⟨#[115,116,108,120,114,98]⟩:ByteArray),36,3,false),
   ((⟨#[115,116,108,114,98]⟩:ByteArray),36,6,false),
   ((⟨#[115,116,120,114,104]⟩:ByteArray),36,1,false),
   ((⟨#[115,116,108,120,114,104]⟩:ByteArray),36,4,false),
   ((⟨#[115,116,108,114,104]⟩:ByteArray),36,7,false),
   ((⟨#[115,116,120,114]⟩:ByteArray),36,2,false),
   ((⟨#[115,116,108,120,114]⟩:ByteArray),36,5,false),
   ((⟨#[115,116,108,114]⟩:ByteArray),36,8,false),
   ((⟨#[115,116,120,112]⟩:ByteArray),36,11,false),
   ((⟨#[115,116,108,120,112]⟩:ByteArray),36,14,false),
   ((⟨#[108,100,120,114,98]⟩:ByteArray),36,0,true),
   ((⟨#[108,100,97,120,114,98]⟩:ByteArray),36,3,true),
   ((⟨#[108,100,97,114,98]⟩:ByteArray),36,6,true),
   ((⟨#[108,100,120,114,104]⟩:ByteArray),36,1,true),
   ((⟨#[108,100,97,120,114,104]⟩:ByteArray),36,4,true),
   ((⟨#[108,100,97,114,104]⟩:ByteArray),36,7,true),
   ((⟨#[108,100,120,114]⟩:ByteArray),36,2,true),
   ((⟨#[108,100,97,120,114]⟩:ByteArray),36,5,true),
   ((⟨#[108,100,97,114]⟩:ByteArray),36,8,true),
   ((⟨#[108,100,120,112]⟩:ByteArray),36,11,true),
   ((⟨#[108,100,97,120,112]⟩:ByteArray),36,14,true),
   ((⟨#[97,100,99]⟩:ByteArray),37,0,false),
   ((⟨#[97,100,99,115]⟩:ByteArray),37,0,true),
   ((⟨#[115,98,99]⟩:ByteArray),37,1,false),
   ((⟨#[115,98,99,115]⟩:ByteArray),37,1,true),
   ((⟨#[99,99,109,110]⟩:ByteArray),38,0,false),
   ((⟨#[99,99,109,112]⟩:ByteArray),38,1,false),
   ((⟨#[99,115,101,108]⟩:ByteArray),39,0,false),
   ((⟨#[99,115,105,110,99]⟩:ByteArray),39,1,false),
   ((⟨#[99,115,105,110,118]⟩:ByteArray),39,2,false),
   ((⟨#[99,115,110,101,103]⟩:ByteArray),39,3,false),
   ((⟨#[114,98,105,116]⟩:ByteArray),40,0,false),
   ((⟨#[114,101,118,49,54]⟩:ByteArray),40,1,false),
   ((⟨#[114,101,118,51,50]⟩:ByteArray),40,2,false),
   ((⟨#[99,108,122]⟩:ByteArray),40,4,false),
   ((⟨#[99,108,115]⟩:ByteArray),40,5,false),
   ((⟨#[114,101,118]⟩:ByteArray),41,0,false),
   ((⟨#[117,100,105,118]⟩:ByteArray),42,2,false),
   ((⟨#[115,100,105,118]⟩:ByteArray),42,3,false),
   ((⟨#[108,115,108,118]⟩:ByteArray),42,8,false),
   ((⟨#[108,115,114,118]⟩:ByteArray),42,9,false),
   ((⟨#[97,115,114,118]⟩:ByteArray),42,10,false),
   ((⟨#[114,111,114,118]⟩:ByteArray),42,11,false),
   ((⟨#[99,114,99,51,50,98]⟩:ByteArray),43,16,false),
   ((⟨#[99,114,99,51,50,104]⟩:ByteArray),43,17,false),
   ((⟨#[99,114,99,51,50,119]⟩:ByteArray),43,18,false),
   ((⟨#[99,114,99,51,50,120]⟩:ByteArray),43,19,false),
   ((⟨#[99,114,99,51,50,99,98]⟩:ByteArray),43,20,false),
   ((⟨#[99,114,99,51,50,99,104]⟩:ByteArray),43,21,false),
   ((⟨#[99,114,99,51,50,99,119]⟩:ByteArray),43,22,false),
   ((⟨#[99,114,99,51,50,99,120]⟩:ByteArray),43,23,false),
   ((⟨#[109,97,100,100]⟩:ByteArray),44,0,false),
   ((⟨#[109,115,117,98]⟩:ByteArray),44,1,false),
   ((⟨#[115,109,97,100,100,108]⟩:ByteArray),44,2,false),
   ((⟨#[115,109,115,117,98,108]⟩:ByteArray),44,3,false),
   ((⟨#[117,109,97,100,100,108]⟩:ByteArray),44,5,false),
   ((⟨#[117,109,115,117,98,108]⟩:ByteArray),44,6,false),
   ((⟨#[115,109,117,108,104]⟩:ByteArray),45,4,false),
   ((⟨#[117,109,117,108,104]⟩:ByteArray),45,7,false),
   ((⟨#[99,109,110]⟩:ByteArray),46,0,false),
   ((⟨#[99,109,112]⟩:ByteArray),46,1,false),
   ((⟨#[109,111,118]⟩:ByteArray),47,0,false),
   ((⟨#[116,115,116]⟩:ByteArray),48,0,false),
   ((⟨#[109,118,110]⟩:ByteArray),49,0,false),
   ((⟨#[110,101,103]⟩:ByteArray),50,0,false),
   ((⟨#[110,101,103,115]⟩:ByteArray),50,0,true),
   ((⟨#[110,103,99]⟩:ByteArray),51,0,false),
   ((⟨#[110,103,99,115]⟩:ByteArray),51,0,true),
   ((⟨#[99,115,101,116]⟩:ByteArray),52,1,false),
   ((⟨#[99,115,101,116,109]⟩:ByteArray),52,2,false),
   ((⟨#[99,105,110,99]⟩:ByteArray),53,1,false),
   ((⟨#[99,105,110,118]⟩:ByteArray),53,2,false),
   ((⟨#[99,110,101,103]⟩:ByteArray),53,3,false),
   ((⟨#[97,115,114]⟩:ByteArray),54,0,false),
   ((⟨#[108,115,114]⟩:ByteArray),54,2,false),
   ((⟨#[108,115,108]⟩:ByteArray),55,0,false),
   ((⟨#[114,111,114]⟩:ByteArray),56,0,false),
   ((⟨#[115,120,116,98]⟩:ByteArray),57,7,false),
   ((⟨#[115,120,116,104]⟩:ByteArray),57,15,false),
   ((⟨#[115,120,116,119]⟩:ByteArray),57,31,false),
   ((⟨#[117,120,116,98]⟩:ByteArray),58,7,false),
   ((⟨#[117,120,116,104]⟩:ByteArray),58,15,false),
   ((⟨#[115,98,102,105,122]⟩:ByteArray),59,0,false),
   ((⟨#[98,102,105]⟩:ByteArray),59,1,false),
   ((⟨#[117,98,102,105,122]⟩:ByteArray),59,2,false),
   ((⟨#[115,98,102,120]⟩:ByteArray),60,0,false),
   ((⟨#[98,102,120,105,108]⟩:ByteArray),60,1,false),
   ((⟨#[117,98,102,120]⟩:ByteArray),60,2,false),
   ((⟨#[98,102,99]⟩:ByteArray),61,0,false),
   ((⟨#[109,117,108]⟩:ByteArray),62,0,false),
   ((⟨#[109,110,101,103]⟩:ByteArray),62,1,false),
   ((⟨#[115,109,117,108,108]⟩:ByteArray),62,2,false),
   ((⟨#[115,109,110,101,103,108]⟩:ByteArray),62,3,false),
   ((⟨#[117,109,117,108,108]⟩:ByteArray),62,5,false),
   ((⟨#[117,109,110,101,103,108]⟩:ByteArray),62,6,false),
   ((⟨#[110,111,112]⟩:ByteArray),63,0,false),
   ((⟨#[121,105,101,108,100]⟩:ByteArray),63,1,false),
   ((⟨#[119,102,101]⟩:ByteArray),63,2,false),
   ((⟨#[119,102,105]⟩:ByteArray),63,3,false),
   ((⟨#[115,101,118]⟩:ByteArray),63,4,false),
   ((⟨#[115,101,118,108]⟩:ByteArray),63,5,false),
   ((⟨#[100,103,104]⟩:ByteArray),63,6,false),
   ((⟨#[101,115,98]⟩:ByteArray),63,16,false),
   ((⟨#[99,115,100,98]⟩:ByteArray),63,20,false)]
def q9 (k:OpV):Int:=if k.md=0 then 0 else k.md-1
def kv (b:Int) (s:Bool) (rd:Int) (dsp:Bool) (n k:OpV):Ins :=
 if k.kind=2 then ⟨2,n.r.x,s,rd,n.r.n,0,0,k.add,b,if k.md=1 then 1 else 0⟩
 else if 5≤k.md then ⟨26,n.r.x,s,rd,n.r.n,k.r.n,0,k.amt,b,k.md-5⟩
 else if (dsp||n.r.sp)=true then ⟨26,n.r.x,s,rd,n.r.n,k.r.n,0,k.amt,b,2+an n.r.x⟩
 else ⟨25,n.r.x,s,rd,n.r.n,k.r.n,0,k.amt,b,q9 k⟩
def lU (b:Int) (s:Bool) (d n k:OpV):Ins:=⟨24,n.r.x,s,d.r.n,n.r.n,k.r.n,0,k.amt,b,q9 k⟩
def Ia (k:OpV):Int:=if k.md=7 then 2 else if k.md=1 then 3 else if k.md=11 then 6 else 7
def gJ (r b c rd:Int) (m:OpV):Ins :=
 if 0≤r then ⟨21,false,false,rd,m.r.n,0,r,m.add,b,c⟩
 else if m.mode=3 then ⟨22,false,decide (¬m.amt = -1),rd,m.r.n,m.m.n,0,Ia m,b,c⟩
 else if m.mode=0 then ⟨20,false,false,rd,m.r.n,0,0,m.add / 2 ^ b.toNat,b,c⟩
 else ⟨21,false,false,rd,m.r.n,0,if m.mode=2 then 1 else 3,m.add,b,c⟩
def o0 (b:Int) (rd:Int) (m:OpV):Ins:=⟨18,false,false,rd,0,0,0,m.add / 4,b,0⟩
def ci (r:Int) (k:Nat) (b:Int) (s:Bool):List OpV→Ins
 | [d,m] =>
  if k=0 then (if m.kind=3 then o0 (an d.r.x) d.r.n m else gJ r (2+an d.r.x) (an s) d.r.n m)
  else if k=1 then gJ r b (an s) d.r.n m
  else if k=2 then gJ r b (if d.r.x then 2 else 3) d.r.n m
  else if k=3 then (if m.kind=3 then o0 2 d.r.n m else gJ r 2 2 d.r.n m)
  else (if m.kind=3 then o0 3 d.n m else gJ r 3 2 d.n m)
 | _=>bW 0
def vj (m:OpV):Int:=if m.mode=2 then 1 else if m.mode=1 then 3 else 2
def dp (a:Int) (x:Bool) (z:Int) (s:Bool):List OpV→Ins
 | [d,m]=>⟨23,x,s,d.r.n,m.r.n,0,0,a,if z=2 then 2+an d.r.x else z,0⟩
 | [p,q,m]=>if s then ⟨23,x,s,p.r.n,m.r.n,0,q.r.n,a,2+an p.r.x,0⟩ else ⟨23,x,s,q.r.n,m.r.n,p.r.n,0,a,if z=2 then 2+an q.r.x else z,0⟩
 | [p,q,t,m]=>⟨23,x,s,q.r.n,m.r.n,p.r.n,t.r.n,a,2+an q.r.x,0⟩
 | _=>bW 0
def G1 (p q r t:OpV):Int:=p.add*2048+q.add*128+r.add*8+t.add
def rd1 (b:Int) (s:Bool):List OpV→Ins
 | [d,t]=>⟨1,s,false,d.r.n,0,0,0,if s then t.add / 4096 else t.add,0,0⟩
 | _=>bW 0
def rd2 (b:Int) (s:Bool):List OpV→Ins
 | [d,n,k]=>kv b s d.r.n d.r.sp n k
 | _=>bW 0
def rd3 (b:Int) (s:Bool):List OpV→Ins
 | [d,n,k]=>if k.kind=2 then ⟨3,n.r.x,false,d.r.n,n.r.n,0,0,k.add,b,0⟩ else lU b false d n k
 | _=>bW 0
def rd4 (b:Int) (s:Bool):List OpV→Ins
 | [d,k]=>⟨4,d.r.x,false,d.r.n,0,0,0,k.add,b,k.amt / 16⟩
 | _=>bW 0
def rd5 (b:Int) (s:Bool):List OpV→Ins
 | [d,n,k,j]=>⟨5,d.r.x,false,d.r.n,n.r.n,0,0,k.add,b,j.add⟩
 | _=>bW 0
def rd6 (b:Int) (s:Bool):List OpV→Ins
 | [d,n,m,k]=>⟨6,d.r.x,false,d.r.n,n.r.n,m.r.n,0,k.add,0,0⟩
 | _=>bW 0
def rd7 (b:Int) (s:Bool):List OpV→Ins
 | [t]=>⟨7,false,false,0,0,0,0,t.add / 4,b,0⟩
 | _=>bW 0
def rd8 (b:Int) (s:Bool):List OpV→Ins
 | [t]=>⟨8,false,s,0,0,0,0,t.add / 4,0,0⟩
 | _=>bW 0
def rd9 (b:Int) (s:Bool):List OpV→Ins
 | [d,t]=>⟨9,d.r.x,false,d.r.n,0,0,0,t.add / 4,b,0⟩
 | _=>bW 0
def Jk (b:Int) (s:Bool):List OpV→Ins
 | [r,k,t]=>⟨10,false,false,r.r.n,0,0,0,t.add / 4,b,k.add⟩
 | _=>bW 0
def Ke (b:Int) (s:Bool):List OpV→Ins
 | []=>⟨11,false,false,0,if b=4 then 0 else 30,0,0,0,b,0⟩
 | [r]=>⟨11,false,false,0,r.r.n,0,0,0,b,0⟩
 | _=>bW 0
def KU (b:Int) (s:Bool):List OpV→Ins
 | []=>⟨12,false,false,0,0,0,0,0,b,0⟩
 | [k]=>⟨12,false,false,0,0,0,0,k.add,b,0⟩
 | _=>bW 0
def Kd (b:Int) (s:Bool):List OpV→Ins
 | [k]=>⟨13,false,false,0,0,0,0,k.add,0,0⟩
 | _=>bW 0
def IA (b:Int) (s:Bool):List OpV→Ins
 | []=>⟨14,false,false,0,0,0,0,15,b,0⟩
 | [k]=>⟨14,false,false,0,0,0,0,if b=4∨b=5 then k.n else k.add,b,0⟩
 | _=>bW 0
def JO (b:Int) (s:Bool):List OpV→Ins
 | [p,q]=>if p.kind=6 then ⟨15,false,false,q.r.n,0,0,0,p.n,0,0⟩ else ⟨16,false,false,0,0,0,0,q.add,p.n,0⟩
 | _=>bW 0
def K3 (b:Int) (s:Bool):List OpV→Ins
 | [d,p]=>⟨15,false,false,d.r.n,0,0,0,p.n,1,0⟩
 | _=>bW 0
def Jh (b:Int) (s:Bool):List OpV→Ins
 | [p,q,r,t]=>⟨17,false,false,31,0,0,0,G1 p q r t,0,0⟩
 | [p,q,r,t,d]=>⟨17,false,false,d.r.n,0,0,0,G1 p q r t,0,0⟩
 | _=>bW 0
def JQ (b:Int) (s:Bool):List OpV→Ins
 | [d,p,q,r,t]=>⟨17,false,false,d.r.n,0,0,0,G1 p q r t,1,0⟩
 | _=>bW 0
def Ky (b:Int) (s:Bool):List OpV→Ins
 | [d,n,k]=>lU b s d n k
 | _=>bW 0
def zz (b:Int) (s:Bool):List OpV→Ins
 | [d,t,m]=>⟨19,false,s,d.r.n,m.r.n,0,t.r.n,m.add / (if d.r.x then 8 else 4),if d.r.x then 2 else 0,if b=1 then 0 else vj m⟩
 | _=>bW 0
def Jq (b:Int) (s:Bool):List OpV→Ins
 | [d,t,m]=>⟨19,false,true,d.r.n,m.r.n,0,t.r.n,m.add / 4,1,vj m⟩
 | _=>bW 0
def J7 (b:Int) (s:Bool):List OpV→Ins
 | [d,n,m]=>⟨27,d.r.x,s,d.r.n,n.r.n,m.r.n,0,0,b,0⟩
 | _=>bW 0
def Kr (b:Int) (s:Bool):List OpV→Ins
 | [n,k,f,c]=>if k.kind=2 then ⟨28,n.r.x,true,0,n.r.n,k.add,0,f.add,b,c.n⟩ else ⟨28,n.r.x,false,0,n.r.n,k.r.n,0,f.add,b,c.n⟩
 | _=>bW 0
def IY (b:Int) (s:Bool):List OpV→Ins
 | [d,n,m,c]=>⟨29,d.r.x,false,d.r.n,n.r.n,m.r.n,0,c.n,b,0⟩
 | _=>bW 0
def vu (b:Int) (s:Bool):List OpV→Ins
 | [d,n]=>⟨30,d.r.x,false,d.r.n,n.r.n,0,0,0,b,0⟩
 | _=>bW 0
def Fb (b:Int) (s:Bool):List OpV→Ins
 | [d,n]=>⟨30,d.r.x,false,d.r.n,n.r.n,0,0,0,if d.r.x then 3 else 2,0⟩
 | _=>bW 0
def tq (b:Int) (s:Bool):List OpV→Ins
 | [d,n,m]=>⟨31,d.r.x,false,d.r.n,n.r.n,m.r.n,0,0,b,0⟩
 | _=>bW 0
def IS (b:Int) (s:Bool):List OpV→Ins
 | [d,n,m]=>⟨31,m.r.x,false,d.r.n,n.r.n,m.r.n,0,0,b,0⟩
 | _=>bW 0
def sZ (b:Int) (s:Bool):List OpV→Ins
 | [d,n,m,a]=>⟨32,d.r.x,false,d.r.n,n.r.n,m.r.n,a.r.n,0,b,0⟩
 | _=>bW 0
def Fx (b:Int) (s:Bool):List OpV→Ins
 | [d,n,m]=>⟨32,d.r.x,false,d.r.n,n.r.n,m.r.n,0,0,b,0⟩
 | _=>bW 0
def xL (b:Int) (s:Bool):List OpV→Ins
 | [n,k]=>kv b true 31 false n k
 | _=>bW 0
def yu (b:Int) (s:Bool):List OpV→Ins
 | [d,k]=>if k.kind=2 then (cS ⟨d.r.n,d.r.x,d.r.sp⟩ (dB k.add)).1 else if (d.r.sp||k.r.sp)=true then ⟨2,d.r.x,false,d.r.n,k.r.n,0,0,0,0,0⟩ else ⟨24,d.r.x,false,d.r.n,31,k.r.n,0,0,1,0⟩
 | _=>bW 0
def CZ (b:Int) (s:Bool):List OpV→Ins
 | [n,k]=>if k.kind=2 then ⟨3,n.r.x,false,31,n.r.n,0,0,k.add,3,0⟩ else lU 3 false (ab 31 n.r.x) n k
 | _=>bW 0
def Jc (b:Int) (s:Bool):List OpV→Ins
 | [d,k]=>lU 1 true d (ab 31 d.r.x) k
 | _=>bW 0
def Ji (b:Int) (s:Bool):List OpV→Ins
 | [d,k]=>⟨25,d.r.x,s,d.r.n,31,k.r.n,0,k.amt,1,q9 k⟩
 | _=>bW 0
def Ip (b:Int) (s:Bool):List OpV→Ins
 | [d,k]=>⟨27,d.r.x,s,d.r.n,31,k.r.n,0,0,1,0⟩
 | _=>bW 0
def F1 (b:Int) (s:Bool):List OpV→Ins
 | [d,c]=>⟨29,d.r.x,false,d.r.n,31,31,0,gt c.n,b,0⟩
 | _=>bW 0
def Dr (b:Int) (s:Bool):List OpV→Ins
 | [d,n,c]=>⟨29,d.r.x,false,d.r.n,n.r.n,n.r.n,0,gt c.n,b,0⟩
 | _=>bW 0
def z9 (b:Int) (s:Bool):List OpV→Ins
 | [d,n,k]=>if k.kind=2 then ⟨5,d.r.x,false,d.r.n,n.r.n,0,0,k.add,b,ga d.r.x-1⟩ else ⟨31,d.r.x,false,d.r.n,n.r.n,k.r.n,0,0,if b=0 then 10 else 9,0⟩
 | _=>bW 0
def F2 (b:Int) (s:Bool):List OpV→Ins
 | [d,n,k]=>if k.kind=2 then ⟨5,d.r.x,false,d.r.n,n.r.n,0,0,ga d.r.x-k.add,2,ga d.r.x-k.add-1⟩ else ⟨31,d.r.x,false,d.r.n,n.r.n,k.r.n,0,0,8,0⟩
 | _=>bW 0
def EX (b:Int) (s:Bool):List OpV→Ins
 | [d,n,k]=>if k.kind=2 then ⟨6,d.r.x,false,d.r.n,n.r.n,n.r.n,0,k.add,0,0⟩ else ⟨31,d.r.x,false,d.r.n,n.r.n,k.r.n,0,0,11,0⟩
 | _=>bW 0
def Bk (b:Int) (s:Bool):List OpV→Ins
 | [d,n]=>⟨5,d.r.x,false,d.r.n,n.r.n,0,0,0,0,b⟩
 | _=>bW 0
def Fz (b:Int) (s:Bool):List OpV→Ins
 | [d,n]=>⟨5,d.r.x,false,d.r.n,n.r.n,0,0,0,2,b⟩
 | _=>bW 0
def Kx (b:Int) (s:Bool):List OpV→Ins
 | [d,n,j,k]=>⟨5,d.r.x,false,d.r.n,n.r.n,0,0,ga d.r.x-j.add,b,k.add-1⟩
 | _=>bW 0
def IO (b:Int) (s:Bool):List OpV→Ins
 | [d,n,j,k]=>⟨5,d.r.x,false,d.r.n,n.r.n,0,0,j.add,b,k.add+j.add-1⟩
 | _=>bW 0
def KL (b:Int) (s:Bool):List OpV→Ins
 | [d,j,k]=>⟨5,d.r.x,false,d.r.n,31,0,0,ga d.r.x-j.add,1,k.add-1⟩
 | _=>bW 0
def ta (b:Int) (s:Bool):List OpV→Ins
 | [d,n,m]=>⟨32,d.r.x,false,d.r.n,n.r.n,m.r.n,31,0,b,0⟩
 | _=>bW 0
def Kh (b:Int) (s:Bool):List OpV→Ins
 | []=>⟨13,false,false,0,0,0,0,b,0,0⟩
 | _=>bW 0
def rdG (g:Nat) (b:Int) (s:Bool) (l:List OpV):Ins :=
 match g with
 | 1=>rd1 b s l
 | 2=>rd2 b s l
 | 3=>rd3 b s l
 | 4=>rd4 b s l
 | 5=>rd5 b s l
 | 6=>rd6 b s l
 | 7=>rd7 b s l
 | 8=>rd8 b s l
 | 9=>rd9 b s l
 | 10=>Jk b s l
 | 11=>Ke b s l
 | 12=>KU b s l
 | 13=>Kd b s l
 | 14=>IA b s l
 | 15=>JO b s l
 | 16=>K3 b s l
 | 17=>Jh b s l
 | 18=>JQ b s l
 | 19=>Ky b s l
 | 34=>zz b s l
 | 35=>Jq b s l
 | 37=>J7 b s l
 | 38=>Kr b s l
 | 39=>IY b s l
 | 40=>vu b s l
 | 41=>Fb b s l
 | 42=>tq b s l
 | 43=>IS b s l
 | 44=>sZ b s l
 | 45=>Fx b s l
 | 46=>xL b s l
 | 47=>yu b s l
 | 48=>CZ b s l
 | 49=>Jc b s l
 | 50=>Ji b s l
 | 51=>Ip b s l
 | 52=>F1 b s l
 | 53=>Dr b s l
 | 54=>z9 b s l
 | 55=>F2 b s l
 | 56=>EX b s l
 | 57=>Bk b s l
 | 58=>Fz b s l
 | 59=>Kx b s l
 | 60=>IO b s l
 | 61=>KL b s l
 | 62=>ta b s l
 | 63=>Kh b s l
 | 20=>ci (-1) 0 b s l
 | 21=>ci (-1) 1 b s l
 | 22=>ci (-1) 2 b s l
 | 23=>ci (-1) 3 b s l
 | 24=>ci (-1) 4 b s l
 | 25=>ci (0) 0 b s l
 | 26=>ci (0) 1 b s l
 | 27=>ci (0) 2 b s l
 | 28=>ci (0) 3 b s l
 | 29=>ci (0) 4 b s l
 | 30=>ci (2) 0 b s l
 | 31=>ci (2) 1 b s l
 | 32=>ci (2) 2 b s l
 | 33=>ci (2) 3 b s l
 | 36=>if b<3 then dp 0 false b s l else if b<6 then dp 0 true (b-3) s l else if b<9 then dp 2 true (b-6) s l else if b=11 then dp 1 false 2 s l else dp 1 true 2 s l
 | _=>bW 0
theorem rg1 (b:Int) (s:Bool) (l:List OpV):rdG 1 b s l=rd1 b s l:=rfl
theorem rg2 (b:Int) (s:Bool) (l:List OpV):rdG 2 b s l=rd2 b s l:=rfl
theorem rg3 (b:Int) (s:Bool) (l:List OpV):rdG 3 b s l=rd3 b s l:=rfl
theorem rg4 (b:Int) (s:Bool) (l:List OpV):rdG 4 b s l=rd4 b s l:=rfl
theorem rg5 (b:Int) (s:Bool) (l:List OpV):rdG 5 b s l=rd5 b s l:=rfl
theorem rg6 (b:Int) (s:Bool) (l:List OpV):rdG 6 b s l=rd6 b s l:=rfl
theorem rg7 (b:Int) (s:Bool) (l:List OpV):rdG 7 b s l=rd7 b s l:=rfl
theorem rg8 (b:Int) (s:Bool) (l:List OpV):rdG 8 b s l=rd8 b s l:=rfl
theorem rg9 (b:Int) (s:Bool) (l:List OpV):rdG 9 b s l=rd9 b s l:=rfl
theorem rg10 (b:Int) (s:Bool) (l:List OpV):rdG 10 b s l=Jk b s l:=rfl
theorem LM (b:Int) (s:Bool) (l:List OpV):rdG 11 b s l=Ke b s l:=rfl
theorem LF (b:Int) (s:Bool) (l:List OpV):rdG 12 b s l=KU b s l:=rfl
theorem rg13 (b:Int) (s:Bool) (l:List OpV):rdG 13 b s l=Kd b s l:=rfl
theorem My (b:Int) (s:Bool) (l:List OpV):rdG 14 b s l=IA b s l:=rfl
theorem Mn (b:Int) (s:Bool) (l:List OpV):rdG 15 b s l=JO b s l:=rfl
theorem rg16 (b:Int) (s:Bool) (l:List OpV):rdG 16 b s l=K3 b s l:=rfl
theorem OA (b:Int) (s:Bool) (l:List OpV):rdG 17 b s l=Jh b s l:=rfl
theorem rg18 (b:Int) (s:Bool) (l:List OpV):rdG 18 b s l=JQ b s l:=rfl
theorem rg19 (b:Int) (s:Bool) (l:List OpV):rdG 19 b s l=Ky b s l:=rfl
theorem E0 (b:Int) (s:Bool) (l:List OpV):rdG 34 b s l=zz b s l:=rfl
theorem rg35 (b:Int) (s:Bool) (l:List OpV):rdG 35 b s l=Jq b s l:=rfl
theorem rg37 (b:Int) (s:Bool) (l:List OpV):rdG 37 b s l=J7 b s l:=rfl
theorem rg38 (b:Int) (s:Bool) (l:List OpV):rdG 38 b s l=Kr b s l:=rfl
theorem rg39 (b:Int) (s:Bool) (l:List OpV):rdG 39 b s l=IY b s l:=rfl
theorem DS (b:Int) (s:Bool) (l:List OpV):rdG 40 b s l=vu b s l:=rfl
theorem MR (b:Int) (s:Bool) (l:List OpV):rdG 41 b s l=Fb b s l:=rfl
theorem x8 (b:Int) (s:Bool) (l:List OpV):rdG 42 b s l=tq b s l:=rfl
theorem rg43 (b:Int) (s:Bool) (l:List OpV):rdG 43 b s l=IS b s l:=rfl
theorem ym (b:Int) (s:Bool) (l:List OpV):rdG 44 b s l=sZ b s l:=rfl
theorem LT (b:Int) (s:Bool) (l:List OpV):rdG 45 b s l=Fx b s l:=rfl
theorem EQ (b:Int) (s:Bool) (l:List OpV):rdG 46 b s l=xL b s l:=rfl
theorem FG (b:Int) (s:Bool) (l:List OpV):rdG 47 b s l=yu b s l:=rfl
theorem Nn (b:Int) (s:Bool) (l:List OpV):rdG 48 b s l=CZ b s l:=rfl
theorem rg49 (b:Int) (s:Bool) (l:List OpV):rdG 49 b s l=Jc b s l:=rfl
theorem rg50 (b:Int) (s:Bool) (l:List OpV):rdG 50 b s l=Ji b s l:=rfl
theorem rg51 (b:Int) (s:Bool) (l:List OpV):rdG 51 b s l=Ip b s l:=rfl
theorem ME (b:Int) (s:Bool) (l:List OpV):rdG 52 b s l=F1 b s l:=rfl
theorem Jr (b:Int) (s:Bool) (l:List OpV):rdG 53 b s l=Dr b s l:=rfl
theorem Gw (b:Int) (s:Bool) (l:List OpV):rdG 54 b s l=z9 b s l:=rfl
theorem LO (b:Int) (s:Bool) (l:List OpV):rdG 55 b s l=F2 b s l:=rfl
theorem Ox (b:Int) (s:Bool) (l:List OpV):rdG 56 b s l=EX b s l:=rfl
theorem KD (b:Int) (s:Bool) (l:List OpV):rdG 57 b s l=Bk b s l:=rfl
theorem Mm (b:Int) (s:Bool) (l:List OpV):rdG 58 b s l=Fz b s l:=rfl
theorem rg59 (b:Int) (s:Bool) (l:List OpV):rdG 59 b s l=Kx b s l:=rfl
theorem rg60 (b:Int) (s:Bool) (l:List OpV):rdG 60 b s l=IO b s l:=rfl
theorem rg61 (b:Int) (s:Bool) (l:List OpV):rdG 61 b s l=KL b s l:=rfl
theorem x2 (b:Int) (s:Bool) (l:List OpV):rdG 62 b s l=ta b s l:=rfl
theorem rg63 (b:Int) (s:Bool) (l:List OpV):rdG 63 b s l=Kh b s l:=rfl
theorem zI (b:Int) (s:Bool) (l:List OpV):rdG 20 b s l=ci (-1) 0 b s l:=rfl
theorem ES (b:Int) (s:Bool) (l:List OpV):rdG 21 b s l=ci (-1) 1 b s l:=rfl
theorem Hl (b:Int) (s:Bool) (l:List OpV):rdG 22 b s l=ci (-1) 2 b s l:=rfl
theorem Ld (b:Int) (s:Bool) (l:List OpV):rdG 23 b s l=ci (-1) 3 b s l:=rfl
theorem MU (b:Int) (s:Bool) (l:List OpV):rdG 24 b s l=ci (-1) 4 b s l:=rfl
theorem GE (b:Int) (s:Bool) (l:List OpV):rdG 25 b s l=ci (0) 0 b s l:=rfl
theorem GP (b:Int) (s:Bool) (l:List OpV):rdG 26 b s l=ci (0) 1 b s l:=rfl
theorem He (b:Int) (s:Bool) (l:List OpV):rdG 27 b s l=ci (0) 2 b s l:=rfl
theorem rg28 (b:Int) (s:Bool) (l:List OpV):rdG 28 b s l=ci (0) 3 b s l:=rfl
theorem rg29 (b:Int) (s:Bool) (l:List OpV):rdG 29 b s l=ci (0) 4 b s l:=rfl
theorem F3 (b:Int) (s:Bool) (l:List OpV):rdG 30 b s l=ci (2) 0 b s l:=rfl
theorem Hk (b:Int) (s:Bool) (l:List OpV):rdG 31 b s l=ci (2) 1 b s l:=rfl
theorem Hj (b:Int) (s:Bool) (l:List OpV):rdG 32 b s l=ci (2) 2 b s l:=rfl
theorem rg33 (b:Int) (s:Bool) (l:List OpV):rdG 33 b s l=ci (2) 3 b s l:=rfl
def back (l:cG):Ins:=rdG (lkT aR l.1).1 (lkT aR l.1).2.1 (lkT aR l.1).2.2 l.2
theorem ai {n:ByteArray} {l:List OpV} {g:Nat} {b:Int} {s:Bool} (h:lkT aR n=(g,b,s)):back (n,l)=rdG g b s l:=by
 unfold back
 rw [h]
theorem wf1 {xx ss:Bool} {rd rn rm ra a b c:Int} (h:ao ⟨1,xx,ss,rd,rn,rm,ra,a,b,c⟩=0):ss=false∧(0≤rd∧rd≤31)∧rn=0∧rm=0∧ra=0∧((-1048576)≤a∧a≤1048575)∧b=0∧c=0:=by
 obtain ⟨h1,-⟩:=aA h
 clear h
 unfold aP at h1
 rw [show ac (Ins.op ⟨1,xx,ss,rd,rn,rm,ra,a,b,c⟩)=[(1,0,1),(3,0,31),(7,(-1048576),1048575)] from rfl] at h1
 simp only [Bool.and_eq_true,decide_eq_true_eq] at h1
 obtain ⟨⟨h1,-⟩,h2⟩:=h1
 rw [show bN ⟨1,xx,ss,rd,rn,rm,ra,a,b,c⟩=⟨1,decide (an xx=1),false,rd,0,0,0,a,0,0⟩ from rfl] at h2
 simp only [Ins.mk.injEq] at h2
 simp only [List.all_cons,List.all_nil,bY,cO,Bool.and_eq_true,decide_eq_true_eq] at h1
 simp at h1
 obtain ⟨-,e1,e2,e3,e4,e5,e6,e7,e8,e9⟩:=h2
 refine ⟨?_,?_,?_,?_,?_,?_,?_,?_⟩<;>first | omega | exact h1 | exact e1.symm | exact e2.symm | (simp_all;done)
theorem wf2 {xx ss:Bool} {rd rn rm ra a b c:Int} (h:ao ⟨2,xx,ss,rd,rn,rm,ra,a,b,c⟩=0):(0≤rd∧rd≤31)∧(0≤rn∧rn≤31)∧rm=0∧ra=0∧(0≤a∧a≤4095)∧(0≤b∧b≤1)∧(0≤c∧c≤1):=by
 obtain ⟨h1,-⟩:=aA h
 clear h
 unfold aP at h1
 rw [show ac (Ins.op ⟨2,xx,ss,rd,rn,rm,ra,a,b,c⟩)=[(1,0,1),(2,0,1),(3,0,31),(4,0,31),(7,0,4095),(8,0,1),(9,0,1)] from rfl] at h1
 simp only [Bool.and_eq_true,decide_eq_true_eq] at h1
 obtain ⟨⟨h1,-⟩,h2⟩:=h1
 rw [show bN ⟨2,xx,ss,rd,rn,rm,ra,a,b,c⟩=⟨2,decide (an xx=1),decide (an ss=1),rd,rn,0,0,a,b,c⟩ from rfl] at h2
 simp only [Ins.mk.injEq] at h2
 simp only [List.all_cons,List.all_nil,bY,cO,Bool.and_eq_true,decide_eq_true_eq] at h1
 simp at h1
 obtain ⟨-,e1,e2,e3,e4,e5,e6,e7,e8,e9⟩:=h2
 refine ⟨?_,?_,?_,?_,?_,?_,?_⟩<;>first | omega | exact h1 | exact e1.symm | exact e2.symm | (simp_all;done)
theorem wf3 {xx ss:Bool} {rd rn rm ra a b c:Int} (h:ao ⟨3,xx,ss,rd,rn,rm,ra,a,b,c⟩=0):ss=false∧(0≤rd∧rd≤31)∧(0≤rn∧rn≤31)∧rm=0∧ra=0∧((-9223372036854775808)≤a∧a≤9223372036854775807)∧(0≤b∧b≤3)∧c=0:=by
 obtain ⟨h1,-⟩:=aA h
 clear h
 unfold aP at h1
 rw [show ac (Ins.op ⟨3,xx,ss,rd,rn,rm,ra,a,b,c⟩)=[(1,0,1),(3,0,31),(4,0,31),(7,(-9223372036854775808),9223372036854775807),(8,0,3)] from rfl] at h1
 simp only [Bool.and_eq_true,decide_eq_true_eq] at h1
 obtain ⟨⟨h1,-⟩,h2⟩:=h1
 rw [show bN ⟨3,xx,ss,rd,rn,rm,ra,a,b,c⟩=⟨3,decide (an xx=1),false,rd,rn,0,0,a,b,0⟩ from rfl] at h2
 simp only [Ins.mk.injEq] at h2
 simp only [List.all_cons,List.all_nil,bY,cO,Bool.and_eq_true,decide_eq_true_eq] at h1
 simp at h1
 obtain ⟨-,e1,e2,e3,e4,e5,e6,e7,e8,e9⟩:=h2
 refine ⟨?_,?_,?_,?_,?_,?_,?_,?_⟩<;>first | omega | exact h1 | exact e1.symm | exact e2.symm | (simp_all;done)
theorem wf4 {xx ss:Bool} {rd rn rm ra a b c:Int} (h:ao ⟨4,xx,ss,rd,rn,rm,ra,a,b,c⟩=0):ss=false∧(0≤rd∧rd≤31)∧rn=0∧rm=0∧ra=0∧(0≤a∧a≤65535)∧(0≤b∧b≤3)∧(0≤c∧c≤3):=by
 obtain ⟨h1,-⟩:=aA h
 clear h
 unfold aP at h1
 rw [show ac (Ins.op ⟨4,xx,ss,rd,rn,rm,ra,a,b,c⟩)=[(1,0,1),(3,0,31),(7,0,65535),(8,0,3),(9,0,3)] from rfl] at h1
 simp only [Bool.and_eq_true,decide_eq_true_eq] at h1
 obtain ⟨⟨h1,-⟩,h2⟩:=h1
 rw [show bN ⟨4,xx,ss,rd,rn,rm,ra,a,b,c⟩=⟨4,decide (an xx=1),false,rd,0,0,0,a,b,c⟩ from rfl] at h2
 simp only [Ins.mk.injEq] at h2
 simp only [List.all_cons,List.all_nil,bY,cO,Bool.and_eq_true,decide_eq_true_eq] at h1
 simp at h1
 obtain ⟨-,e1,e2,e3,e4,e5,e6,e7,e8,e9⟩:=h2
 refine ⟨?_,?_,?_,?_,?_,?_,?_,?_⟩<;>first | omega | exact h1 | exact e1.symm | exact e2.symm | (simp_all;done)
theorem wf5 {xx ss:Bool} {rd rn rm ra a b c:Int} (h:ao ⟨5,xx,ss,rd,rn,rm,ra,a,b,c⟩=0):ss=false∧(0≤rd∧rd≤31)∧(0≤rn∧rn≤31)∧rm=0∧ra=0∧(0≤a∧a≤63)∧(0≤b∧b≤2)∧(0≤c∧c≤63):=by
 obtain ⟨h1,-⟩:=aA h
 clear h
 unfold aP at h1
 rw [show ac (Ins.op ⟨5,xx,ss,rd,rn,rm,ra,a,b,c⟩)=[(1,0,1),(3,0,31),(4,0,31),(7,0,63),(8,0,2),(9,0,63)] from rfl] at h1
 simp only [Bool.and_eq_true,decide_eq_true_eq] at h1
 obtain ⟨⟨h1,-⟩,h2⟩:=h1
 rw [show bN ⟨5,xx,ss,rd,rn,rm,ra,a,b,c⟩=⟨5,decide (an xx=1),false,rd,rn,0,0,a,b,c⟩ from rfl] at h2
 simp only [Ins.mk.injEq] at h2
 simp only [List.all_cons,List.all_nil,bY,cO,Bool.and_eq_true,decide_eq_true_eq] at h1
 simp at h1
 obtain ⟨-,e1,e2,e3,e4,e5,e6,e7,e8,e9⟩:=h2
 refine ⟨?_,?_,?_,?_,?_,?_,?_,?_⟩<;>first | omega | exact h1 | exact e1.symm | exact e2.symm | (simp_all;done)
theorem wf6 {xx ss:Bool} {rd rn rm ra a b c:Int} (h:ao ⟨6,xx,ss,rd,rn,rm,ra,a,b,c⟩=0):ss=false∧(0≤rd∧rd≤31)∧(0≤rn∧rn≤31)∧(0≤rm∧rm≤31)∧ra=0∧(0≤a∧a≤63)∧b=0∧c=0:=by
 obtain ⟨h1,-⟩:=aA h
 clear h
 unfold aP at h1
 rw [show ac (Ins.op ⟨6,xx,ss,rd,rn,rm,ra,a,b,c⟩)=[(1,0,1),(3,0,31),(4,0,31),(5,0,31),(7,0,63)] from rfl] at h1
 simp only [Bool.and_eq_true,decide_eq_true_eq] at h1
 obtain ⟨⟨h1,-⟩,h2⟩:=h1
 rw [show bN ⟨6,xx,ss,rd,rn,rm,ra,a,b,c⟩=⟨6,decide (an xx=1),false,rd,rn,rm,0,a,0,0⟩ from rfl] at h2
 simp only [Ins.mk.injEq] at h2
 simp only [List.all_cons,List.all_nil,bY,cO,Bool.and_eq_true,decide_eq_true_eq] at h1
 simp at h1
 obtain ⟨-,e1,e2,e3,e4,e5,e6,e7,e8,e9⟩:=h2
 refine ⟨?_,?_,?_,?_,?_,?_,?_,?_⟩<;>first | omega | exact h1 | exact e1.symm | exact e2.symm | (simp_all;done)
theorem wf7 {xx ss:Bool} {rd rn rm ra a b c:Int} (h:ao ⟨7,xx,ss,rd,rn,rm,ra,a,b,c⟩=0):xx=false∧ss=false∧rd=0∧rn=0∧rm=0∧ra=0∧((-262144)≤a∧a≤262143)∧(0≤b∧b≤15)∧c=0:=by
 obtain ⟨h1,-⟩:=aA h
 clear h
 unfold aP at h1
 rw [show ac (Ins.op ⟨7,xx,ss,rd,rn,rm,ra,a,b,c⟩)=[(7,(-262144),262143),(8,0,15)] from rfl] at h1
 simp only [Bool.and_eq_true,decide_eq_true_eq] at h1
 obtain ⟨⟨h1,-⟩,h2⟩:=h1
 rw [show bN ⟨7,xx,ss,rd,rn,rm,ra,a,b,c⟩=⟨7,false,false,0,0,0,0,a,b,0⟩ from rfl] at h2
 simp only [Ins.mk.injEq] at h2
 simp only [List.all_cons,List.all_nil,bY,cO,Bool.and_eq_true,decide_eq_true_eq] at h1
 simp at h1
 obtain ⟨-,e1,e2,e3,e4,e5,e6,e7,e8,e9⟩:=h2
 refine ⟨?_,?_,?_,?_,?_,?_,?_,?_,?_⟩<;>first | omega | exact h1 | exact e1.symm | exact e2.symm | (simp_all;done)
theorem wf8 {xx ss:Bool} {rd rn rm ra a b c:Int} (h:ao ⟨8,xx,ss,rd,rn,rm,ra,a,b,c⟩=0):xx=false∧rd=0∧rn=0∧rm=0∧ra=0∧((-33554432)≤a∧a≤33554431)∧b=0∧c=0:=by
 obtain ⟨h1,-⟩:=aA h
 clear h
 unfold aP at h1
 rw [show ac (Ins.op ⟨8,xx,ss,rd,rn,rm,ra,a,b,c⟩)=[(2,0,1),(7,(-33554432),33554431)] from rfl] at h1
 simp only [Bool.and_eq_true,decide_eq_true_eq] at h1
 obtain ⟨⟨h1,-⟩,h2⟩:=h1
 rw [show bN ⟨8,xx,ss,rd,rn,rm,ra,a,b,c⟩=⟨8,false,decide (an ss=1),0,0,0,0,a,0,0⟩ from rfl] at h2
 simp only [Ins.mk.injEq] at h2
 simp only [List.all_cons,List.all_nil,bY,cO,Bool.and_eq_true,decide_eq_true_eq] at h1
 simp at h1
 obtain ⟨-,e1,e2,e3,e4,e5,e6,e7,e8,e9⟩:=h2
 refine ⟨?_,?_,?_,?_,?_,?_,?_,?_⟩<;>first | omega | exact h1 | exact e1.symm | exact e2.symm | (simp_all;done)
theorem wf9 {xx ss:Bool} {rd rn rm ra a b c:Int} (h:ao ⟨9,xx,ss,rd,rn,rm,ra,a,b,c⟩=0):ss=false∧(0≤rd∧rd≤31)∧rn=0∧rm=0∧ra=0∧((-262144)≤a∧a≤262143)∧(0≤b∧b≤1)∧c=0:=by
 obtain ⟨h1,-⟩:=aA h
 clear h
 unfold aP at h1
 rw [show ac (Ins.op ⟨9,xx,ss,rd,rn,rm,ra,a,b,c⟩)=[(1,0,1),(3,0,31),(7,(-262144),262143),(8,0,1)] from rfl] at h1
 simp only [Bool.and_eq_true,decide_eq_true_eq] at h1
 obtain ⟨⟨h1,-⟩,h2⟩:=h1
 rw [show bN ⟨9,xx,ss,rd,rn,rm,ra,a,b,c⟩=⟨9,decide (an xx=1),false,rd,0,0,0,a,b,0⟩ from rfl] at h2
 simp only [Ins.mk.injEq] at h2
 simp only [List.all_cons,List.all_nil,bY,cO,Bool.and_eq_true,decide_eq_true_eq] at h1
 simp at h1
 obtain ⟨-,e1,e2,e3,e4,e5,e6,e7,e8,e9⟩:=h2
 refine ⟨?_,?_,?_,?_,?_,?_,?_,?_⟩<;>first | omega | exact h1 | exact e1.symm | exact e2.symm | (simp_all;done)
theorem wf10 {xx ss:Bool} {rd rn rm ra a b c:Int} (h:ao ⟨10,xx,ss,rd,rn,rm,ra,a,b,c⟩=0):xx=false∧ss=false∧(0≤rd∧rd≤31)∧rn=0∧rm=0∧ra=0∧((-8192)≤a∧a≤8191)∧(0≤b∧b≤1)∧(0≤c∧c≤63):=by
 obtain ⟨h1,-⟩:=aA h
 clear h
 unfold aP at h1
 rw [show ac (Ins.op ⟨10,xx,ss,rd,rn,rm,ra,a,b,c⟩)=[(3,0,31),(7,(-8192),8191),(8,0,1),(9,0,63)] from rfl] at h1
 simp only [Bool.and_eq_true,decide_eq_true_eq] at h1
 obtain ⟨⟨h1,-⟩,h2⟩:=h1
 rw [show bN ⟨10,xx,ss,rd,rn,rm,ra,a,b,c⟩=⟨10,false,false,rd,0,0,0,a,b,c⟩ from rfl] at h2
 simp only [Ins.mk.injEq] at h2
 simp only [List.all_cons,List.all_nil,bY,cO,Bool.and_eq_true,decide_eq_true_eq] at h1
 simp at h1
 obtain ⟨-,e1,e2,e3,e4,e5,e6,e7,e8,e9⟩:=h2
 refine ⟨?_,?_,?_,?_,?_,?_,?_,?_,?_⟩<;>first | omega | exact h1 | exact e1.symm | exact e2.symm | (simp_all;done)
theorem ML {xx ss:Bool} {rd rn rm ra a b c:Int} (h:ao ⟨11,xx,ss,rd,rn,rm,ra,a,b,c⟩=0):xx=false∧ss=false∧rd=0∧(0≤rn∧rn≤31)∧rm=0∧ra=0∧a=0∧(0≤b∧b≤4)∧c=0:=by
 obtain ⟨h1,-⟩:=aA h
 clear h
 unfold aP at h1
 rw [show ac (Ins.op ⟨11,xx,ss,rd,rn,rm,ra,a,b,c⟩)=[(4,0,31),(8,0,4)] from rfl] at h1
 simp only [Bool.and_eq_true,decide_eq_true_eq] at h1
 obtain ⟨⟨h1,-⟩,h2⟩:=h1
 rw [show bN ⟨11,xx,ss,rd,rn,rm,ra,a,b,c⟩=⟨11,false,false,0,rn,0,0,0,b,0⟩ from rfl] at h2
 simp only [Ins.mk.injEq] at h2
 simp only [List.all_cons,List.all_nil,bY,cO,Bool.and_eq_true,decide_eq_true_eq] at h1
 simp at h1
 obtain ⟨-,e1,e2,e3,e4,e5,e6,e7,e8,e9⟩:=h2
 refine ⟨?_,?_,?_,?_,?_,?_,?_,?_,?_⟩<;>first | omega | exact h1 | exact e1.symm | exact e2.symm | (simp_all;done)
theorem Lr {xx ss:Bool} {rd rn rm ra a b c:Int} (h:ao ⟨12,xx,ss,rd,rn,rm,ra,a,b,c⟩=0):xx=false∧ss=false∧rd=0∧rn=0∧rm=0∧ra=0∧(0≤a∧a≤65535)∧(0≤b∧b≤7)∧c=0:=by
 obtain ⟨h1,-⟩:=aA h
 clear h
 unfold aP at h1
 rw [show ac (Ins.op ⟨12,xx,ss,rd,rn,rm,ra,a,b,c⟩)=[(7,0,65535),(8,0,7)] from rfl] at h1
 simp only [Bool.and_eq_true,decide_eq_true_eq] at h1
 obtain ⟨⟨h1,-⟩,h2⟩:=h1
 rw [show bN ⟨12,xx,ss,rd,rn,rm,ra,a,b,c⟩=⟨12,false,false,0,0,0,0,a,b,0⟩ from rfl] at h2
 simp only [Ins.mk.injEq] at h2
 simp only [List.all_cons,List.all_nil,bY,cO,Bool.and_eq_true,decide_eq_true_eq] at h1
 simp at h1
 obtain ⟨-,e1,e2,e3,e4,e5,e6,e7,e8,e9⟩:=h2
 refine ⟨?_,?_,?_,?_,?_,?_,?_,?_,?_⟩<;>first | omega | exact h1 | exact e1.symm | exact e2.symm | (simp_all;done)
theorem LR {xx ss:Bool} {rd rn rm ra a b c:Int} (h:ao ⟨13,xx,ss,rd,rn,rm,ra,a,b,c⟩=0):xx=false∧ss=false∧rd=0∧rn=0∧rm=0∧ra=0∧(0≤a∧a≤127)∧b=0∧c=0:=by
 obtain ⟨h1,-⟩:=aA h
 clear h
 unfold aP at h1
 rw [show ac (Ins.op ⟨13,xx,ss,rd,rn,rm,ra,a,b,c⟩)=[(7,0,127)] from rfl] at h1
 simp only [Bool.and_eq_true,decide_eq_true_eq] at h1
 obtain ⟨⟨h1,-⟩,h2⟩:=h1
 rw [show bN ⟨13,xx,ss,rd,rn,rm,ra,a,b,c⟩=⟨13,false,false,0,0,0,0,a,0,0⟩ from rfl] at h2
 simp only [Ins.mk.injEq] at h2
 simp only [List.all_cons,List.all_nil,bY,cO,Bool.and_eq_true,decide_eq_true_eq] at h1
 simp at h1
 obtain ⟨-,e1,e2,e3,e4,e5,e6,e7,e8,e9⟩:=h2
 refine ⟨?_,?_,?_,?_,?_,?_,?_,?_,?_⟩<;>first | omega | exact h1 | exact e1.symm | exact e2.symm | (simp_all;done)
theorem OD {xx ss:Bool} {rd rn rm ra a b c:Int} (h:ao ⟨14,xx,ss,rd,rn,rm,ra,a,b,c⟩=0):xx=false∧ss=false∧rd=0∧rn=0∧rm=0∧ra=0∧(0≤a∧a≤15)∧(2≤b∧b≤6)∧c=0:=by
 obtain ⟨h1,-⟩:=aA h
 clear h
 unfold aP at h1
 rw [show ac (Ins.op ⟨14,xx,ss,rd,rn,rm,ra,a,b,c⟩)=[(7,0,15),(8,2,6)] from rfl] at h1
 simp only [Bool.and_eq_true,decide_eq_true_eq] at h1
 obtain ⟨⟨h1,-⟩,h2⟩:=h1
 rw [show bN ⟨14,xx,ss,rd,rn,rm,ra,a,b,c⟩=⟨14,false,false,0,0,0,0,a,b,0⟩ from rfl] at h2
 simp only [Ins.mk.injEq] at h2
 simp only [List.all_cons,List.all_nil,bY,cO,Bool.and_eq_true,decide_eq_true_eq] at h1
 simp at h1
 obtain ⟨-,e1,e2,e3,e4,e5,e6,e7,e8,e9⟩:=h2
 refine ⟨?_,?_,?_,?_,?_,?_,?_,?_,?_⟩<;>first | omega | exact h1 | exact e1.symm | exact e2.symm | (simp_all;done)
theorem wf15 {xx ss:Bool} {rd rn rm ra a b c:Int} (h:ao ⟨15,xx,ss,rd,rn,rm,ra,a,b,c⟩=0):xx=false∧ss=false∧(0≤rd∧rd≤31)∧rn=0∧rm=0∧ra=0∧(0≤a∧a≤32767)∧(0≤b∧b≤1)∧c=0:=by
 obtain ⟨h1,-⟩:=aA h
 clear h
 unfold aP at h1
 rw [show ac (Ins.op ⟨15,xx,ss,rd,rn,rm,ra,a,b,c⟩)=[(3,0,31),(7,0,32767),(8,0,1)] from rfl] at h1
 simp only [Bool.and_eq_true,decide_eq_true_eq] at h1
 obtain ⟨⟨h1,-⟩,h2⟩:=h1
 rw [show bN ⟨15,xx,ss,rd,rn,rm,ra,a,b,c⟩=⟨15,false,false,rd,0,0,0,a,b,0⟩ from rfl] at h2
 simp only [Ins.mk.injEq] at h2
 simp only [List.all_cons,List.all_nil,bY,cO,Bool.and_eq_true,decide_eq_true_eq] at h1
 simp at h1
 obtain ⟨-,e1,e2,e3,e4,e5,e6,e7,e8,e9⟩:=h2
 refine ⟨?_,?_,?_,?_,?_,?_,?_,?_,?_⟩<;>first | omega | exact h1 | exact e1.symm | exact e2.symm | (simp_all;done)
theorem wf16 {xx ss:Bool} {rd rn rm ra a b c:Int} (h:ao ⟨16,xx,ss,rd,rn,rm,ra,a,b,c⟩=0):xx=false∧ss=false∧rd=0∧rn=0∧rm=0∧ra=0∧(0≤a∧a≤15)∧(0≤b∧b≤5)∧c=0:=by
 obtain ⟨h1,-⟩:=aA h
 clear h
 unfold aP at h1
 rw [show ac (Ins.op ⟨16,xx,ss,rd,rn,rm,ra,a,b,c⟩)=[(7,0,15),(8,0,5)] from rfl] at h1
 simp only [Bool.and_eq_true,decide_eq_true_eq] at h1
 obtain ⟨⟨h1,-⟩,h2⟩:=h1
 rw [show bN ⟨16,xx,ss,rd,rn,rm,ra,a,b,c⟩=⟨16,false,false,0,0,0,0,a,b,0⟩ from rfl] at h2
 simp only [Ins.mk.injEq] at h2
 simp only [List.all_cons,List.all_nil,bY,cO,Bool.and_eq_true,decide_eq_true_eq] at h1
 simp at h1
 obtain ⟨-,e1,e2,e3,e4,e5,e6,e7,e8,e9⟩:=h2
 refine ⟨?_,?_,?_,?_,?_,?_,?_,?_,?_⟩<;>first | omega | exact h1 | exact e1.symm | exact e2.symm | (simp_all;done)
theorem Ns {xx ss:Bool} {rd rn rm ra a b c:Int} (h:ao ⟨17,xx,ss,rd,rn,rm,ra,a,b,c⟩=0):xx=false∧ss=false∧(0≤rd∧rd≤31)∧rn=0∧rm=0∧ra=0∧(0≤a∧a≤16383)∧(0≤b∧b≤1)∧c=0:=by
 obtain ⟨h1,-⟩:=aA h
 clear h
 unfold aP at h1
 rw [show ac (Ins.op ⟨17,xx,ss,rd,rn,rm,ra,a,b,c⟩)=[(3,0,31),(7,0,16383),(8,0,1)] from rfl] at h1
 simp only [Bool.and_eq_true,decide_eq_true_eq] at h1
 obtain ⟨⟨h1,-⟩,h2⟩:=h1
 rw [show bN ⟨17,xx,ss,rd,rn,rm,ra,a,b,c⟩=⟨17,false,false,rd,0,0,0,a,b,0⟩ from rfl] at h2
 simp only [Ins.mk.injEq] at h2
 simp only [List.all_cons,List.all_nil,bY,cO,Bool.and_eq_true,decide_eq_true_eq] at h1
 simp at h1
 obtain ⟨-,e1,e2,e3,e4,e5,e6,e7,e8,e9⟩:=h2
 refine ⟨?_,?_,?_,?_,?_,?_,?_,?_,?_⟩<;>first | omega | exact h1 | exact e1.symm | exact e2.symm | (simp_all;done)
theorem wf18 {xx ss:Bool} {rd rn rm ra a b c:Int} (h:ao ⟨18,xx,ss,rd,rn,rm,ra,a,b,c⟩=0):xx=false∧ss=false∧(0≤rd∧rd≤31)∧rn=0∧rm=0∧ra=0∧((-262144)≤a∧a≤262143)∧(0≤b∧b≤3)∧c=0:=by
 obtain ⟨h1,-⟩:=aA h
 clear h
 unfold aP at h1
 rw [show ac (Ins.op ⟨18,xx,ss,rd,rn,rm,ra,a,b,c⟩)=[(3,0,31),(7,(-262144),262143),(8,0,3)] from rfl] at h1
 simp only [Bool.and_eq_true,decide_eq_true_eq] at h1
 obtain ⟨⟨h1,-⟩,h2⟩:=h1
 rw [show bN ⟨18,xx,ss,rd,rn,rm,ra,a,b,c⟩=⟨18,false,false,rd,0,0,0,a,b,0⟩ from rfl] at h2
 simp only [Ins.mk.injEq] at h2
 simp only [List.all_cons,List.all_nil,bY,cO,Bool.and_eq_true,decide_eq_true_eq] at h1
 simp at h1
 obtain ⟨-,e1,e2,e3,e4,e5,e6,e7,e8,e9⟩:=h2
 refine ⟨?_,?_,?_,?_,?_,?_,?_,?_,?_⟩<;>first | omega | exact h1 | exact e1.symm | exact e2.symm | (simp_all;done)
theorem wf19 {xx ss:Bool} {rd rn rm ra a b c:Int} (h:ao ⟨19,xx,ss,rd,rn,rm,ra,a,b,c⟩=0):xx=false∧(0≤rd∧rd≤31)∧(0≤rn∧rn≤31)∧rm=0∧(0≤ra∧ra≤31)∧((-64)≤a∧a≤63)∧(0≤b∧b≤2)∧(0≤c∧c≤3):=by
 obtain ⟨h1,-⟩:=aA h
 clear h
 unfold aP at h1
 rw [show ac (Ins.op ⟨19,xx,ss,rd,rn,rm,ra,a,b,c⟩)=[(2,0,1),(3,0,31),(4,0,31),(6,0,31),(7,(-64),63),(8,0,2),(9,0,3)] from rfl] at h1
 simp only [Bool.and_eq_true,decide_eq_true_eq] at h1
 obtain ⟨⟨h1,-⟩,h2⟩:=h1
 rw [show bN ⟨19,xx,ss,rd,rn,rm,ra,a,b,c⟩=⟨19,false,decide (an ss=1),rd,rn,0,ra,a,b,c⟩ from rfl] at h2
 simp only [Ins.mk.injEq] at h2
 simp only [List.all_cons,List.all_nil,bY,cO,Bool.and_eq_true,decide_eq_true_eq] at h1
 simp at h1
 obtain ⟨-,e1,e2,e3,e4,e5,e6,e7,e8,e9⟩:=h2
 refine ⟨?_,?_,?_,?_,?_,?_,?_,?_⟩<;>first | omega | exact h1 | exact e1.symm | exact e2.symm | (simp_all;done)
theorem wf20 {xx ss:Bool} {rd rn rm ra a b c:Int} (h:ao ⟨20,xx,ss,rd,rn,rm,ra,a,b,c⟩=0):xx=false∧ss=false∧(0≤rd∧rd≤31)∧(0≤rn∧rn≤31)∧rm=0∧ra=0∧(0≤a∧a≤4095)∧(0≤b∧b≤3)∧(0≤c∧c≤3):=by
 obtain ⟨h1,-⟩:=aA h
 clear h
 unfold aP at h1
 rw [show ac (Ins.op ⟨20,xx,ss,rd,rn,rm,ra,a,b,c⟩)=[(3,0,31),(4,0,31),(7,0,4095),(8,0,3),(9,0,3)] from rfl] at h1
 simp only [Bool.and_eq_true,decide_eq_true_eq] at h1
 obtain ⟨⟨h1,-⟩,h2⟩:=h1
 rw [show bN ⟨20,xx,ss,rd,rn,rm,ra,a,b,c⟩=⟨20,false,false,rd,rn,0,0,a,b,c⟩ from rfl] at h2
 simp only [Ins.mk.injEq] at h2
 simp only [List.all_cons,List.all_nil,bY,cO,Bool.and_eq_true,decide_eq_true_eq] at h1
 simp at h1
 obtain ⟨-,e1,e2,e3,e4,e5,e6,e7,e8,e9⟩:=h2
 refine ⟨?_,?_,?_,?_,?_,?_,?_,?_,?_⟩<;>first | omega | exact h1 | exact e1.symm | exact e2.symm | (simp_all;done)
theorem wf21 {xx ss:Bool} {rd rn rm ra a b c:Int} (h:ao ⟨21,xx,ss,rd,rn,rm,ra,a,b,c⟩=0):xx=false∧ss=false∧(0≤rd∧rd≤31)∧(0≤rn∧rn≤31)∧rm=0∧(0≤ra∧ra≤3)∧((-256)≤a∧a≤255)∧(0≤b∧b≤3)∧(0≤c∧c≤3):=by
 obtain ⟨h1,-⟩:=aA h
 clear h
 unfold aP at h1
 rw [show ac (Ins.op ⟨21,xx,ss,rd,rn,rm,ra,a,b,c⟩)=[(3,0,31),(4,0,31),(6,0,3),(7,(-256),255),(8,0,3),(9,0,3)] from rfl] at h1
 simp only [Bool.and_eq_true,decide_eq_true_eq] at h1
 obtain ⟨⟨h1,-⟩,h2⟩:=h1
 rw [show bN ⟨21,xx,ss,rd,rn,rm,ra,a,b,c⟩=⟨21,false,false,rd,rn,0,ra,a,b,c⟩ from rfl] at h2
 simp only [Ins.mk.injEq] at h2
 simp only [List.all_cons,List.all_nil,bY,cO,Bool.and_eq_true,decide_eq_true_eq] at h1
 simp at h1
 obtain ⟨-,e1,e2,e3,e4,e5,e6,e7,e8,e9⟩:=h2
 refine ⟨?_,?_,?_,?_,?_,?_,?_,?_,?_⟩<;>first | omega | exact h1 | exact e1.symm | exact e2.symm | (simp_all;done)
theorem wf22 {xx ss:Bool} {rd rn rm ra a b c:Int} (h:ao ⟨22,xx,ss,rd,rn,rm,ra,a,b,c⟩=0):xx=false∧(0≤rd∧rd≤31)∧(0≤rn∧rn≤31)∧(0≤rm∧rm≤31)∧ra=0∧(2≤a∧a≤7)∧(0≤b∧b≤3)∧(0≤c∧c≤3):=by
 obtain ⟨h1,-⟩:=aA h
 clear h
 unfold aP at h1
 rw [show ac (Ins.op ⟨22,xx,ss,rd,rn,rm,ra,a,b,c⟩)=[(2,0,1),(3,0,31),(4,0,31),(5,0,31),(7,2,7),(8,0,3),(9,0,3)] from rfl] at h1
 simp only [Bool.and_eq_true,decide_eq_true_eq] at h1
 obtain ⟨⟨h1,-⟩,h2⟩:=h1
 rw [show bN ⟨22,xx,ss,rd,rn,rm,ra,a,b,c⟩=⟨22,false,decide (an ss=1),rd,rn,rm,0,a,b,c⟩ from rfl] at h2
 simp only [Ins.mk.injEq] at h2
 simp only [List.all_cons,List.all_nil,bY,cO,Bool.and_eq_true,decide_eq_true_eq] at h1
 simp at h1
 obtain ⟨-,e1,e2,e3,e4,e5,e6,e7,e8,e9⟩:=h2
 refine ⟨?_,?_,?_,?_,?_,?_,?_,?_⟩<;>first | omega | exact h1 | exact e1.symm | exact e2.symm | (simp_all;done)
theorem wf23 {xx ss:Bool} {rd rn rm ra a b c:Int} (h:ao ⟨23,xx,ss,rd,rn,rm,ra,a,b,c⟩=0):(0≤rd∧rd≤31)∧(0≤rn∧rn≤31)∧(0≤rm∧rm≤31)∧(0≤ra∧ra≤31)∧(0≤a∧a≤2)∧(0≤b∧b≤3)∧c=0:=by
 obtain ⟨h1,-⟩:=aA h
 clear h
 unfold aP at h1
 rw [show ac (Ins.op ⟨23,xx,ss,rd,rn,rm,ra,a,b,c⟩)=[(1,0,1),(2,0,1),(3,0,31),(4,0,31),(5,0,31),(6,0,31),(7,0,2),(8,0,3)] from rfl] at h1
 simp only [Bool.and_eq_true,decide_eq_true_eq] at h1
 obtain ⟨⟨h1,-⟩,h2⟩:=h1
 rw [show bN ⟨23,xx,ss,rd,rn,rm,ra,a,b,c⟩=⟨23,decide (an xx=1),decide (an ss=1),rd,rn,rm,ra,a,b,0⟩ from rfl] at h2
 simp only [Ins.mk.injEq] at h2
 simp only [List.all_cons,List.all_nil,bY,cO,Bool.and_eq_true,decide_eq_true_eq] at h1
 simp at h1
 obtain ⟨-,e1,e2,e3,e4,e5,e6,e7,e8,e9⟩:=h2
 refine ⟨?_,?_,?_,?_,?_,?_,?_⟩<;>first | omega | exact h1 | exact e1.symm | exact e2.symm | (simp_all;done)
theorem Na {xx ss:Bool} {rd rn rm ra a b c:Int} (h:ao ⟨24,xx,ss,rd,rn,rm,ra,a,b,c⟩=0):(0≤rd∧rd≤31)∧(0≤rn∧rn≤31)∧(0≤rm∧rm≤31)∧ra=0∧(0≤a∧a≤63)∧(0≤b∧b≤3)∧(0≤c∧c≤3):=by
 obtain ⟨h1,-⟩:=aA h
 clear h
 unfold aP at h1
 rw [show ac (Ins.op ⟨24,xx,ss,rd,rn,rm,ra,a,b,c⟩)=[(1,0,1),(2,0,1),(3,0,31),(4,0,31),(5,0,31),(7,0,63),(8,0,3),(9,0,3)] from rfl] at h1
 simp only [Bool.and_eq_true,decide_eq_true_eq] at h1
 obtain ⟨⟨h1,-⟩,h2⟩:=h1
 rw [show bN ⟨24,xx,ss,rd,rn,rm,ra,a,b,c⟩=⟨24,decide (an xx=1),decide (an ss=1),rd,rn,rm,0,a,b,c⟩ from rfl] at h2
 simp only [Ins.mk.injEq] at h2
 simp only [List.all_cons,List.all_nil,bY,cO,Bool.and_eq_true,decide_eq_true_eq] at h1
 simp at h1
 obtain ⟨-,e1,e2,e3,e4,e5,e6,e7,e8,e9⟩:=h2
 refine ⟨?_,?_,?_,?_,?_,?_,?_⟩<;>first | omega | exact h1 | exact e1.symm | exact e2.symm | (simp_all;done)
theorem Mw {xx ss:Bool} {rd rn rm ra a b c:Int} (h:ao ⟨25,xx,ss,rd,rn,rm,ra,a,b,c⟩=0):(0≤rd∧rd≤31)∧(0≤rn∧rn≤31)∧(0≤rm∧rm≤31)∧ra=0∧(0≤a∧a≤63)∧(0≤b∧b≤1)∧(0≤c∧c≤2):=by
 obtain ⟨h1,-⟩:=aA h
 clear h
 unfold aP at h1
 rw [show ac (Ins.op ⟨25,xx,ss,rd,rn,rm,ra,a,b,c⟩)=[(1,0,1),(2,0,1),(3,0,31),(4,0,31),(5,0,31),(7,0,63),(8,0,1),(9,0,2)] from rfl] at h1
 simp only [Bool.and_eq_true,decide_eq_true_eq] at h1
 obtain ⟨⟨h1,-⟩,h2⟩:=h1
 rw [show bN ⟨25,xx,ss,rd,rn,rm,ra,a,b,c⟩=⟨25,decide (an xx=1),decide (an ss=1),rd,rn,rm,0,a,b,c⟩ from rfl] at h2
 simp only [Ins.mk.injEq] at h2
 simp only [List.all_cons,List.all_nil,bY,cO,Bool.and_eq_true,decide_eq_true_eq] at h1
 simp at h1
 obtain ⟨-,e1,e2,e3,e4,e5,e6,e7,e8,e9⟩:=h2
 refine ⟨?_,?_,?_,?_,?_,?_,?_⟩<;>first | omega | exact h1 | exact e1.symm | exact e2.symm | (simp_all;done)
theorem Mq {xx ss:Bool} {rd rn rm ra a b c:Int} (h:ao ⟨26,xx,ss,rd,rn,rm,ra,a,b,c⟩=0):(0≤rd∧rd≤31)∧(0≤rn∧rn≤31)∧(0≤rm∧rm≤31)∧ra=0∧(0≤a∧a≤4)∧(0≤b∧b≤1)∧(0≤c∧c≤7):=by
 obtain ⟨h1,-⟩:=aA h
 clear h
 unfold aP at h1
 rw [show ac (Ins.op ⟨26,xx,ss,rd,rn,rm,ra,a,b,c⟩)=[(1,0,1),(2,0,1),(3,0,31),(4,0,31),(5,0,31),(7,0,4),(8,0,1),(9,0,7)] from rfl] at h1
 simp only [Bool.and_eq_true,decide_eq_true_eq] at h1
 obtain ⟨⟨h1,-⟩,h2⟩:=h1
 rw [show bN ⟨26,xx,ss,rd,rn,rm,ra,a,b,c⟩=⟨26,decide (an xx=1),decide (an ss=1),rd,rn,rm,0,a,b,c⟩ from rfl] at h2
 simp only [Ins.mk.injEq] at h2
 simp only [List.all_cons,List.all_nil,bY,cO,Bool.and_eq_true,decide_eq_true_eq] at h1
 simp at h1
 obtain ⟨-,e1,e2,e3,e4,e5,e6,e7,e8,e9⟩:=h2
 refine ⟨?_,?_,?_,?_,?_,?_,?_⟩<;>first | omega | exact h1 | exact e1.symm | exact e2.symm | (simp_all;done)
theorem Nd {xx ss:Bool} {rd rn rm ra a b c:Int} (h:ao ⟨27,xx,ss,rd,rn,rm,ra,a,b,c⟩=0):(0≤rd∧rd≤31)∧(0≤rn∧rn≤31)∧(0≤rm∧rm≤31)∧ra=0∧a=0∧(0≤b∧b≤1)∧c=0:=by
 obtain ⟨h1,-⟩:=aA h
 clear h
 unfold aP at h1
 rw [show ac (Ins.op ⟨27,xx,ss,rd,rn,rm,ra,a,b,c⟩)=[(1,0,1),(2,0,1),(3,0,31),(4,0,31),(5,0,31),(8,0,1)] from rfl] at h1
 simp only [Bool.and_eq_true,decide_eq_true_eq] at h1
 obtain ⟨⟨h1,-⟩,h2⟩:=h1
 rw [show bN ⟨27,xx,ss,rd,rn,rm,ra,a,b,c⟩=⟨27,decide (an xx=1),decide (an ss=1),rd,rn,rm,0,0,b,0⟩ from rfl] at h2
 simp only [Ins.mk.injEq] at h2
 simp only [List.all_cons,List.all_nil,bY,cO,Bool.and_eq_true,decide_eq_true_eq] at h1
 simp at h1
 obtain ⟨-,e1,e2,e3,e4,e5,e6,e7,e8,e9⟩:=h2
 refine ⟨?_,?_,?_,?_,?_,?_,?_⟩<;>first | omega | exact h1 | exact e1.symm | exact e2.symm | (simp_all;done)
theorem wf28 {xx ss:Bool} {rd rn rm ra a b c:Int} (h:ao ⟨28,xx,ss,rd,rn,rm,ra,a,b,c⟩=0):rd=0∧(0≤rn∧rn≤31)∧(0≤rm∧rm≤31)∧ra=0∧(0≤a∧a≤15)∧(0≤b∧b≤1)∧(0≤c∧c≤15):=by
 obtain ⟨h1,-⟩:=aA h
 clear h
 unfold aP at h1
 rw [show ac (Ins.op ⟨28,xx,ss,rd,rn,rm,ra,a,b,c⟩)=[(1,0,1),(2,0,1),(4,0,31),(5,0,31),(7,0,15),(8,0,1),(9,0,15)] from rfl] at h1
 simp only [Bool.and_eq_true,decide_eq_true_eq] at h1
 obtain ⟨⟨h1,-⟩,h2⟩:=h1
 rw [show bN ⟨28,xx,ss,rd,rn,rm,ra,a,b,c⟩=⟨28,decide (an xx=1),decide (an ss=1),0,rn,rm,0,a,b,c⟩ from rfl] at h2
 simp only [Ins.mk.injEq] at h2
 simp only [List.all_cons,List.all_nil,bY,cO,Bool.and_eq_true,decide_eq_true_eq] at h1
 simp at h1
 obtain ⟨-,e1,e2,e3,e4,e5,e6,e7,e8,e9⟩:=h2
 refine ⟨?_,?_,?_,?_,?_,?_,?_⟩<;>first | omega | exact h1 | exact e1.symm | exact e2.symm | (simp_all;done)
theorem N1 {xx ss:Bool} {rd rn rm ra a b c:Int} (h:ao ⟨29,xx,ss,rd,rn,rm,ra,a,b,c⟩=0):ss=false∧(0≤rd∧rd≤31)∧(0≤rn∧rn≤31)∧(0≤rm∧rm≤31)∧ra=0∧(0≤a∧a≤15)∧(0≤b∧b≤3)∧c=0:=by
 obtain ⟨h1,-⟩:=aA h
 clear h
 unfold aP at h1
 rw [show ac (Ins.op ⟨29,xx,ss,rd,rn,rm,ra,a,b,c⟩)=[(1,0,1),(3,0,31),(4,0,31),(5,0,31),(7,0,15),(8,0,3)] from rfl] at h1
 simp only [Bool.and_eq_true,decide_eq_true_eq] at h1
 obtain ⟨⟨h1,-⟩,h2⟩:=h1
 rw [show bN ⟨29,xx,ss,rd,rn,rm,ra,a,b,c⟩=⟨29,decide (an xx=1),false,rd,rn,rm,0,a,b,0⟩ from rfl] at h2
 simp only [Ins.mk.injEq] at h2
 simp only [List.all_cons,List.all_nil,bY,cO,Bool.and_eq_true,decide_eq_true_eq] at h1
 simp at h1
 obtain ⟨-,e1,e2,e3,e4,e5,e6,e7,e8,e9⟩:=h2
 refine ⟨?_,?_,?_,?_,?_,?_,?_,?_⟩<;>first | omega | exact h1 | exact e1.symm | exact e2.symm | (simp_all;done)
theorem wf30 {xx ss:Bool} {rd rn rm ra a b c:Int} (h:ao ⟨30,xx,ss,rd,rn,rm,ra,a,b,c⟩=0):ss=false∧(0≤rd∧rd≤31)∧(0≤rn∧rn≤31)∧rm=0∧ra=0∧a=0∧(0≤b∧b≤5)∧c=0:=by
 obtain ⟨h1,-⟩:=aA h
 clear h
 unfold aP at h1
 rw [show ac (Ins.op ⟨30,xx,ss,rd,rn,rm,ra,a,b,c⟩)=[(1,0,1),(3,0,31),(4,0,31),(8,0,5)] from rfl] at h1
 simp only [Bool.and_eq_true,decide_eq_true_eq] at h1
 obtain ⟨⟨h1,-⟩,h2⟩:=h1
 rw [show bN ⟨30,xx,ss,rd,rn,rm,ra,a,b,c⟩=⟨30,decide (an xx=1),false,rd,rn,0,0,0,b,0⟩ from rfl] at h2
 simp only [Ins.mk.injEq] at h2
 simp only [List.all_cons,List.all_nil,bY,cO,Bool.and_eq_true,decide_eq_true_eq] at h1
 simp at h1
 obtain ⟨-,e1,e2,e3,e4,e5,e6,e7,e8,e9⟩:=h2
 refine ⟨?_,?_,?_,?_,?_,?_,?_,?_⟩<;>first | omega | exact h1 | exact e1.symm | exact e2.symm | (simp_all;done)
theorem LA {xx ss:Bool} {rd rn rm ra a b c:Int} (h:ao ⟨31,xx,ss,rd,rn,rm,ra,a,b,c⟩=0):ss=false∧(0≤rd∧rd≤31)∧(0≤rn∧rn≤31)∧(0≤rm∧rm≤31)∧ra=0∧a=0∧(2≤b∧b≤23)∧c=0:=by
 obtain ⟨h1,-⟩:=aA h
 clear h
 unfold aP at h1
 rw [show ac (Ins.op ⟨31,xx,ss,rd,rn,rm,ra,a,b,c⟩)=[(1,0,1),(3,0,31),(4,0,31),(5,0,31),(8,2,23)] from rfl] at h1
 simp only [Bool.and_eq_true,decide_eq_true_eq] at h1
 obtain ⟨⟨h1,-⟩,h2⟩:=h1
 rw [show bN ⟨31,xx,ss,rd,rn,rm,ra,a,b,c⟩=⟨31,decide (an xx=1),false,rd,rn,rm,0,0,b,0⟩ from rfl] at h2
 simp only [Ins.mk.injEq] at h2
 simp only [List.all_cons,List.all_nil,bY,cO,Bool.and_eq_true,decide_eq_true_eq] at h1
 simp at h1
 obtain ⟨-,e1,e2,e3,e4,e5,e6,e7,e8,e9⟩:=h2
 refine ⟨?_,?_,?_,?_,?_,?_,?_,?_⟩<;>first | omega | exact h1 | exact e1.symm | exact e2.symm | (simp_all;done)
theorem LG {xx ss:Bool} {rd rn rm ra a b c:Int} (h:ao ⟨32,xx,ss,rd,rn,rm,ra,a,b,c⟩=0):ss=false∧(0≤rd∧rd≤31)∧(0≤rn∧rn≤31)∧(0≤rm∧rm≤31)∧(0≤ra∧ra≤31)∧a=0∧(0≤b∧b≤7)∧c=0:=by
 obtain ⟨h1,-⟩:=aA h
 clear h
 unfold aP at h1
 rw [show ac (Ins.op ⟨32,xx,ss,rd,rn,rm,ra,a,b,c⟩)=[(1,0,1),(3,0,31),(4,0,31),(5,0,31),(6,0,31),(8,0,7)] from rfl] at h1
 simp only [Bool.and_eq_true,decide_eq_true_eq] at h1
 obtain ⟨⟨h1,-⟩,h2⟩:=h1
 rw [show bN ⟨32,xx,ss,rd,rn,rm,ra,a,b,c⟩=⟨32,decide (an xx=1),false,rd,rn,rm,ra,0,b,0⟩ from rfl] at h2
 simp only [Ins.mk.injEq] at h2
 simp only [List.all_cons,List.all_nil,bY,cO,Bool.and_eq_true,decide_eq_true_eq] at h1
 simp at h1
 obtain ⟨-,e1,e2,e3,e4,e5,e6,e7,e8,e9⟩:=h2
 refine ⟨?_,?_,?_,?_,?_,?_,?_,?_⟩<;>first | omega | exact h1 | exact e1.symm | exact e2.symm | (simp_all;done)
end
section
theorem d9 {x:Ins} {r:cG} (h:alA x=.ln r true):lnF x=r:=by unfold lnF;rw [h]
theorem km {x:Ins} {r:cG} (h:alA x=.ln r false):lnF x=aj x:=by unfold lnF;rw [h]
theorem dq {x:Ins} (h:alA x=.no):lnF x=aj x:=by unfold lnF;rw [h]
theorem b2 {b:Int} (h:0≤b∧b≤1):b=0∨b=1:=by omega
theorem b4 {b:Int} (h:0≤b∧b≤3):b=0∨b=1∨b=2∨b=3:=by omega
attribute [local simp] ab oSP aB oTo oOf cW bi op0 r0 kv lU q9 dO nO mO aO dsO nsO xdO cF jB jS rd1 rd2 rd3 rd4 rd5 rd6 rd7 rd8 rd9 Jk Ke KU Kd IA JO K3 Jh JQ G1
section
variable {xx ss:Bool} {rd rn rm ra a b c:Int}
theorem nm1:∀ x:Bool,lkT aR ((⟨#[97,100,114]⟩:ByteArray)++ak (an x) [emp,(⟨#[112]⟩:ByteArray)])=(1,0,x):=by decide +kernel
theorem Oj (h:ao ⟨1,xx,ss,rd,rn,rm,ra,a,b,c⟩=0):back (aj ⟨1,xx,ss,rd,rn,rm,ra,a,b,c⟩)=⟨1,xx,ss,rd,rn,rm,ra,a,b,c⟩:=by
 obtain ⟨rfl,h1,rfl,rfl,rfl,h2,rfl,rfl⟩:=wf1 h
 rw [show aj ⟨1,xx,false,rd,0,0,0,a,0,0⟩=((⟨#[97,100,114]⟩:ByteArray)++ak (an xx) [emp,(⟨#[112]⟩:ByteArray)],[ab rd true,oTo (if xx then a*4096 else a)]) from rfl,ai (nm1 xx)]
 rw [rg1]
 cases xx<;>simp
theorem nm2:∀ s:Bool,(lkT aR (ak 0 [(⟨#[97,100,100]⟩:ByteArray),(⟨#[115,117,98]⟩:ByteArray)]++ak (an s) [emp,(⟨#[115]⟩:ByteArray)])=(2,0,s))∧(lkT aR (ak 1 [(⟨#[97,100,100]⟩:ByteArray),(⟨#[115,117,98]⟩:ByteArray)]++ak (an s) [emp,(⟨#[115]⟩:ByteArray)])=(2,1,s)):=by decide +kernel
theorem G3 (h:0≤b∧b≤1) (s:Bool):lkT aR (ak b [(⟨#[97,100,100]⟩:ByteArray),(⟨#[115,117,98]⟩:ByteArray)]++ak (an s) [emp,(⟨#[115]⟩:ByteArray)])=(2,b,s):=by
 rcases b2 h with rfl | rfl
 ·exact (nm2 s).1
 ·exact (nm2 s).2
theorem NT (h:ao ⟨2,xx,ss,rd,rn,rm,ra,a,b,c⟩=0):back (aj ⟨2,xx,ss,rd,rn,rm,ra,a,b,c⟩)=⟨2,xx,ss,rd,rn,rm,ra,a,b,c⟩:=by
 obtain ⟨h1,h2,rfl,rfl,h3,h4,h5⟩:=wf2 h
 rw [show aj ⟨2,xx,ss,rd,rn,0,0,a,b,c⟩=(ak b [(⟨#[97,100,100]⟩:ByteArray),(⟨#[115,117,98]⟩:ByteArray)]++ak (an ss) [emp,(⟨#[115]⟩:ByteArray)],[if ss then ab rd xx else oSP rd xx,oSP rn xx,if c=1 then cW (aB a) 1 12 else aB a]) from rfl,ai (G3 h4 ss)]
 rw [rg2]
 rcases b2 h5 with rfl | rfl<;>cases ss<;>simp
theorem EH (h:0≤b∧b≤1):lkT aR (ak b [(⟨#[99,109,110]⟩:ByteArray),(⟨#[99,109,112]⟩:ByteArray)])=(46,b,false):=by
 rcases b2 h with rfl | rfl<;>decide +kernel
theorem EI:lkT aR (⟨#[109,111,118]⟩:ByteArray)=(47,0,false):=by decide +kernel
theorem Lw:lkT aR (⟨#[116,115,116]⟩:ByteArray)=(48,0,false):=by decide +kernel
attribute [local simp] xL yu CZ dh
theorem N7 (h:ao ⟨2,xx,ss,rd,rn,rm,ra,a,b,c⟩=0):back (lnF ⟨2,xx,ss,rd,rn,rm,ra,a,b,c⟩)=⟨2,xx,ss,rd,rn,rm,ra,a,b,c⟩:=by
 have hp:=NT h
 obtain ⟨h1,h2,rfl,rfl,h3,h4,h5⟩:=wf2 h
 have A:alA ⟨2,xx,ss,rd,rn,0,0,a,b,c⟩=eG ⟨2,xx,ss,rd,rn,0,0,a,b,c⟩:=rfl
 unfold eG at A
 by_cases c1:(ss&&rd==31)=true
 ·rw [if_pos c1] at A
  simp only [Bool.and_eq_true,beq_iff_eq] at c1
  obtain ⟨rfl,rfl⟩:=c1
  rw [d9 A,ai (EH h4)]
  rw [EQ]
  rcases b2 h5 with rfl | rfl<;>simp
 ·rw [if_neg c1] at A
  by_cases c2:(b==0&&a==0&&c==0&&!ss&&(rd==31||rn==31))=true
  ·rw [if_pos c2] at A
   simp only [Bool.and_eq_true,beq_iff_eq,Bool.or_eq_true,Bool.not_eq_true'] at c2
   obtain ⟨⟨⟨⟨rfl,rfl⟩,rfl⟩,rfl⟩,hc⟩:=c2
   rw [d9 A,ai EI]
   rw [FG]
   simp [hc]
  ·rw [if_neg c2] at A
   rw [dq A]
   exact hp
theorem nm3 (h:0≤b∧b≤3):lkT aR (ak b [(⟨#[97,110,100]⟩:ByteArray),(⟨#[111,114,114]⟩:ByteArray),(⟨#[101,111,114]⟩:ByteArray),(⟨#[97,110,100,115]⟩:ByteArray)])=(3,b,false):=by
 rcases b4 h with rfl | rfl | rfl | rfl<;>decide +kernel
theorem MI (h:ao ⟨3,xx,ss,rd,rn,rm,ra,a,b,c⟩=0):back (aj ⟨3,xx,ss,rd,rn,rm,ra,a,b,c⟩)=⟨3,xx,ss,rd,rn,rm,ra,a,b,c⟩:=by
 obtain ⟨rfl,h1,h2,rfl,rfl,h3,h4,rfl⟩:=wf3 h
 rw [show aj ⟨3,xx,false,rd,rn,0,0,a,b,0⟩=(ak b [(⟨#[97,110,100]⟩:ByteArray),(⟨#[111,114,114]⟩:ByteArray),(⟨#[101,111,114]⟩:ByteArray),(⟨#[97,110,100,115]⟩:ByteArray)],[if b=3 then ab rd xx else oSP rd xx,ab rn xx,aB a]) from rfl,ai (nm3 h4)]
 rw [rg3]
 by_cases hb:b=3<;>simp [hb]
theorem nm4 (h:0≤b∧b≤3) (h1:¬b=1):lkT aR (ak b [(⟨#[109,111,118,110]⟩:ByteArray),emp,(⟨#[109,111,118,122]⟩:ByteArray),(⟨#[109,111,118,107]⟩:ByteArray)])=(4,b,false):=by
 rcases b4 h with rfl | rfl | rfl | rfl
 ·decide +kernel
 ·exact absurd rfl h1
 ·decide +kernel
 ·decide +kernel
theorem NE (h:ao ⟨4,xx,ss,rd,rn,rm,ra,a,b,c⟩=0):back (aj ⟨4,xx,ss,rd,rn,rm,ra,a,b,c⟩)=⟨4,xx,ss,rd,rn,rm,ra,a,b,c⟩:=by
 have ht:=(aA h).2
 obtain ⟨rfl,h1,rfl,rfl,rfl,h2,h3,h4⟩:=wf4 h
 have hb:¬b=1:=by simp [ce] at ht;exact ht.1
 rw [show aj ⟨4,xx,false,rd,0,0,0,a,b,c⟩=(ak b [(⟨#[109,111,118,110]⟩:ByteArray),emp,(⟨#[109,111,118,122]⟩:ByteArray),(⟨#[109,111,118,107]⟩:ByteArray)],[ab rd xx,if c=0 then aB a else cW (aB a) 1 (16*c)]) from rfl,ai (nm4 h3 hb)]
 rw [rg4]
 by_cases hc:c=0
 ·subst hc;simp
 ·simp [hc]
theorem nm5 (h:0≤b∧b≤2):lkT aR (ak b [(⟨#[115,98,102,109]⟩:ByteArray),(⟨#[98,102,109]⟩:ByteArray),(⟨#[117,98,102,109]⟩:ByteArray)])=(5,b,false):=by
 rcases (show b=0∨b=1∨b=2 by omega) with rfl | rfl | rfl<;>decide +kernel
theorem own5 (h:ao ⟨5,xx,ss,rd,rn,rm,ra,a,b,c⟩=0):back (aj ⟨5,xx,ss,rd,rn,rm,ra,a,b,c⟩)=⟨5,xx,ss,rd,rn,rm,ra,a,b,c⟩:=by
 obtain ⟨rfl,h1,h2,rfl,rfl,h3,h4,h5⟩:=wf5 h
 rw [show aj ⟨5,xx,false,rd,rn,0,0,a,b,c⟩=(ak b [(⟨#[115,98,102,109]⟩:ByteArray),(⟨#[98,102,109]⟩:ByteArray),(⟨#[117,98,102,109]⟩:ByteArray)],[ab rd xx,ab rn xx,aB a,aB c]) from rfl,ai (nm5 h4)]
 rw [rg5]
 simp
theorem nm6:lkT aR (⟨#[101,120,116,114]⟩:ByteArray)=(6,0,false):=by decide +kernel
theorem On (h:ao ⟨6,xx,ss,rd,rn,rm,ra,a,b,c⟩=0):back (aj ⟨6,xx,ss,rd,rn,rm,ra,a,b,c⟩)=⟨6,xx,ss,rd,rn,rm,ra,a,b,c⟩:=by
 obtain ⟨rfl,h1,h2,h3,rfl,h4,rfl,rfl⟩:=wf6 h
 rw [show aj ⟨6,xx,false,rd,rn,rm,0,a,0,0⟩=((⟨#[101,120,116,114]⟩:ByteArray),[ab rd xx,ab rn xx,ab rm xx,aB a]) from rfl,ai nm6]
 rw [rg6]
 simp
theorem nm7:∀ b:Fin 16,lkT aR ((⟨#[98,46]⟩:ByteArray)++(dn 2 (b.val:Int)).1)=(7,(b.val:Int),false):=by decide +kernel
theorem nm7' (h:0≤b∧b≤15):lkT aR ((⟨#[98,46]⟩:ByteArray)++(dn 2 b).1)=(7,b,false):=by
 have e:b=((⟨b.toNat,by omega⟩:Fin 16).val:Int):=by simp only [];omega
 rw [e]
 exact nm7 _
theorem Oc (h:ao ⟨7,xx,ss,rd,rn,rm,ra,a,b,c⟩=0):back (aj ⟨7,xx,ss,rd,rn,rm,ra,a,b,c⟩)=⟨7,xx,ss,rd,rn,rm,ra,a,b,c⟩:=by
 obtain ⟨rfl,rfl,rfl,rfl,rfl,rfl,h1,h2,rfl⟩:=wf7 h
 rw [show aj ⟨7,false,false,0,0,0,0,a,b,0⟩=((⟨#[98,46]⟩:ByteArray)++(dn 2 b).1,[oTo (4*a)]) from rfl,ai (nm7' h2)]
 rw [rg7]
 simp
theorem nm8:∀ s:Bool,lkT aR (ak (an s) [(⟨#[98]⟩:ByteArray),(⟨#[98,108]⟩:ByteArray)])=(8,0,s):=by decide +kernel
theorem M9 (h:ao ⟨8,xx,ss,rd,rn,rm,ra,a,b,c⟩=0):back (aj ⟨8,xx,ss,rd,rn,rm,ra,a,b,c⟩)=⟨8,xx,ss,rd,rn,rm,ra,a,b,c⟩:=by
 obtain ⟨rfl,rfl,rfl,rfl,rfl,h1,rfl,rfl⟩:=wf8 h
 rw [show aj ⟨8,false,ss,0,0,0,0,a,0,0⟩=(ak (an ss) [(⟨#[98]⟩:ByteArray),(⟨#[98,108]⟩:ByteArray)],[oTo (4*a)]) from rfl,ai (nm8 ss)]
 rw [rg8]
 simp
theorem nm9 (h:0≤b∧b≤1):lkT aR (ak b [(⟨#[99,98,122]⟩:ByteArray),(⟨#[99,98,110,122]⟩:ByteArray)])=(9,b,false):=by
 rcases b2 h with rfl | rfl<;>decide +kernel
theorem NJ (h:ao ⟨9,xx,ss,rd,rn,rm,ra,a,b,c⟩=0):back (aj ⟨9,xx,ss,rd,rn,rm,ra,a,b,c⟩)=⟨9,xx,ss,rd,rn,rm,ra,a,b,c⟩:=by
 obtain ⟨rfl,h1,rfl,rfl,rfl,h2,h3,rfl⟩:=wf9 h
 rw [show aj ⟨9,xx,false,rd,0,0,0,a,b,0⟩=(ak b [(⟨#[99,98,122]⟩:ByteArray),(⟨#[99,98,110,122]⟩:ByteArray)],[ab rd xx,oTo (4*a)]) from rfl,ai (nm9 h3)]
 rw [rg9]
 simp
theorem nm10 (h:0≤b∧b≤1):lkT aR (ak b [(⟨#[116,98,122]⟩:ByteArray),(⟨#[116,98,110,122]⟩:ByteArray)])=(10,b,false):=by
 rcases b2 h with rfl | rfl<;>decide +kernel
theorem H8 (h:ao ⟨10,xx,ss,rd,rn,rm,ra,a,b,c⟩=0):back (aj ⟨10,xx,ss,rd,rn,rm,ra,a,b,c⟩)=⟨10,xx,ss,rd,rn,rm,ra,a,b,c⟩:=by
 obtain ⟨rfl,rfl,h1,rfl,rfl,rfl,h2,h3,h4⟩:=wf10 h
 rw [show aj ⟨10,false,false,rd,0,0,0,a,b,c⟩=(ak b [(⟨#[116,98,122]⟩:ByteArray),(⟨#[116,98,110,122]⟩:ByteArray)],[ab rd (decide (31<c)),aB c,oTo (4*a)]) from rfl,ai (nm10 h3)]
 rw [rg10]
 simp
theorem nm11 (h:0≤b∧b≤4) (h3:¬b=3):lkT aR (ak b [(⟨#[98,114]⟩:ByteArray),(⟨#[98,108,114]⟩:ByteArray),(⟨#[114,101,116]⟩:ByteArray),emp,(⟨#[101,114,101,116]⟩:ByteArray)])=(11,b,false):=by
 rcases (show b=0∨b=1∨b=2∨b=4 by omega) with rfl | rfl | rfl | rfl<;>decide +kernel
theorem H6 (h:ao ⟨11,xx,ss,rd,rn,rm,ra,a,b,c⟩=0):back (aj ⟨11,xx,ss,rd,rn,rm,ra,a,b,c⟩)=⟨11,xx,ss,rd,rn,rm,ra,a,b,c⟩:=by
 have ht:=(aA h).2
 obtain ⟨rfl,rfl,rfl,h1,rfl,rfl,rfl,h2,rfl⟩:=ML h
 have hb:¬b=3∧(b=4→rn=0):=by
  simp [ce] at ht
  exact ⟨ht.1,fun e=>by rcases ht.2 with h | h<;>first | exact absurd e h | exact h⟩
 rw [show aj ⟨11,false,false,0,rn,0,0,0,b,0⟩=(ak b [(⟨#[98,114]⟩:ByteArray),(⟨#[98,108,114]⟩:ByteArray),(⟨#[114,101,116]⟩:ByteArray),emp,(⟨#[101,114,101,116]⟩:ByteArray)],if b=4 then [] else [ab rn true]) from rfl,ai (nm11 h2 hb.1)]
 rw [LM]
 by_cases h4:b=4
 ·simp [h4,hb.2 h4]
 ·simp [h4]
theorem NH:lkT aR (⟨#[114,101,116]⟩:ByteArray)=(11,2,false):=by decide +kernel
theorem KF (h:ao ⟨11,xx,ss,rd,rn,rm,ra,a,b,c⟩=0):back (lnF ⟨11,xx,ss,rd,rn,rm,ra,a,b,c⟩)=⟨11,xx,ss,rd,rn,rm,ra,a,b,c⟩:=by
 have hp:=H6 h
 obtain ⟨rfl,rfl,rfl,h1,rfl,rfl,rfl,h2,rfl⟩:=ML h
 have A:alA ⟨11,false,false,0,rn,0,0,0,b,0⟩=.ln ((⟨#[114,101,116]⟩:ByteArray),[]) (b==2&&rn==30):=rfl
 cases hc:(b==2&&rn==30)
 ·rw [hc] at A
  rw [km A]
  exact hp
 ·rw [hc] at A
  simp only [Bool.and_eq_true,beq_iff_eq] at hc
  obtain ⟨rfl,rfl⟩:=hc
  rw [d9 A,ai NH]
  rw [LM]
  simp
theorem N3 (h:0≤b∧b≤7):lkT aR (ak b [(⟨#[115,118,99]⟩:ByteArray),(⟨#[104,118,99]⟩:ByteArray),(⟨#[115,109,99]⟩:ByteArray),(⟨#[98,114,107]⟩:ByteArray),(⟨#[104,108,116]⟩:ByteArray),(⟨#[100,99,112,115,49]⟩:ByteArray),(⟨#[100,99,112,115,50]⟩:ByteArray),(⟨#[100,99,112,115,51]⟩:ByteArray)])=(12,b,false):=by
 rcases (show b=0∨b=1∨b=2∨b=3∨b=4∨b=5∨b=6∨b=7 by omega) with rfl | rfl | rfl | rfl | rfl | rfl | rfl | rfl<;>decide +kernel
theorem HF (h:ao ⟨12,xx,ss,rd,rn,rm,ra,a,b,c⟩=0):back (aj ⟨12,xx,ss,rd,rn,rm,ra,a,b,c⟩)=⟨12,xx,ss,rd,rn,rm,ra,a,b,c⟩:=by
 obtain ⟨rfl,rfl,rfl,rfl,rfl,rfl,h1,h2,rfl⟩:=Lr h
 rw [show aj ⟨12,false,false,0,0,0,0,a,b,0⟩=(ak b [(⟨#[115,118,99]⟩:ByteArray),(⟨#[104,118,99]⟩:ByteArray),(⟨#[115,109,99]⟩:ByteArray),(⟨#[98,114,107]⟩:ByteArray),(⟨#[104,108,116]⟩:ByteArray),(⟨#[100,99,112,115,49]⟩:ByteArray),(⟨#[100,99,112,115,50]⟩:ByteArray),(⟨#[100,99,112,115,51]⟩:ByteArray)],[aB a]) from rfl,ai (N3 h2)]
 rw [LF]
 simp
theorem KO (h:ao ⟨12,xx,ss,rd,rn,rm,ra,a,b,c⟩=0):back (lnF ⟨12,xx,ss,rd,rn,rm,ra,a,b,c⟩)=⟨12,xx,ss,rd,rn,rm,ra,a,b,c⟩:=by
 have hp:=HF h
 obtain ⟨rfl,rfl,rfl,rfl,rfl,rfl,h1,h2,rfl⟩:=Lr h
 have A:alA ⟨12,false,false,0,0,0,0,a,b,0⟩=.ln (ak b [(⟨#[115,118,99]⟩:ByteArray),(⟨#[104,118,99]⟩:ByteArray),(⟨#[115,109,99]⟩:ByteArray),(⟨#[98,114,107]⟩:ByteArray),(⟨#[104,108,116]⟩:ByteArray),(⟨#[100,99,112,115,49]⟩:ByteArray),(⟨#[100,99,112,115,50]⟩:ByteArray),(⟨#[100,99,112,115,51]⟩:ByteArray)],[]) (decide (5≤b)&&a==0):=rfl
 cases hc:(decide (5≤b)&&a==0)
 ·rw [hc] at A
  rw [km A]
  exact hp
 ·rw [hc] at A
  simp only [Bool.and_eq_true,beq_iff_eq] at hc
  obtain ⟨-,rfl⟩:=hc
  rw [d9 A,ai (N3 h2)]
  rw [LF]
  simp
theorem nm13:lkT aR (⟨#[104,105,110,116]⟩:ByteArray)=(13,0,false):=by decide +kernel
theorem HH (h:ao ⟨13,xx,ss,rd,rn,rm,ra,a,b,c⟩=0):back (aj ⟨13,xx,ss,rd,rn,rm,ra,a,b,c⟩)=⟨13,xx,ss,rd,rn,rm,ra,a,b,c⟩:=by
 obtain ⟨rfl,rfl,rfl,rfl,rfl,rfl,h1,rfl,rfl⟩:=LR h
 rw [show aj ⟨13,false,false,0,0,0,0,a,0,0⟩=((⟨#[104,105,110,116]⟩:ByteArray),[aB a]) from rfl,ai nm13]
 rw [rg13]
 simp
theorem nm63:∀ k:Fin 128,(dn 5 (k.val:Int)).2=0→lkT aR (dn 5 (k.val:Int)).1=(63,(k.val:Int),false):=by decide +kernel
attribute [local simp] Kh
theorem JJ (h:ao ⟨13,xx,ss,rd,rn,rm,ra,a,b,c⟩=0):back (lnF ⟨13,xx,ss,rd,rn,rm,ra,a,b,c⟩)=⟨13,xx,ss,rd,rn,rm,ra,a,b,c⟩:=by
 have hp:=HH h
 obtain ⟨rfl,rfl,rfl,rfl,rfl,rfl,h1,rfl,rfl⟩:=LR h
 have A:alA ⟨13,false,false,0,0,0,0,a,0,0⟩=.ln ((dn 5 a).1,[]) ((dn 5 a).2==0):=rfl
 cases hc:((dn 5 a).2==0)
 ·rw [hc] at A
  rw [km A]
  exact hp
 ·rw [hc] at A
  have e:a=((⟨a.toNat,by omega⟩:Fin 128).val:Int):=by simp only [];omega
  have hk:=nm63 ⟨a.toNat,by omega⟩
  rw [← e] at hk
  rw [d9 A,ai (hk (by simpa using hc))]
  rw [rg63]
  simp
theorem LX (h:2≤b∧b≤6) (h3:¬b=3):lkT aR (if b=4∨b=5 then ak (b-4) [(⟨#[100,115,98]⟩:ByteArray),(⟨#[100,109,98]⟩:ByteArray)] else ak b [emp,emp,(⟨#[99,108,114,101,120]⟩:ByteArray),emp,emp,emp,(⟨#[105,115,98]⟩:ByteArray)])=(14,b,false):=by
 rcases (show b=2∨b=4∨b=5∨b=6 by omega) with rfl | rfl | rfl | rfl<;>decide +kernel
theorem Lq:aj ⟨14,false,false,0,0,0,0,a,b,0⟩=(if b=4∨b=5 then ak (b-4) [(⟨#[100,115,98]⟩:ByteArray),(⟨#[100,109,98]⟩:ByteArray)] else ak b [emp,emp,(⟨#[99,108,114,101,120]⟩:ByteArray),emp,emp,emp,(⟨#[105,115,98]⟩:ByteArray)],[if b=4∨b=5 then oOf 7 a else aB a]):=by
 rw [show aj ⟨14,false,false,0,0,0,0,a,b,0⟩=if b=4∨b=5 then (ak (b-4) [(⟨#[100,115,98]⟩:ByteArray),(⟨#[100,109,98]⟩:ByteArray)],[oOf 7 a]) else (ak b [emp,emp,(⟨#[99,108,114,101,120]⟩:ByteArray),emp,emp,emp,(⟨#[105,115,98]⟩:ByteArray)],[aB a]) from rfl]
 split<;>rfl
theorem xy (h:ao ⟨14,xx,ss,rd,rn,rm,ra,a,b,c⟩=0):¬b=3:=by
 have ht:=(aA h).2
 simpa [ce] using ht
theorem HQ (h:ao ⟨14,xx,ss,rd,rn,rm,ra,a,b,c⟩=0):back (aj ⟨14,xx,ss,rd,rn,rm,ra,a,b,c⟩)=⟨14,xx,ss,rd,rn,rm,ra,a,b,c⟩:=by
 have hb:=xy h
 obtain ⟨rfl,rfl,rfl,rfl,rfl,rfl,h1,h2,rfl⟩:=OD h
 rw [Lq,ai (LX h2 hb)]
 rw [My]
 by_cases h4:b=4∨b=5<;>simp [h4]
theorem JP (h:ao ⟨14,xx,ss,rd,rn,rm,ra,a,b,c⟩=0):back (lnF ⟨14,xx,ss,rd,rn,rm,ra,a,b,c⟩)=⟨14,xx,ss,rd,rn,rm,ra,a,b,c⟩:=by
 have hb:=xy h
 have hp:=HQ h
 obtain ⟨rfl,rfl,rfl,rfl,rfl,rfl,h1,h2,rfl⟩:=OD h
 have A:alA ⟨14,false,false,0,0,0,0,a,b,0⟩=.ln ((aj ⟨14,false,false,0,0,0,0,a,b,0⟩).1,[]) (a==15&&(b==2||b==6)):=rfl
 cases hc:(a==15&&(b==2||b==6))
 ·rw [hc] at A
  rw [km A]
  exact hp
 ·rw [hc,Lq] at A
  simp only [Bool.and_eq_true,beq_iff_eq] at hc
  obtain ⟨rfl,-⟩:=hc
  rw [d9 A,ai (LX h2 hb)]
  rw [My]
  simp
theorem Me:lkT aR (⟨#[109,115,114]⟩:ByteArray)=(15,0,false):=by decide +kernel
theorem nm16:lkT aR (⟨#[109,114,115]⟩:ByteArray)=(16,0,false):=by decide +kernel
theorem HU (h:ao ⟨15,xx,ss,rd,rn,rm,ra,a,b,c⟩=0):back (aj ⟨15,xx,ss,rd,rn,rm,ra,a,b,c⟩)=⟨15,xx,ss,rd,rn,rm,ra,a,b,c⟩:=by
 obtain ⟨rfl,rfl,h1,rfl,rfl,rfl,h2,h3,rfl⟩:=wf15 h
 rcases b2 h3 with rfl | rfl
 ·rw [show aj ⟨15,false,false,rd,0,0,0,a,0,0⟩=((⟨#[109,115,114]⟩:ByteArray),[oOf 6 a,ab rd true]) from rfl,ai Me]
  rw [Mn]
  simp
 ·rw [show aj ⟨15,false,false,rd,0,0,0,a,1,0⟩=((⟨#[109,114,115]⟩:ByteArray),[ab rd true,oOf 6 a]) from rfl,ai nm16]
  rw [rg16]
  simp
theorem Hx (h:ao ⟨16,xx,ss,rd,rn,rm,ra,a,b,c⟩=0):back (aj ⟨16,xx,ss,rd,rn,rm,ra,a,b,c⟩)=⟨16,xx,ss,rd,rn,rm,ra,a,b,c⟩:=by
 obtain ⟨rfl,rfl,rfl,rfl,rfl,rfl,h1,h2,rfl⟩:=wf16 h
 rw [show aj ⟨16,false,false,0,0,0,0,a,b,0⟩=((⟨#[109,115,114]⟩:ByteArray),[oOf 9 b,aB a]) from rfl,ai Me]
 rw [Mn]
 simp
theorem NM:lkT aR (⟨#[115,121,115]⟩:ByteArray)=(17,0,false):=by decide +kernel
theorem nm18:lkT aR (⟨#[115,121,115,108]⟩:ByteArray)=(18,0,false):=by decide +kernel
theorem wZ (h:0≤a∧a≤16383):a / 2048 % 8*2048+a / 128 % 16*128+a / 8 % 16*8+a % 8=a:=by omega
theorem Ii (h:ao ⟨17,xx,ss,rd,rn,rm,ra,a,b,c⟩=0):back (aj ⟨17,xx,ss,rd,rn,rm,ra,a,b,c⟩)=⟨17,xx,ss,rd,rn,rm,ra,a,b,c⟩:=by
 obtain ⟨rfl,rfl,h1,rfl,rfl,rfl,h2,h3,rfl⟩:=Ns h
 have hs:=wZ h2
 rcases b2 h3 with rfl | rfl
 ·rw [show aj ⟨17,false,false,rd,0,0,0,a,0,0⟩=((⟨#[115,121,115]⟩:ByteArray),[aB (a / 2048 % 8),aB (a / 128 % 16),aB (a / 8 % 16),aB (a % 8),ab rd true]) from rfl,ai NM]
  rw [OA]
  simp [hs]
 ·rw [show aj ⟨17,false,false,rd,0,0,0,a,1,0⟩=((⟨#[115,121,115,108]⟩:ByteArray),[ab rd true,aB (a / 2048 % 8),aB (a / 128 % 16),aB (a / 8 % 16),aB (a % 8)]) from rfl,ai nm18]
  rw [rg18]
  simp [hs]
theorem KS (h:ao ⟨17,xx,ss,rd,rn,rm,ra,a,b,c⟩=0):back (lnF ⟨17,xx,ss,rd,rn,rm,ra,a,b,c⟩)=⟨17,xx,ss,rd,rn,rm,ra,a,b,c⟩:=by
 have hp:=Ii h
 obtain ⟨rfl,rfl,h1,rfl,rfl,rfl,h2,h3,rfl⟩:=Ns h
 have hs:=wZ h2
 have A:alA ⟨17,false,false,rd,0,0,0,a,b,0⟩=.ln ((⟨#[115,121,115]⟩:ByteArray),[aB (a / 2048 % 8),aB (a / 128 % 16),aB (a / 8 % 16),aB (a % 8)]) (b==0&&rd==31):=rfl
 cases hc:(b==0&&rd==31)
 ·rw [hc] at A
  rw [km A]
  exact hp
 ·rw [hc] at A
  simp only [Bool.and_eq_true,beq_iff_eq] at hc
  obtain ⟨rfl,rfl⟩:=hc
  rw [d9 A,ai NM]
  rw [OA]
  simp [hs]
end
end
end Go.Proofs.YtpjlafmhoifkmaaGreat
