import Derived.Test.YtpjlafmhoifkmaaGreatN12
import Derived.Test.YtpjlafmhoifkmaaGreatN10
set_option linter.unusedVariables false
set_option linter.unusedSimpArgs false
set_option maxRecDepth 100000
set_option maxHeartbeats 8000000
namespace Go.Proofs.YtpjlafmhoifkmaaGreat
section
structure Ins where
 op:Int
 x:Bool
 s:Bool
 rd:Int
 rn:Int
 rm:Int
 ra:Int
 a:Int
 b:Int
 c:Int
 deriving DecidableEq
def bW (op:Int):Ins:=⟨op,false,false,0,0,0,0,0,0,0⟩
def an (q:Bool):Int:=if q then 1 else 0
abbrev Lim:=Int×Int×Int
def aU (l:List Int):List Lim:=l.map fun f=>(f,0,if f=1∨f=2 then 1 else 31)
def l7:Nat→List Lim
 | 1=>aU [1,3]++[(7,-1048576,1048575)]
 | 2=>aU [1,2,3,4]++[(7,0,4095),(8,0,1),(9,0,1)]
 | 3=>aU [1,3,4]++[(7,-9223372036854775808,9223372036854775807),(8,0,3)]
 | 4=>aU [1,3]++[(7,0,65535),(8,0,3),(9,0,3)]
 | 5=>aU [1,3,4]++[(7,0,63),(8,0,2),(9,0,63)]
 | 6=>aU [1,3,4,5]++[(7,0,63)]
 | 7=>[(7,-262144,262143),(8,0,15)]
 | 8=>aU [2]++[(7,-33554432,33554431)]
 | 9=>aU [1,3]++[(7,-262144,262143),(8,0,1)]
 | 10=>aU [3]++[(7,-8192,8191),(8,0,1),(9,0,63)]
 | 11=>aU [4]++[(8,0,4)]
 | 12=>[(7,0,65535),(8,0,7)]
 | 13=>[(7,0,127)]
 | 14=>[(7,0,15),(8,2,6)]
 | 15=>aU [3]++[(7,0,32767),(8,0,1)]
 | 16=>[(7,0,15),(8,0,5)]
 | 17=>aU [3]++[(7,0,16383),(8,0,1)]
 | 18=>aU [3]++[(7,-262144,262143),(8,0,3)]
 | 19=>aU [2,3,4,6]++[(7,-64,63),(8,0,2),(9,0,3)]
 | 20=>aU [3,4]++[(7,0,4095),(8,0,3),(9,0,3)]
 | 21=>aU [3,4]++[(6,0,3),(7,-256,255),(8,0,3),(9,0,3)]
 | 22=>aU [2,3,4,5]++[(7,2,7),(8,0,3),(9,0,3)]
 | 23=>aU [1,2,3,4,5]++[(6,0,31),(7,0,2),(8,0,3)]
 | 24=>aU [1,2,3,4,5]++[(7,0,63),(8,0,3),(9,0,3)]
 | 25=>aU [1,2,3,4,5]++[(7,0,63),(8,0,1),(9,0,2)]
 | 26=>aU [1,2,3,4,5]++[(7,0,4),(8,0,1),(9,0,7)]
 | 27=>aU [1,2,3,4,5]++[(8,0,1)]
 | 28=>aU [1,2,4,5]++[(7,0,15),(8,0,1),(9,0,15)]
 | 29=>aU [1,3,4,5]++[(7,0,15),(8,0,3)]
 | 30=>aU [1,3,4]++[(8,0,5)]
 | 31=>aU [1,3,4,5]++[(8,2,23)]
 | 32=>aU [1,3,4,5]++[(6,0,31),(8,0,7)]
 | _=>[]
def ac (op:Int):List Lim:=if 1≤op then l7 op.toNat else []
def cO (x:Ins) (f:Int):Int :=
 if f=1 then an x.x else if f=2 then an x.s else if f=3 then x.rd else if f=4 then x.rn else if f=5 then x.rm else if f=6 then x.ra else if f=7 then x.a else if f=8 then x.b else x.c
def jL (x:Ins) (f v:Int):Ins :=
 if f=1 then { x with x:=decide (v=1) } else if f=2 then { x with s:=decide (v=1) } else if f=3 then { x with rd:=v } else if f=4 then { x with rn:=v } else if f=5 then { x with rm:=v }
 else if f=6 then { x with ra:=v } else if f=7 then { x with a:=v } else if f=8 then { x with b:=v } else { x with c:=v }
def jh (x:Ins) (l:List Lim) (o:Ins):Ins:=l.foldl (fun o f=>jL o f.1 (cO x f.1)) o
def bN (x:Ins):Ins:=jh x (ac x.op) (bW x.op)
def bY (x:Ins) (f:Lim):Bool:=decide (f.2.1≤cO x f.1)&&decide (cO x f.1≤f.2.2)
def aP (x:Ins):Bool:=(ac x.op).all (bY x)&&!(ac x.op).isEmpty&&decide (bN x=x)
def dB (v:Int):Nat:=(v % 18446744073709551616).toNat
def ct (x:Ins):Bool:=(cN (dB x.a) (if x.x then 64 else 32)).isSome&&(x.x||decide (0≤x.a))
def dL (x:Ins):Bool:=!decide (x.c=3)||decide (x.b<2)
def gZ (x:Ins):Bool :=
 if x.b=1∧(x.s=false∨x.c=0) then false
 else if x.s=true∧x.rd=x.ra then false
 else if (x.c=1∨x.c=3)∧¬x.rn=31∧(x.rn=x.rd∨x.rn=x.ra) then false else true
def cV (x:Ins):Bool :=
 if (x.a=1∧x.b<2)∨(x.a=2∧x.x=false)∨((x.s=true∨x.a=2)∧¬x.rm=0)∨(¬x.a=1∧¬x.ra=0) then false
 else if x.a=1∧x.s=true∧x.rd=x.ra then false
 else if x.s=true∨x.a=2 then true
 else decide (¬x.rm=x.rd)&&decide (¬x.rm=x.rn∨x.rm=31)&&!decide (x.a=1∧x.rm=x.ra)
def mA (x:Ins):Bool:=dL x&&decide (¬x.c=2∨¬x.b=3∨x.ra=0)&&!decide ((x.ra=1∨x.ra=3)∧¬x.rn=31∧x.rn=x.rd)
def dK (x:Ins):Bool :=
 if x.b=2∨x.b=3∨x.b=8∨x.b=9∨x.b=10∨x.b=11 then true
 else if x.b=19∨x.b=23 then x.x
 else if x.b=16∨x.b=17∨x.b=18∨x.b=20∨x.b=21∨x.b=22 then !x.x else false
def ce (x:Ins):Bool :=
 if x.op=3 then ct x
 else if x.op=4 then decide (¬x.b=1)&&(x.x||decide (x.c≤1))
 else if x.op=5 then (x.x||decide (x.a≤31))&&(x.x||decide (x.c≤31))
 else if x.op=6∨x.op=24∨x.op=25 then x.x||decide (x.a≤31)
 else if x.op=11 then decide (¬x.b=3)&&decide (¬x.b=4∨x.rn=0)
 else if x.op=14 then decide (¬x.b=3)
 else if x.op=19 then gZ x
 else if x.op=20 then dL x
 else if x.op=21 then mA x
 else if x.op=22 then dL x&&decide (¬x.a=4)&&decide (¬x.a=5)
 else if x.op=23 then cV x
 else if x.op=30 then decide (¬x.b=3)||x.x
 else if x.op=31 then dK x
 else if x.op=32 then (x.x||decide (x.b≤1))&&decide ((¬x.b=4∧¬x.b=7)∨x.ra=0)
 else true
def ao (x:Ins):Int:=if aP x&&ce x then 0 else 40
end
section
structure OpV where
 kind:Int
 r:pM
 m:pM
 md:Int
 amt:Int
 n:Int
 add:Int
 plus:ByteArray
 minus:ByteArray
 lo:Bool
 mode:Int
def r0:pM:=⟨0,false,false⟩
def op0 (kind:Int):OpV:=⟨kind,r0,r0,0,0,0,0,emp,emp,false,0⟩
def ab (n:Int) (x:Bool):OpV:={ op0 1 with r:=⟨n,x,false⟩ }
def oSP (n:Int) (x:Bool):OpV:={ op0 1 with r:=⟨n,x,n==31⟩ }
def aB (v:Int):OpV:={ op0 2 with add:=v }
def oTo (v:Int):OpV:={ op0 3 with add:=v }
def oOf (kind n:Int):OpV:={ op0 kind with n:=n }
def cW (o:OpV) (md amt:Int):OpV:={ o with md:=md,amt:=amt }
def bi (base mode off:Int):OpV:={ op0 5 with r:=⟨base,true,base==31⟩,mode:=mode,add:=off }
abbrev cG:=ByteArray×List OpV
def ak (n:Int) (l:List ByteArray):ByteArray:=if n<0∨(l.length:Int)≤n then emp else l.getD n.toNat emp
def dO (x:Ins):OpV:=ab x.rd x.x
def nO (x:Ins):OpV:=ab x.rn x.x
def mO (x:Ins):OpV:=ab x.rm x.x
def aO (x:Ins):OpV:=ab x.ra x.x
def dsO (x:Ins):OpV:=oSP x.rd x.x
def nsO (x:Ins):OpV:=oSP x.rn x.x
def xdO (x:Ins):OpV:=ab x.rd true
def cF (x:Ins):OpV:=aB x.a
def jB (x:Ins):OpV:=oTo (4*x.a)
def jS (x:Ins):OpV:=oOf 4 x.a
def bS (x:Ins) (l:List OpV):List OpV :=
 if x.a=0∧x.c=0 then l else l.set (l.length-1) (cW (l.getD (l.length-1) (op0 0)) (1+x.c) x.a)
def dh (x:Ins):OpV:=if x.c=1 then cW (aB x.a) 1 12 else aB x.a
def d8 (x:Ins):cG :=
 if x.op=1 then ((⟨#[97,100,114]⟩:ByteArray)++ak (an x.x) [emp,(⟨#[112]⟩:ByteArray)],[xdO x,oTo (if x.x then x.a*4096 else x.a)])
 else if x.op=2 then (ak x.b [(⟨#[97,100,100]⟩:ByteArray),(⟨#[115,117,98]⟩:ByteArray)]++ak (an x.s) [emp,(⟨#[115]⟩:ByteArray)],[if x.s then dO x else dsO x,nsO x,dh x])
 else if x.op=3 then (ak x.b [(⟨#[97,110,100]⟩:ByteArray),(⟨#[111,114,114]⟩:ByteArray),(⟨#[101,111,114]⟩:ByteArray),(⟨#[97,110,100,115]⟩:ByteArray)],[if x.b=3 then dO x else dsO x,nO x,cF x])
 else if x.op=4 then (ak x.b [(⟨#[109,111,118,110]⟩:ByteArray),emp,(⟨#[109,111,118,122]⟩:ByteArray),(⟨#[109,111,118,107]⟩:ByteArray)],[dO x,if x.c=0 then aB x.a else cW (aB x.a) 1 (16*x.c)])
 else if x.op=5 then (ak x.b [(⟨#[115,98,102,109]⟩:ByteArray),(⟨#[98,102,109]⟩:ByteArray),(⟨#[117,98,102,109]⟩:ByteArray)],[dO x,nO x,cF x,aB x.c])
 else ((⟨#[101,120,116,114]⟩:ByteArray),[dO x,nO x,mO x,cF x])
def brF (x:Ins):cG :=
 if x.op=7 then ((⟨#[98,46]⟩:ByteArray)++(dn 2 x.b).1,[jB x])
 else if x.op=8 then (ak (an x.s) [(⟨#[98]⟩:ByteArray),(⟨#[98,108]⟩:ByteArray)],[jB x])
 else if x.op=9 then (ak x.b [(⟨#[99,98,122]⟩:ByteArray),(⟨#[99,98,110,122]⟩:ByteArray)],[dO x,jB x])
 else if x.op=10 then (ak x.b [(⟨#[116,98,122]⟩:ByteArray),(⟨#[116,98,110,122]⟩:ByteArray)],[ab x.rd (decide (31<x.c)),aB x.c,jB x])
 else if x.op=11 then (ak x.b [(⟨#[98,114]⟩:ByteArray),(⟨#[98,108,114]⟩:ByteArray),(⟨#[114,101,116]⟩:ByteArray),emp,(⟨#[101,114,101,116]⟩:ByteArray)],if x.b=4 then [] else [ab x.rn true])
 else (ak x.b [(⟨#[115,118,99]⟩:ByteArray),(⟨#[104,118,99]⟩:ByteArray),(⟨#[115,109,99]⟩:ByteArray),(⟨#[98,114,107]⟩:ByteArray),(⟨#[104,108,116]⟩:ByteArray),(⟨#[100,99,112,115,49]⟩:ByteArray),(⟨#[100,99,112,115,50]⟩:ByteArray),(⟨#[100,99,112,115,51]⟩:ByteArray)],[cF x])
def lY (x:Ins):List OpV:=[aB (x.a / 2048 % 8),aB (x.a / 128 % 16),aB (x.a / 8 % 16),aB (x.a % 8)]
def cY (x:Ins):cG :=
 if x.op=13 then ((⟨#[104,105,110,116]⟩:ByteArray),[cF x])
 else if x.op=14 then
  if x.b=4∨x.b=5 then (ak (x.b-4) [(⟨#[100,115,98]⟩:ByteArray),(⟨#[100,109,98]⟩:ByteArray)],[oOf 7 x.a])
  else (ak x.b [emp,emp,(⟨#[99,108,114,101,120]⟩:ByteArray),emp,emp,emp,(⟨#[105,115,98]⟩:ByteArray)],[cF x])
 else if x.op=15 then if x.b=0 then ((⟨#[109,115,114]⟩:ByteArray),[oOf 6 x.a,xdO x]) else ((⟨#[109,114,115]⟩:ByteArray),[xdO x,oOf 6 x.a])
 else if x.op=16 then ((⟨#[109,115,114]⟩:ByteArray),[oOf 9 x.b,cF x])
 else if x.b=0 then ((⟨#[115,121,115]⟩:ByteArray),lY x++[xdO x]) else ((⟨#[115,121,115,108]⟩:ByteArray),xdO x::lY x)
def fF (n:Int):Int:=if n=1 then 2 else if n=3 then 1 else 0
def ic (x:Ins):cG :=
 (
  if x.b=1 then (⟨#[108,100,112,115,119]⟩:ByteArray) else ak (an x.s) [(⟨#[115,116]⟩:ByteArray),(⟨#[108,100]⟩:ByteArray)]++ak (an (decide (x.c=0))) [(⟨#[112]⟩:ByteArray),(⟨#[110,112]⟩:ByteArray)],
  [ab x.rd (decide (¬x.b=0)),ab x.ra (decide (¬x.b=0)),bi x.rn (fF x.c) ((if x.b=2 then 8 else 4)*x.a)])
def dk (size opc:Int):ByteArray×Bool×Bool :=
 if size<0∨3<size then (emp,false,false)
 else if opc=0 then ((⟨#[115,116,114]⟩:ByteArray)++ak size [(⟨#[98]⟩:ByteArray),(⟨#[104]⟩:ByteArray),emp,emp],false,decide (size=3))
 else if opc=1 then ((⟨#[108,100,114]⟩:ByteArray)++ak size [(⟨#[98]⟩:ByteArray),(⟨#[104]⟩:ByteArray),emp,emp],true,decide (size=3))
 else if opc=2∧size=3 then ((⟨#[112,114,102,109]⟩:ByteArray),true,true)
 else if opc=2 then ((⟨#[108,100,114,115]⟩:ByteArray)++ak size [(⟨#[98]⟩:ByteArray),(⟨#[104]⟩:ByteArray),(⟨#[119]⟩:ByteArray)],true,true)
 else if opc=3∧size<2 then ((⟨#[108,100,114,115]⟩:ByteArray)++ak size [(⟨#[98]⟩:ByteArray),(⟨#[104]⟩:ByteArray)],true,false)
 else (emp,false,false)
def u6 (n:Int):Int:=if n=2 then 7 else if n=3 then 1 else if n=6 then 11 else 12
end
section
theorem bz {n:Int} {l:List ByteArray} {k:Nat} (h:∀ s∈l,s.size≤k):(ak n l).size≤k:=by
 unfold ak
 split
 ·exact Nat.zero_le _
 ·rw [List.getD_eq_getElem?_getD]
  cases hg:l[n.toNat]? with
  | none=>exact Nat.zero_le _
  | some s=>exact h s (List.mem_of_getElem? hg)
def im (x:Ins):OpV:=cW (ab x.rm (decide (x.c % 4=3))) (5+x.c) x.a
def sS (x:Ins):ByteArray:=ak (an x.s) [emp,(⟨#[115]⟩:ByteArray)]
def bx (x:Ins):cG :=
 if x.op=24 then (ak (2*x.b+an x.s) [(⟨#[97,110,100]⟩:ByteArray),(⟨#[98,105,99]⟩:ByteArray),(⟨#[111,114,114]⟩:ByteArray),(⟨#[111,114,110]⟩:ByteArray),(⟨#[101,111,114]⟩:ByteArray),(⟨#[101,111,110]⟩:ByteArray),(⟨#[97,110,100,115]⟩:ByteArray),(⟨#[98,105,99,115]⟩:ByteArray)],bS x [dO x,nO x,mO x])
 else if x.op=25 then (ak x.b [(⟨#[97,100,100]⟩:ByteArray),(⟨#[115,117,98]⟩:ByteArray)]++sS x,bS x [dO x,nO x,mO x])
 else if x.op=26 then (ak x.b [(⟨#[97,100,100]⟩:ByteArray),(⟨#[115,117,98]⟩:ByteArray)]++sS x,[if x.s then dO x else dsO x,nsO x,im x])
 else if x.op=27 then (ak x.b [(⟨#[97,100,99]⟩:ByteArray),(⟨#[115,98,99]⟩:ByteArray)]++sS x,[dO x,nO x,mO x])
 else (ak x.b [(⟨#[99,99,109,110]⟩:ByteArray),(⟨#[99,99,109,112]⟩:ByteArray)],[nO x,if x.s then aB x.rm else mO x,aB x.a,oOf 4 x.c])
def fM (x:Ins):cG :=
 if x.b≤3 then (ak (x.b-2) [(⟨#[117,100,105,118]⟩:ByteArray),(⟨#[115,100,105,118]⟩:ByteArray)],[dO x,nO x,mO x])
 else if x.b≤11 then (ak (x.b-8) [(⟨#[108,115,108,118]⟩:ByteArray),(⟨#[108,115,114,118]⟩:ByteArray),(⟨#[97,115,114,118]⟩:ByteArray),(⟨#[114,111,114,118]⟩:ByteArray)],[dO x,nO x,mO x])
 else ((⟨#[99,114,99,51,50]⟩:ByteArray)++ak ((x.b-16).fdiv 4) [emp,(⟨#[99]⟩:ByteArray)]++ak (x.b % 4) [(⟨#[98]⟩:ByteArray),(⟨#[104]⟩:ByteArray),(⟨#[119]⟩:ByteArray),(⟨#[120]⟩:ByteArray)],[ab x.rd false,ab x.rn false,ab x.rm (decide (x.b % 4=3))])
def tJ (x:Ins):ByteArray:=ak x.b [(⟨#[109,97,100,100]⟩:ByteArray),(⟨#[109,115,117,98]⟩:ByteArray),(⟨#[115,109,97,100,100,108]⟩:ByteArray),(⟨#[115,109,115,117,98,108]⟩:ByteArray),(⟨#[115,109,117,108,104]⟩:ByteArray),(⟨#[117,109,97,100,100,108]⟩:ByteArray),(⟨#[117,109,115,117,98,108]⟩:ByteArray),(⟨#[117,109,117,108,104]⟩:ByteArray)]
def bG (x:Ins):cG :=
 if x.op=29 then (ak x.b [(⟨#[99,115,101,108]⟩:ByteArray),(⟨#[99,115,105,110,99]⟩:ByteArray),(⟨#[99,115,105,110,118]⟩:ByteArray),(⟨#[99,115,110,101,103]⟩:ByteArray)],[dO x,nO x,mO x,jS x])
 else if x.op=30 then (if x.b=2∧x.x=false then (⟨#[114,101,118]⟩:ByteArray) else ak x.b [(⟨#[114,98,105,116]⟩:ByteArray),(⟨#[114,101,118,49,54]⟩:ByteArray),(⟨#[114,101,118,51,50]⟩:ByteArray),(⟨#[114,101,118]⟩:ByteArray),(⟨#[99,108,122]⟩:ByteArray),(⟨#[99,108,115]⟩:ByteArray)],[dO x,nO x])
 else if x.op=31 then fM x
 else if x.b<2 then (tJ x,[dO x,nO x,mO x,aO x])
 else if x.b=4∨x.b=7 then (tJ x,[dO x,nO x,mO x])
 else (tJ x,[ab x.rd true,ab x.rn false,ab x.rm false,ab x.ra true])
end
section
theorem aA {x:Ins} (h:ao x=0):aP x=true∧ce x=true:=by
 unfold ao at h
 split at h
 ·rename_i h1
  simpa using h1
 ·exact absurd h (by decide)
theorem j4 {x:Ins} (h:aP x=true):1≤x.op∧x.op≤32:=by
 unfold aP at h
 simp only [Bool.and_eq_true] at h
 obtain ⟨⟨-,h⟩,-⟩:=h
 unfold ac at h
 split at h
 ·rename_i h1
  refine ⟨h1,?_⟩
  rcases Classical.em (32<x.op) with h2 | h2
  ·exfalso
   have:32<x.op.toNat:=by omega
   have e:l7 x.op.toNat=[]:=by
    unfold l7
    split<;>first | (exfalso;omega) | rfl
   rw [e] at h
   cases h
  ·omega
 ·cases h
theorem k9 {x:Ins} (h:aP x=true):(ac x.op).all (bY x)=true:=by
 unfold aP at h
 simp only [Bool.and_eq_true] at h
 exact h.1.1
theorem wu {s o:Int} (hs:0≤s∧s≤3) (ho:0≤o∧o≤3) (h:¬o=3∨s<2):3≤(dk s o).1.size:=by
 have h1:s=0∨s=1∨s=2∨s=3:=by omega
 have h2:o=0∨o=1∨o=2∨o=3:=by omega
 rcases h1 with rfl | rfl | rfl | rfl<;>rcases h2 with rfl | rfl | rfl | rfl<;>first | (exfalso;omega) | decide
structure PlB (x:Ins):Prop where
 op:1≤x.op∧x.op≤32
 adr:x.op=1 → -1048576≤x.a∧x.a≤1048575
 wide:x.op=4→0≤x.c∧x.c≤3
 far:7≤x.op→x.op≤10 → -33554432≤x.a∧x.a≤33554431
 cond:x.op=7→0≤x.b∧x.b≤15
 sys:x.op=17→0≤x.a∧x.a≤16383
 lit:x.op=18∨x.op=19 → -262144≤x.a∧x.a≤262143
 ld:x.op=20→(0≤x.b∧x.b≤3)∧(0≤x.a∧x.a≤4095)
 idx:x.op=21→3≤(dk x.b x.c).1.size
 reg:x.op=22→0≤x.a∧x.a≤7
 logR:x.op=24→0≤x.b∧x.b≤3
 mods:24≤x.op→x.op≤26→0≤x.c∧x.c≤7
 two:x.op=31→2≤x.b∧x.b≤23
 tr:20≤x.op→x.op≤22→(0≤x.b∧x.b≤3)∧(0≤x.c∧x.c≤3)∧(¬x.c=3∨x.b<2)
 br:x.op=11→(0≤x.b∧x.b≤4)∧¬x.b=3
 bar:x.op=14→(2≤x.b∧x.b≤6)∧¬x.b=3
 bit:15=x.op∨17=x.op→0≤x.b∧x.b≤1
 addImm:x.op=2→(0≤x.b∧x.b≤1)∧(0≤x.c∧x.c≤1)
 pairB:x.op=19→(0≤x.b∧x.b≤2)∧(0≤x.c∧x.c≤3)∧(x.b=1→x.s=true∧¬x.c=0)
 ex:x.op=23→(0≤x.a∧x.a≤2)∧(0≤x.b∧x.b≤3)
 logI:x.op=3→0≤x.b∧x.b≤3
theorem gl {x:Ins} (h:ao x=0):PlB x:=by
 obtain ⟨h1,h2⟩:=aA h
 have ho:=j4 h1
 have ha:=k9 h1
 obtain ⟨op,xx,ss,rd,rn,rm,ra,a,b,c⟩:=x
 simp only at ho ha
 have hop:op=1∨op=2∨op=3∨op=4∨op=5∨op=6∨op=7∨op=8∨op=9∨op=10∨op=11∨op=12∨op=13∨op=14∨op=15∨op=16∨op=17∨op=18∨op=19∨op=20∨op=21∨op=22∨op=23∨op=24∨op=25∨op=26∨op=27∨op=28∨op=29∨op=30∨op=31∨op=32:=by omega
 rcases hop with rfl | rfl | rfl | rfl | rfl | rfl | rfl | rfl | rfl | rfl | rfl | rfl | rfl | rfl | rfl | rfl | rfl | rfl | rfl | rfl | rfl | rfl | rfl | rfl | rfl | rfl | rfl | rfl | rfl | rfl | rfl | rfl
 all_goals
  simp [ac,l7,aU] at ha
  simp [bY,cO] at ha
  first
  | (refine ⟨by simp,?_,?_,?_,?_,?_,?_,?_,?_,?_,?_,?_,?_,?_,?_,?_,?_,?_,?_,?_,?_⟩<;>simp only []<;>omega)
  | (
   simp [ce,mA,dL,gZ] at h2
   refine ⟨by simp,?_,?_,?_,?_,?_,?_,?_,?_,?_,?_,?_,?_,?_,?_,?_,?_,?_,?_,?_,?_⟩
   all_goals first | (simp only [];omega) | (intro _;refine wu ?_ ?_ ?_<;>simp only []<;>omega) | (cases ss<;>simp_all;done) | (cases ss<;>simp_all<;>omega))
end
section
def cj (x:Bool):Nat:=if x then 18446744073709551615 else 4294967295
def wN (x:Bool):Nat:=if x then 64 else 32
def mw (v:Nat):Int:=IntKind.i64.wrap (v:Int)
theorem xv {v:Nat} (h:v<18446744073709551616):dB (mw v)=v:=by
 unfold dB mw
 rw [IntKind.wrap_i64]
 omega
def dz (v c:Nat):Bool:=v % 2 ^ (16*c)==0&&decide (v / 2 ^ (16*c)<65536)
def fN (v n:Nat):Nat→Nat→Option (Nat×Nat)
 | 0,_=>none
 | f+1,c=>if c<n then (if dz v c then some (v / 2 ^ (16*c),c) else fN v n f (c+1)) else none
def fp (x:Bool):Nat:=if x then 4 else 2
def ge (v:Nat) (x:Bool):Option (Nat×Nat):=fN v (fp x) 5 0
theorem oN {v n a d:Nat}:∀ {f c:Nat},fN v n f c=some (a,d)→c≤d∧d<n∧dz v d=true∧a=v / 2 ^ (16*d)∧∀ j,c≤j→j<d→dz v j=false
 | 0,_,h=>by cases h
 | f+1,c,h=>by
  rw [fN] at h
  split at h
  case isFalse=>cases h
  rename_i hc
  split at h
  ·rename_i hw
   injection h with h
   injection h with h1 h2
   subst h2
   exact ⟨Nat.le_refl _,hc,hw,h1.symm,fun j h3 h4=>by omega⟩
  ·rename_i hw
   obtain ⟨h1,h2,h3,h4,h5⟩:=oN h
   refine ⟨by omega,h2,h3,h4,fun j h6 h7=>?_⟩
   by_cases e:j=c
   ·rw [e];simpa using hw
   ·exact h5 j (by omega) h7
def cS (rd:pM) (v:Nat):Ins×Int :=
 if ¬(cH rd).2=0∨cj rd.x<v then (bW 0,1) else
 match (if rd.sp then none else ge v rd.x) with
 | some (a,c)=>(⟨4,rd.x,false,rd.n,0,0,0,a,2,c⟩,0)
 | none=>match (if rd.sp then none else ge (v ^^^ cj rd.x) rd.x) with
  | some (a,c)=>(⟨4,rd.x,false,rd.n,0,0,0,a,0,c⟩,0)
  | none=>if (cN v (wN rd.x)).isSome=false∨(rd.n=31∧rd.sp=false) then (bW 0,70) else (⟨3,rd.x,false,rd.n,31,0,0,mw v,1,0⟩,0)
def ft (x:Ins):Option cG :=
 if x.b=3∧x.rd=31 then some ((⟨#[116,115,116]⟩:ByteArray),[nO x,cF x])
 else if x.b=1∧x.rn=31 then
  let m:=cS ⟨x.rd,x.x,false⟩ (dB x.a &&& cj x.x)
  if m.2=0∧m.1.op=4 then none else some ((⟨#[109,111,118]⟩:ByteArray),[dsO x,cF x])
 else none
def mo (x:Ins):Int :=
 mw (if x.b=0 then (dB x.a*2 ^ (16*x.c).toNat % 18446744073709551616) ^^^ cj x.x else dB x.a*2 ^ (16*x.c).toNat % 18446744073709551616)
def fL (x:Ins):Option cG :=
 if x.b=3∨(x.a=0∧¬x.c=0)∨(x.b=0∧x.x=false∧x.a=65535) then none else some ((⟨#[109,111,118]⟩:ByteArray),[dO x,aB (mo x)])
theorem lF (x:Bool):cj x<18446744073709551616:=by cases x<;>decide
theorem IF {xx:Bool} {rd:Int} {a c v:Nat} (hv:v<18446744073709551616) (ha:a<65536) (h:a*2 ^ (16*c)=v) (b:Int) :
  mo ⟨4,xx,false,rd,0,0,0,a,b,c⟩=mw (if b=0 then v ^^^ cj xx else v):=by
 have e1:dB (a:Int)=a:=by unfold dB;omega
 have e2:(16*(c:Int)).toNat=16*c:=by omega
 unfold mo
 simp only [e1,e2,h,Nat.mod_eq_of_lt hv]
end
end Go.Proofs.YtpjlafmhoifkmaaGreat
