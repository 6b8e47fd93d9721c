import Derived.Test.YtpjlafmhoifkmaaGreatM12
import Derived.Test.YtpjlafmhoifkmaaGreatM10
set_option linter.unusedVariables false
set_option linter.unusedSimpArgs false
set_option maxRecDepth 100000
set_option maxHeartbeats 8000000
namespace Go.Proofs.YtpjlafmhoifkmaaGreat
section
structure Ins where
 op:Int
 x:Bool
 s:Bool
 rd:Int
 rn:Int
 rm:Int
 ra:Int
 a:Int
 b:Int
 c:Int
 deriving DecidableEq
def dC (op:Int):Ins:=⟨op,false,false,0,0,0,0,0,0,0⟩
def aU (q:Bool):Int:=if q then 1 else 0
abbrev Lim:=Int×Int×Int
def bi (l:List Int):List Lim:=l.map fun f=>(f,0,if f=1∨f=2 then 1 else 31)
def pE:Nat→List Lim
 | 1=>bi [1,3]++[(7,-1048576,1048575)]
 | 2=>bi [1,2,3,4]++[(7,0,4095),(8,0,1),(9,0,1)]
 | 3=>bi [1,3,4]++[(7,-9223372036854775808,9223372036854775807),(8,0,3)]
 | 4=>bi [1,3]++[(7,0,65535),(8,0,3),(9,0,3)]
 | 5=>bi [1,3,4]++[(7,0,63),(8,0,2),(9,0,63)]
 | 6=>bi [1,3,4,5]++[(7,0,63)]
 | 7=>[(7,-262144,262143),(8,0,15)]
 | 8=>bi [2]++[(7,-33554432,33554431)]
 | 9=>bi [1,3]++[(7,-262144,262143),(8,0,1)]
 | 10=>bi [3]++[(7,-8192,8191),(8,0,1),(9,0,63)]
 | 11=>bi [4]++[(8,0,4)]
 | 12=>[(7,0,65535),(8,0,7)]
 | 13=>[(7,0,127)]
 | 14=>[(7,0,15),(8,2,6)]
 | 15=>bi [3]++[(7,0,32767),(8,0,1)]
 | 16=>[(7,0,15),(8,0,5)]
 | 17=>bi [3]++[(7,0,16383),(8,0,1)]
 | 18=>bi [3]++[(7,-262144,262143),(8,0,3)]
 | 19=>bi [2,3,4,6]++[(7,-64,63),(8,0,2),(9,0,3)]
 | 20=>bi [3,4]++[(7,0,4095),(8,0,3),(9,0,3)]
 | 21=>bi [3,4]++[(6,0,3),(7,-256,255),(8,0,3),(9,0,3)]
 | 22=>bi [2,3,4,5]++[(7,2,7),(8,0,3),(9,0,3)]
 | 23=>bi [1,2,3,4,5]++[(6,0,31),(7,0,2),(8,0,3)]
 | 24=>bi [1,2,3,4,5]++[(7,0,63),(8,0,3),(9,0,3)]
 | 25=>bi [1,2,3,4,5]++[(7,0,63),(8,0,1),(9,0,2)]
 | 26=>bi [1,2,3,4,5]++[(7,0,4),(8,0,1),(9,0,7)]
 | 27=>bi [1,2,3,4,5]++[(8,0,1)]
 | 28=>bi [1,2,4,5]++[(7,0,15),(8,0,1),(9,0,15)]
 | 29=>bi [1,3,4,5]++[(7,0,15),(8,0,3)]
 | 30=>bi [1,3,4]++[(8,0,5)]
 | 31=>bi [1,3,4,5]++[(8,2,23)]
 | 32=>bi [1,3,4,5]++[(6,0,31),(8,0,7)]
 | _=>[]
def an (op:Int):List Lim:=if 1≤op then pE op.toNat else []
def jm (x:Ins) (f:Int):Int :=
 if f=1 then aU x.x else if f=2 then aU x.s else if f=3 then x.rd else if f=4 then x.rn else if f=5 then x.rm else if f=6 then x.ra else if f=7 then x.a else if f=8 then x.b else x.c
def mG (x:Ins) (f v:Int):Ins :=
 if f=1 then { x with x:=decide (v=1) } else if f=2 then { x with s:=decide (v=1) } else if f=3 then { x with rd:=v } else if f=4 then { x with rn:=v } else if f=5 then { x with rm:=v }
 else if f=6 then { x with ra:=v } else if f=7 then { x with a:=v } else if f=8 then { x with b:=v } else { x with c:=v }
def ll (x:Ins) (l:List Lim) (o:Ins):Ins:=l.foldl (fun o f=>mG o f.1 (jm x f.1)) o
def iY (x:Ins):Ins:=ll x (an x.op) (dC x.op)
def gv (x:Ins) (f:Lim):Bool:=decide (f.2.1≤jm x f.1)&&decide (jm x f.1≤f.2.2)
def cr (x:Ins):Bool:=(an x.op).all (gv x)&&!(an x.op).isEmpty&&decide (iY x=x)
def dg (v:Int):Nat:=(v % 18446744073709551616).toNat
def df (x:Ins):Bool:=(dF (dg x.a) (if x.x then 64 else 32)).isSome&&(x.x||decide (0≤x.a))
def fw (x:Ins):Bool:=!decide (x.c=3)||decide (x.b<2)
def ke (x:Ins):Bool :=
 if x.b=1∧(x.s=false∨x.c=0) then false
 else if x.s=true∧x.rd=x.ra then false
 else if (x.c=1∨x.c=3)∧¬x.rn=31∧(x.rn=x.rd∨x.rn=x.ra) then false else true
def dS (x:Ins):Bool :=
 if (x.a=1∧x.b<2)∨(x.a=2∧x.x=false)∨((x.s=true∨x.a=2)∧¬x.rm=0)∨(¬x.a=1∧¬x.ra=0) then false
 else if x.a=1∧x.s=true∧x.rd=x.ra then false
 else if x.s=true∨x.a=2 then true
 else decide (¬x.rm=x.rd)&&decide (¬x.rm=x.rn∨x.rm=31)&&!decide (x.a=1∧x.rm=x.ra)
def nU (x:Ins):Bool:=fw x&&decide (¬x.c=2∨¬x.b=3∨x.ra=0)&&!decide ((x.ra=1∨x.ra=3)∧¬x.rn=31∧x.rn=x.rd)
def fk (x:Ins):Bool :=
 if x.b=2∨x.b=3∨x.b=8∨x.b=9∨x.b=10∨x.b=11 then true
 else if x.b=19∨x.b=23 then x.x
 else if x.b=16∨x.b=17∨x.b=18∨x.b=20∨x.b=21∨x.b=22 then !x.x else false
def de (x:Ins):Bool :=
 if x.op=3 then df x
 else if x.op=4 then decide (¬x.b=1)&&(x.x||decide (x.c≤1))
 else if x.op=5 then (x.x||decide (x.a≤31))&&(x.x||decide (x.c≤31))
 else if x.op=6∨x.op=24∨x.op=25 then x.x||decide (x.a≤31)
 else if x.op=11 then decide (¬x.b=3)&&decide (¬x.b=4∨x.rn=0)
 else if x.op=14 then decide (¬x.b=3)
 else if x.op=19 then ke x
 else if x.op=20 then fw x
 else if x.op=21 then nU x
 else if x.op=22 then fw x&&decide (¬x.a=4)&&decide (¬x.a=5)
 else if x.op=23 then dS x
 else if x.op=30 then decide (¬x.b=3)||x.x
 else if x.op=31 then fk x
 else if x.op=32 then (x.x||decide (x.b≤1))&&decide ((¬x.b=4∧¬x.b=7)∨x.ra=0)
 else true
def ay (x:Ins):Int:=if cr x&&de x then 0 else 40
end
section
structure OpV where
 kind:Int
 r:rq
 m:rq
 md:Int
 amt:Int
 n:Int
 add:Int
 plus:ByteArray
 minus:ByteArray
 lo:Bool
 mode:Int
def r0:rq:=⟨0,false,false⟩
def op0 (kind:Int):OpV:=⟨kind,r0,r0,0,0,0,0,emp,emp,false,0⟩
def ah (n:Int) (x:Bool):OpV:={ op0 1 with r:=⟨n,x,false⟩ }
def oSP (n:Int) (x:Bool):OpV:={ op0 1 with r:=⟨n,x,n==31⟩ }
def aw (v:Int):OpV:={ op0 2 with add:=v }
def oTo (v:Int):OpV:={ op0 3 with add:=v }
def oOf (kind n:Int):OpV:={ op0 kind with n:=n }
def cw (o:OpV) (md amt:Int):OpV:={ o with md:=md,amt:=amt }
def be (base mode off:Int):OpV:={ op0 5 with r:=⟨base,true,base==31⟩,mode:=mode,add:=off }
abbrev cE:=ByteArray×List OpV
def ae (n:Int) (l:List ByteArray):ByteArray:=if n<0∨(l.length:Int)≤n then emp else l.getD n.toNat emp
def dO (x:Ins):OpV:=ah x.rd x.x
def nO (x:Ins):OpV:=ah x.rn x.x
def mO (x:Ins):OpV:=ah x.rm x.x
def aO (x:Ins):OpV:=ah x.ra x.x
def dsO (x:Ins):OpV:=oSP x.rd x.x
def nsO (x:Ins):OpV:=oSP x.rn x.x
def xdO (x:Ins):OpV:=ah x.rd true
def dL (x:Ins):OpV:=aw x.a
def na (x:Ins):OpV:=oTo (4*x.a)
def nk (x:Ins):OpV:=oOf 4 x.a
def cK (x:Ins) (l:List OpV):List OpV :=
 if x.a=0∧x.c=0 then l else l.set (l.length-1) (cw (l.getD (l.length-1) (op0 0)) (1+x.c) x.a)
def eI (x:Ins):OpV:=if x.c=1 then cw (aw x.a) 1 12 else aw x.a
def fY (x:Ins):cE :=
 if x.op=1 then ((⟨#[97,100,114]⟩:ByteArray)++ae (aU x.x) [emp,(⟨#[112]⟩:ByteArray)],[xdO x,oTo (if x.x then x.a*4096 else x.a)])
 else if x.op=2 then (ae x.b [(⟨#[97,100,100]⟩:ByteArray),(⟨#[115,117,98]⟩:ByteArray)]++ae (aU x.s) [emp,(⟨#[115]⟩:ByteArray)],[if x.s then dO x else dsO x,nsO x,eI x])
 else if x.op=3 then (ae x.b [(⟨#[97,110,100]⟩:ByteArray),(⟨#[111,114,114]⟩:ByteArray),(⟨#[101,111,114]⟩:ByteArray),(⟨#[97,110,100,115]⟩:ByteArray)],[if x.b=3 then dO x else dsO x,nO x,dL x])
 else if x.op=4 then (ae x.b [(⟨#[109,111,118,110]⟩:ByteArray),emp,(⟨#[109,111,118,122]⟩:ByteArray),(⟨#[109,111,118,107]⟩:ByteArray)],[dO x,if x.c=0 then aw x.a else cw (aw x.a) 1 (16*x.c)])
 else if x.op=5 then (ae x.b [(⟨#[115,98,102,109]⟩:ByteArray),(⟨#[98,102,109]⟩:ByteArray),(⟨#[117,98,102,109]⟩:ByteArray)],[dO x,nO x,dL x,aw x.c])
 else ((⟨#[101,120,116,114]⟩:ByteArray),[dO x,nO x,mO x,dL x])
def brF (x:Ins):cE :=
 if x.op=7 then ((⟨#[98,46]⟩:ByteArray)++(cV 2 x.b).1,[na x])
 else if x.op=8 then (ae (aU x.s) [(⟨#[98]⟩:ByteArray),(⟨#[98,108]⟩:ByteArray)],[na x])
 else if x.op=9 then (ae x.b [(⟨#[99,98,122]⟩:ByteArray),(⟨#[99,98,110,122]⟩:ByteArray)],[dO x,na x])
 else if x.op=10 then (ae x.b [(⟨#[116,98,122]⟩:ByteArray),(⟨#[116,98,110,122]⟩:ByteArray)],[ah x.rd (decide (31<x.c)),aw x.c,na x])
 else if x.op=11 then (ae x.b [(⟨#[98,114]⟩:ByteArray),(⟨#[98,108,114]⟩:ByteArray),(⟨#[114,101,116]⟩:ByteArray),emp,(⟨#[101,114,101,116]⟩:ByteArray)],if x.b=4 then [] else [ah x.rn true])
 else (ae x.b [(⟨#[115,118,99]⟩:ByteArray),(⟨#[104,118,99]⟩:ByteArray),(⟨#[115,109,99]⟩:ByteArray),(⟨#[98,114,107]⟩:ByteArray),(⟨#[104,108,116]⟩:ByteArray),(⟨#[100,99,112,115,49]⟩:ByteArray),(⟨#[100,99,112,115,50]⟩:ByteArray),(⟨#[100,99,112,115,51]⟩:ByteArray)],[dL x])
def li (x:Ins):List OpV:=[aw (x.a / 2048 % 8),aw (x.a / 128 % 16),aw (x.a / 8 % 16),aw (x.a % 8)]
def dT (x:Ins):cE :=
 if x.op=13 then ((⟨#[104,105,110,116]⟩:ByteArray),[dL x])
 else if x.op=14 then
  if x.b=4∨x.b=5 then (ae (x.b-4) [(⟨#[100,115,98]⟩:ByteArray),(⟨#[100,109,98]⟩:ByteArray)],[oOf 7 x.a])
  else (ae x.b [emp,emp,(⟨#[99,108,114,101,120]⟩:ByteArray),emp,emp,emp,(⟨#[105,115,98]⟩:ByteArray)],[dL x])
 else if x.op=15 then if x.b=0 then ((⟨#[109,115,114]⟩:ByteArray),[oOf 6 x.a,xdO x]) else ((⟨#[109,114,115]⟩:ByteArray),[xdO x,oOf 6 x.a])
 else if x.op=16 then ((⟨#[109,115,114]⟩:ByteArray),[oOf 9 x.b,dL x])
 else if x.b=0 then ((⟨#[115,121,115]⟩:ByteArray),li x++[xdO x]) else ((⟨#[115,121,115,108]⟩:ByteArray),xdO x::li x)
def dB (n:Int):Int:=if n=1 then 2 else if n=3 then 1 else 0
def kg (x:Ins):cE :=
 (
  if x.b=1 then (⟨#[108,100,112,115,119]⟩:ByteArray) else ae (aU x.s) [(⟨#[115,116]⟩:ByteArray),(⟨#[108,100]⟩:ByteArray)]++ae (aU (decide (x.c=0))) [(⟨#[112]⟩:ByteArray),(⟨#[110,112]⟩:ByteArray)],
  [ah x.rd (decide (¬x.b=0)),ah x.ra (decide (¬x.b=0)),be x.rn (dB x.c) ((if x.b=2 then 8 else 4)*x.a)])
def bx (size opc:Int):ByteArray×Bool×Bool :=
 if size<0∨3<size then (emp,false,false)
 else if opc=0 then ((⟨#[115,116,114]⟩:ByteArray)++ae size [(⟨#[98]⟩:ByteArray),(⟨#[104]⟩:ByteArray),emp,emp],false,decide (size=3))
 else if opc=1 then ((⟨#[108,100,114]⟩:ByteArray)++ae size [(⟨#[98]⟩:ByteArray),(⟨#[104]⟩:ByteArray),emp,emp],true,decide (size=3))
 else if opc=2∧size=3 then ((⟨#[112,114,102,109]⟩:ByteArray),true,true)
 else if opc=2 then ((⟨#[108,100,114,115]⟩:ByteArray)++ae size [(⟨#[98]⟩:ByteArray),(⟨#[104]⟩:ByteArray),(⟨#[119]⟩:ByteArray)],true,true)
 else if opc=3∧size<2 then ((⟨#[108,100,114,115]⟩:ByteArray)++ae size [(⟨#[98]⟩:ByteArray),(⟨#[104]⟩:ByteArray)],true,false)
 else (emp,false,false)
def fO (n:Int):Int:=if n=2 then 7 else if n=3 then 1 else if n=6 then 11 else 12
end
section
theorem av {n:Int} {l:List ByteArray} {k:Nat} (h:∀ s∈l,s.size≤k):(ae n l).size≤k:=by
 unfold ae
 split
 ·exact Nat.zero_le _
 ·rw [List.getD_eq_getElem?_getD]
  cases hg:l[n.toNat]? with
  | none=>exact Nat.zero_le _
  | some s=>exact h s (List.mem_of_getElem? hg)
def dK (x:Ins):OpV:=cw (ah x.rm (decide (x.c % 4=3))) (5+x.c) x.a
def sS (x:Ins):ByteArray:=ae (aU x.s) [emp,(⟨#[115]⟩:ByteArray)]
def bP (x:Ins):cE :=
 if x.op=24 then (ae (2*x.b+aU x.s) [(⟨#[97,110,100]⟩:ByteArray),(⟨#[98,105,99]⟩:ByteArray),(⟨#[111,114,114]⟩:ByteArray),(⟨#[111,114,110]⟩:ByteArray),(⟨#[101,111,114]⟩:ByteArray),(⟨#[101,111,110]⟩:ByteArray),(⟨#[97,110,100,115]⟩:ByteArray),(⟨#[98,105,99,115]⟩:ByteArray)],cK x [dO x,nO x,mO x])
 else if x.op=25 then (ae x.b [(⟨#[97,100,100]⟩:ByteArray),(⟨#[115,117,98]⟩:ByteArray)]++sS x,cK x [dO x,nO x,mO x])
 else if x.op=26 then (ae x.b [(⟨#[97,100,100]⟩:ByteArray),(⟨#[115,117,98]⟩:ByteArray)]++sS x,[if x.s then dO x else dsO x,nsO x,dK x])
 else if x.op=27 then (ae x.b [(⟨#[97,100,99]⟩:ByteArray),(⟨#[115,98,99]⟩:ByteArray)]++sS x,[dO x,nO x,mO x])
 else (ae x.b [(⟨#[99,99,109,110]⟩:ByteArray),(⟨#[99,99,109,112]⟩:ByteArray)],[nO x,if x.s then aw x.rm else mO x,aw x.a,oOf 4 x.c])
def jv (x:Ins):cE :=
 if x.b≤3 then (ae (x.b-2) [(⟨#[117,100,105,118]⟩:ByteArray),(⟨#[115,100,105,118]⟩:ByteArray)],[dO x,nO x,mO x])
 else if x.b≤11 then (ae (x.b-8) [(⟨#[108,115,108,118]⟩:ByteArray),(⟨#[108,115,114,118]⟩:ByteArray),(⟨#[97,115,114,118]⟩:ByteArray),(⟨#[114,111,114,118]⟩:ByteArray)],[dO x,nO x,mO x])
 else ((⟨#[99,114,99,51,50]⟩:ByteArray)++ae ((x.b-16).fdiv 4) [emp,(⟨#[99]⟩:ByteArray)]++ae (x.b % 4) [(⟨#[98]⟩:ByteArray),(⟨#[104]⟩:ByteArray),(⟨#[119]⟩:ByteArray),(⟨#[120]⟩:ByteArray)],[ah x.rd false,ah x.rn false,ah x.rm (decide (x.b % 4=3))])
def g7 (x:Ins):ByteArray:=ae x.b [(⟨#[109,97,100,100]⟩:ByteArray),(⟨#[109,115,117,98]⟩:ByteArray),(⟨#[115,109,97,100,100,108]⟩:ByteArray),(⟨#[115,109,115,117,98,108]⟩:ByteArray),(⟨#[115,109,117,108,104]⟩:ByteArray),(⟨#[117,109,97,100,100,108]⟩:ByteArray),(⟨#[117,109,115,117,98,108]⟩:ByteArray),(⟨#[117,109,117,108,104]⟩:ByteArray)]
def bM (x:Ins):cE :=
 if x.op=29 then (ae x.b [(⟨#[99,115,101,108]⟩:ByteArray),(⟨#[99,115,105,110,99]⟩:ByteArray),(⟨#[99,115,105,110,118]⟩:ByteArray),(⟨#[99,115,110,101,103]⟩:ByteArray)],[dO x,nO x,mO x,nk x])
 else if x.op=30 then (if x.b=2∧x.x=false then (⟨#[114,101,118]⟩:ByteArray) else ae x.b [(⟨#[114,98,105,116]⟩:ByteArray),(⟨#[114,101,118,49,54]⟩:ByteArray),(⟨#[114,101,118,51,50]⟩:ByteArray),(⟨#[114,101,118]⟩:ByteArray),(⟨#[99,108,122]⟩:ByteArray),(⟨#[99,108,115]⟩:ByteArray)],[dO x,nO x])
 else if x.op=31 then jv x
 else if x.b<2 then (g7 x,[dO x,nO x,mO x,aO x])
 else if x.b=4∨x.b=7 then (g7 x,[dO x,nO x,mO x])
 else (g7 x,[ah x.rd true,ah x.rn false,ah x.rm false,ah x.ra true])
end
section
theorem jF {x:Ins} (h:ay x=0):cr x=true∧de x=true:=by
 unfold ay at h
 split at h
 ·rename_i h1
  simpa using h1
 ·exact absurd h (by decide)
theorem oX {x:Ins} (h:cr x=true):1≤x.op∧x.op≤32:=by
 unfold cr at h
 simp only [Bool.and_eq_true] at h
 obtain ⟨⟨-,h⟩,-⟩:=h
 unfold an at h
 split at h
 ·rename_i h1
  refine ⟨h1,?_⟩
  rcases Classical.em (32<x.op) with h2 | h2
  ·exfalso
   have:32<x.op.toNat:=by omega
   have e:pE x.op.toNat=[]:=by
    unfold pE
    split<;>first | (exfalso;omega) | rfl
   rw [e] at h
   cases h
  ·omega
 ·cases h
theorem jT {x:Ins} (h:cr x=true):(an x.op).all (gv x)=true:=by
 unfold cr at h
 simp only [Bool.and_eq_true] at h
 exact h.1.1
theorem yU {s o:Int} (hs:0≤s∧s≤3) (ho:0≤o∧o≤3) (h:¬o=3∨s<2):3≤(bx s o).1.size:=by
 have h1:s=0∨s=1∨s=2∨s=3:=by omega
 have h2:o=0∨o=1∨o=2∨o=3:=by omega
 rcases h1 with rfl | rfl | rfl | rfl<;>rcases h2 with rfl | rfl | rfl | rfl<;>first | (exfalso;omega) | decide
structure PlB (x:Ins):Prop where
 op:1≤x.op∧x.op≤32
 adr:x.op=1 → -1048576≤x.a∧x.a≤1048575
 wide:x.op=4→0≤x.c∧x.c≤3
 far:7≤x.op→x.op≤10 → -33554432≤x.a∧x.a≤33554431
 cond:x.op=7→0≤x.b∧x.b≤15
 sys:x.op=17→0≤x.a∧x.a≤16383
 lit:x.op=18∨x.op=19 → -262144≤x.a∧x.a≤262143
 ld:x.op=20→(0≤x.b∧x.b≤3)∧(0≤x.a∧x.a≤4095)
 idx:x.op=21→3≤(bx x.b x.c).1.size
 reg:x.op=22→0≤x.a∧x.a≤7
 logR:x.op=24→0≤x.b∧x.b≤3
 mods:24≤x.op→x.op≤26→0≤x.c∧x.c≤7
 two:x.op=31→2≤x.b∧x.b≤23
 tr:20≤x.op→x.op≤22→(0≤x.b∧x.b≤3)∧(0≤x.c∧x.c≤3)∧(¬x.c=3∨x.b<2)
 br:x.op=11→(0≤x.b∧x.b≤4)∧¬x.b=3
 bar:x.op=14→(2≤x.b∧x.b≤6)∧¬x.b=3
 bit:15=x.op∨17=x.op→0≤x.b∧x.b≤1
 addImm:x.op=2→(0≤x.b∧x.b≤1)∧(0≤x.c∧x.c≤1)
 pairB:x.op=19→(0≤x.b∧x.b≤2)∧(0≤x.c∧x.c≤3)∧(x.b=1→x.s=true∧¬x.c=0)
 ex:x.op=23→(0≤x.a∧x.a≤2)∧(0≤x.b∧x.b≤3)
 logI:x.op=3→0≤x.b∧x.b≤3
theorem eK {x:Ins} (h:ay x=0):PlB x:=by
 obtain ⟨h1,h2⟩:=jF h
 have ho:=oX h1
 have ha:=jT h1
 obtain ⟨op,xx,ss,rd,rn,rm,ra,a,b,c⟩:=x
 simp only at ho ha
 have hop:op=1∨op=2∨op=3∨op=4∨op=5∨op=6∨op=7∨op=8∨op=9∨op=10∨op=11∨op=12∨op=13∨op=14∨op=15∨op=16∨op=17∨op=18∨op=19∨op=20∨op=21∨op=22∨op=23∨op=24∨op=25∨op=26∨op=27∨op=28∨op=29∨op=30∨op=31∨op=32:=by omega
 rcases hop with rfl | rfl | rfl | rfl | rfl | rfl | rfl | rfl | rfl | rfl | rfl | rfl | rfl | rfl | rfl | rfl | rfl | rfl | rfl | rfl | rfl | rfl | rfl | rfl | rfl | rfl | rfl | rfl | rfl | rfl | rfl | rfl
 all_goals
  simp [an,pE,bi] at ha
  simp [gv,jm] at ha
  first
  | (refine ⟨by simp,?_,?_,?_,?_,?_,?_,?_,?_,?_,?_,?_,?_,?_,?_,?_,?_,?_,?_,?_,?_⟩<;>simp only []<;>omega)
  | (
   simp [de,nU,fw,ke] at h2
   refine ⟨by simp,?_,?_,?_,?_,?_,?_,?_,?_,?_,?_,?_,?_,?_,?_,?_,?_,?_,?_,?_,?_⟩
   all_goals first | (simp only [];omega) | (intro _;refine yU ?_ ?_ ?_<;>simp only []<;>omega) | (cases ss<;>simp_all;done) | (cases ss<;>simp_all<;>omega))
end
section
def cg (x:Bool):Nat:=if x then 18446744073709551615 else 4294967295
def wN (x:Bool):Nat:=if x then 64 else 32
def mI (v:Nat):Int:=IntKind.i64.wrap (v:Int)
def jY (v c:Nat):Bool:=v % 2 ^ (16*c)==0&&decide (v / 2 ^ (16*c)<65536)
def mm (v n:Nat):Nat→Nat→Option (Nat×Nat)
 | 0,_=>none
 | f+1,c=>if c<n then (if jY v c then some (v / 2 ^ (16*c),c) else mm v n f (c+1)) else none
def jl (x:Bool):Nat:=if x then 4 else 2
def gh (v:Nat) (x:Bool):Option (Nat×Nat):=mm v (jl x) 5 0
def bR (rd:rq) (v:Nat):Ins×Int :=
 if ¬(cq rd).2=0∨cg rd.x<v then (dC 0,1) else
 match (if rd.sp then none else gh v rd.x) with
 | some (a,c)=>(⟨4,rd.x,false,rd.n,0,0,0,a,2,c⟩,0)
 | none=>match (if rd.sp then none else gh (v ^^^ cg rd.x) rd.x) with
  | some (a,c)=>(⟨4,rd.x,false,rd.n,0,0,0,a,0,c⟩,0)
  | none=>if (dF v (wN rd.x)).isSome=false∨(rd.n=31∧rd.sp=false) then (dC 0,70) else (⟨3,rd.x,false,rd.n,31,0,0,mI v,1,0⟩,0)
def io (x:Ins):Option cE :=
 if x.b=3∧x.rd=31 then some ((⟨#[116,115,116]⟩:ByteArray),[nO x,dL x])
 else if x.b=1∧x.rn=31 then
  let m:=bR ⟨x.rd,x.x,false⟩ (dg x.a &&& cg x.x)
  if m.2=0∧m.1.op=4 then none else some ((⟨#[109,111,118]⟩:ByteArray),[dsO x,dL x])
 else none
def qQ (x:Ins):Int :=
 mI (if x.b=0 then (dg x.a*2 ^ (16*x.c).toNat % 18446744073709551616) ^^^ cg x.x else dg x.a*2 ^ (16*x.c).toNat % 18446744073709551616)
def iH (x:Ins):Option cE :=
 if x.b=3∨(x.a=0∧¬x.c=0)∨(x.b=0∧x.x=false∧x.a=65535) then none else some ((⟨#[109,111,118]⟩:ByteArray),[dO x,aw (qQ x)])
theorem lm (x:Bool):cg x<18446744073709551616:=by cases x<;>decide
end
end Go.Proofs.YtpjlafmhoifkmaaGreat
