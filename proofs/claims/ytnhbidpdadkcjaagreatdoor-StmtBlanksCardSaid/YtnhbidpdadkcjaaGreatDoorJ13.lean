import Derived.Test.YtnhbidpdadkcjaaGreatDoorJ10
import Derived.Lib.Bytealg
import Derived.Test.YtnhbidpdadkcjaaGreatDoorJ11
import Derived.Test.YtnhbidpdadkcjaaGreatDoorChecked
import Derived.Test.YtnhbidpdadkcjaaGreatDoorJ04
import Derived.Lib.Strings
import Derived.Lib.Slices
import Derived.Lib.Walk
import Derived.WalkKit
import Derived.WalkSpells
import Derived.WalkLawsBesides
import Derived.Lib.SlBytesRow
set_option linter.unusedVariables false
set_option linter.unusedSimpArgs false
set_option maxRecDepth 100000
set_option maxHeartbeats 8000000
namespace Go.Proofs.YtnhbidpdadkcjaaGreatDoor
section
open Go.RowKit
def iT (c:UInt8):List UInt8→List (List UInt8)
 | []=>[[]]
 | x::r=>if x==c then []::iT c r else match iT c r with
  | []=>[[x]]
  | p::ps=>(x::p)::ps
theorem ym (c:UInt8):∀ l:List UInt8,(iT c l).length=l.count c+1
 | []=>rfl
 | x::r=>by
  have ih:=ym c r
  rw [iT,List.count_cons]
  split
  ·rw [List.length_cons,ih]
  ·split
   ·rename_i h;rw [h] at ih;simp at ih
   ·rename_i p ps h
    rw [h] at ih
    simpa using ih
theorem sG {c:UInt8}:∀ {l:List UInt8},l.count c=0→iT c l=[l]
 | [],_=>rfl
 | x::r,h=>by
  rw [List.count_cons] at h
  have hx:¬(x==c)=true:=by intro e;rw [if_pos e] at h;omega
  rw [if_neg hx] at h
  rw [iT,if_neg hx,sG (l:=r) (by omega)]
theorem yl {c:UInt8}:∀ {l:List UInt8},0<l.count c→∃ m:Nat,Lib.indexByte l c=m∧m<l.length∧iT c l=l.take m::iT c (l.drop (m+1))∧(l.drop (m+1)).count c+1=l.count c
 | [],h=>by simp at h
 | x::r,h=>by
  by_cases hx:(x==c)=true
  ·refine ⟨0,by simp [Lib.indexByte,hx],by simp,?_,?_⟩
   ·rw [iT,if_pos hx];rfl
   ·rw [List.count_cons,if_pos hx];rfl
  ·rw [List.count_cons,if_neg hx] at h
   obtain ⟨m,h1,h2,h3,h4⟩:=yl (l:=r) (by omega)
   refine ⟨m+1,?_,by simpa using h2,?_,?_⟩
   ·have hm:¬((m:Int) == -1)=true:=by
     rw [beq_iff_eq]
     omega
    rw [Lib.indexByte,if_neg hx,h1,if_neg hm]
    omega
   ·rw [iT,if_neg hx,h3]
    rfl
   ·rw [List.count_cons,if_neg hx]
    simpa using h4
def hdU (p:ByteArray):UInt8:=p.data.toList.headD 0
def dz (s p:ByteArray):List ByteArray:=(iT (hdU p) s.data.toList).map fun l=>⟨l.toArray⟩
theorem pS (s p:ByteArray):(dz s p).length=s.data.toList.count (hdU p)+1:=by
 unfold dz
 rw [List.length_map,ym]
theorem Ki (s p:ByteArray):s.data.toList.count (hdU p)≤s.size:=by
 have:=List.count_le_length (a:=hdU p) (l:=s.data.toList)
 simpa using this
theorem FB {s p:ByteArray} (h:(dz s p).length=1):dz s p=[s]:=by
 rw [pS] at h
 unfold dz
 rw [sG (by omega)]
 rfl
theorem FA {s p:ByteArray} (h:1<(dz s p).length):∃ m:Nat,Lib.indexByte s.data.toList (hdU p)=m∧m<s.size∧dz s p=s.extract 0 m::dz (s.extract (m+1) s.size) p:=by
 rw [pS] at h
 obtain ⟨m,h1,h2,h3,_⟩:=yl (l:=s.data.toList) (c:=hdU p) (by omega)
 refine ⟨m,h1,by simpa using h2,?_⟩
 unfold dz
 rw [h3,List.map_cons]
 congr 1
 ·apply ByteArray.ext
  rw [← Array.toList_inj,ByteArray.data_extract,Array.toList_extract]
  simp
 ·congr 2
  rw [ByteArray.data_extract,Array.toList_extract]
  rw [List.extract_eq_take_drop,List.take_of_length_le]
  simp
end
section
open Go.RowKit
theorem xR {p:ByteArray} (h:p.size=1):p=⟨#[hdU p]⟩:=by
 have h1:p.data.toList.length=1:=by simpa using h
 apply ByteArray.ext
 rw [← Array.toList_inj]
 unfold hdU
 cases hd:p.data.toList with
 | nil=>rw [hd] at h1;cases h1
 | cons x l =>
  cases l with
  | nil=>rfl
  | cons _ _=>rw [hd] at h1;simp at h1
theorem Hl (s:ByteArray) (c:UInt8) (w:World) :
  Calls Tryz.prog 264 #[.string s,.string ⟨#[c]⟩] w fun e w'=>e=.returned (.int .i64 (Lib.countByte s.data.toList c))∧w'=w:=by
 go_enter Tryz.func264,Tryz.ntmps264
 go_wp2
 rw [run_callFunc_extern Tryz.func282 (by kernel_rfl) (by kernel_rfl) (by kernel_rfl) (e:=Extern.BytealgCount.count) (by kernel_rfl),Lib.run_countString]
 simp only [Result.andThen]
 rw [Oper.upon_value]
 go_wp2
 go_ret
 exact ⟨rfl,rfl⟩
theorem oe (s:ByteArray) (c:Int) (w:World) :
  Calls Tryz.prog 89 #[.string s,.int .u8 c] w fun e w'=>e=.returned (.int .i64 (Lib.indexByte s.data.toList c.toNat.toUInt8))∧w'=w:=by
 go_enter Tryz.func89,Tryz.ntmps89
 go_wp2
 rw [run_callFunc_extern Tryz.func142 (by kernel_rfl) (by kernel_rfl) (by kernel_rfl) (e:=Extern.BytealgIndexByte.indexByte) (by kernel_rfl),Lib.run_indexByteString]
 simp only [Result.andThen]
 rw [Oper.upon_value]
 go_wp2
 go_ret
 exact ⟨rfl,rfl⟩
theorem yN (s:ByteArray) (c:UInt8) (w:World) :
  Calls Tryz.prog 190 #[.string s,.string ⟨#[c]⟩] w fun e w'=>e=.returned (.int .i64 (Lib.indexByte s.data.toList c))∧w'=w:=by
 go_enter Tryz.func190,Tryz.ntmps190
 go_wp2_with (go_at_call 89;refine (oe _ _ _).mono ?_;rintro e w' ⟨rfl,rfl⟩)
 ·have h:([c]==s.toList)=true:=by assumption
  go_ret
  refine ⟨?_,rfl⟩
  have e:s.data.toList=[c]:=by rw [← Lib.toList_data];exact (beq_iff_eq.1 h).symm
  rw [e]
  simp [Lib.indexByte]
 ·go_ret
  exact ⟨rfl,rfl⟩
def D5:bi Tryz.prog 264 :=
 Lv _ (fun _ _=>by go_simp) bx bx (fun _ p=>p.size=1) (fun s p=>iv (((dz s p).length:Int)-1)) (fun _ _=>rfl) (fun s p hp M w u v _ hu hv=>by
  have hu':u=.string s:=hu
  have hv':v=.string p:=hv
  subst hu'
  subst hv'
  rw [xR hp]
  refine (Hl s (hdU p) w).mono ?_
  rintro e w' ⟨rfl,rfl⟩
  refine ⟨⟨_,rfl,?_⟩,.refl _ _⟩
  rw [← xR hp,pS]
  show _=_
  congr 1
  unfold Lib.countByte
  omega)
theorem Hn {id:Nat} {h:ah} {args:List AV}:D5.run id h args=bT (cg bx bx (fun _ p=>p.size=1)) (fun x=>.ret (iv (((dz x.1 x.2).length:Int)-1))) h args:=rfl
theorem Hm {id:Nat} {h:ah} {args:List AV}:D5.pan id h args=bU (cg bx bx (fun _ p=>p.size=1)) (fun x=>.ret (iv (((dz x.1 x.2).length:Int)-1))) h args:=rfl
def Rk:bi Tryz.prog 190 :=
 Lv _ (fun _ _=>by go_simp) bx bx (fun _ p=>p.size=1) (fun s p=>iv (Lib.indexByte s.data.toList (hdU p))) (fun _ _=>rfl) (fun s p hp M w u v _ hu hv=>by
  have hu':u=.string s:=hu
  have hv':v=.string p:=hv
  subst hu'
  subst hv'
  have e1:=xR hp
  generalize hdU p=c at *
  subst e1
  refine (yN s c w).mono ?_
  rintro e w' ⟨rfl,rfl⟩
  exact ⟨⟨_,rfl,rfl⟩,.refl _ _⟩)
theorem OY {id:Nat} {h:ah} {args:List AV}:Rk.run id h args=bT (cg bx bx (fun _ p=>p.size=1)) (fun x=>.ret (iv (Lib.indexByte x.1.data.toList (hdU x.2)))) h args:=rfl
theorem OX {id:Nat} {h:ah} {args:List AV}:Rk.pan id h args=bU (cg bx bx (fun _ p=>p.size=1)) (fun x=>.ret (iv (Lib.indexByte x.1.data.toList (hdU x.2)))) h args:=rfl
def xt:bi Tryz.prog 175 :=
 mk2 _ _ _ Tryz.func175 rfl (fun _ _=>by go_simp) (bx) (bx) ((fun _ p=>p.size=1)) ((fun s p=>.ret (iv (Lib.indexByte s.data.toList (hdU p))))) (by rw [Tryz.ntmps175];decide) (fun s p hp=>by
 refine aa (ctx:=[⟨_,Rk⟩]) 4000 ?_
 rw [Tryz.ntmps175,Tryz.results175]
 simp only [Tryz.f175,Option.getD_some,aC]
 simp only [go_sem,OY,OX,hp])
theorem zx {id:Nat} {h:ah} {args:List AV}:(xt).run id h args=bT (cg (bx) (bx) ((fun _ p=>p.size=1))) (fun x=>((fun s p=>.ret (iv (Lib.indexByte s.data.toList (hdU p))))) x.1 x.2) h args:=rfl
theorem zw {id:Nat} {h:ah} {args:List AV}:(xt).pan id h args=bU (cg (bx) (bx) ((fun _ p=>p.size=1))) (fun x=>((fun s p=>.ret (iv (Lib.indexByte s.data.toList (hdU p))))) x.1 x.2) h args:=rfl
end
section
open Go.RowKit
def empS:ByteArray:=⟨#[]⟩
def rA (s:ByteArray):List LV:=[.v (.string s)]
def lz (all:List ByteArray) (i:Nat):List (List LV):=(all.take i).map rA++List.replicate (all.length-i) (rA empS)
theorem qY {all:List ByteArray} {i:Nat} (h:i≤all.length):(lz all i).length=all.length:=by
 unfold lz
 simp
 omega
theorem xe (all:List ByteArray):lz all 0=List.replicate all.length [.v (.string ⟨#[]⟩)]:=rfl
theorem zh (all:List ByteArray):lz all all.length=(all.map dQ.enc).map cG:=by
 unfold lz
 rw [List.take_of_length_le (Nat.le_refl _),Nat.sub_self,List.replicate_zero,List.append_nil,List.map_map]
 rfl
theorem zi (all:List ByteArray) (i:Nat) (g:Nat→Nat):(lz all i).map (fun e=>e.map (·.ren g))=lz all i:=by
 unfold lz
 rw [List.map_append,List.map_map,List.map_replicate]
 rfl
theorem xd {all:List ByteArray} {i:Nat} (h:i<all.length):(lz all i)[i]? = some [.v (.string ⟨#[]⟩)]:=by
 unfold lz
 rw [List.getElem?_append_right (by simp;omega),List.getElem?_replicate,if_pos (by simp;omega)]
 rfl
theorem uo {all:List ByteArray} {i:Nat} {x:ByteArray} (hx:all[i]? = some x):(lz all i).set i (rA x)=lz all (i+1):=by
 have hi:i<all.length:=(List.getElem?_eq_some_iff.1 hx).1
 unfold lz
 rw [show all.length-i=(all.length-(i+1))+1 by omega,List.replicate_succ,List.set_append_right _ _ (by simp;omega)]
 have e:i-((all.take i).map rA).length=0:=by simp;omega
 rw [e,List.set_cons_zero,List.take_add_one,hx]
 simp
theorem Cm (s p:ByteArray) (hp:p.size=1) (hs:s.size≤1099511627776):SW Tryz.prog ⟨none,0⟩ Tryz.f246.ntmps (Tryz.f246.body.getD .skip) ⟨0,aC 0 [bx.enc s,bx.enc p,(bq .i64).enc 0,(bq .i64).enc (-1)],[]⟩ (es Tryz.prog Tryz.f246.results.toList (.ret (.s (.l (.d (.sd 1 ((dz s p).map dQ.enc))))))):=by
 refine aa (ctx:=[⟨_,D5⟩,⟨_,xt⟩]) 4000 ?_
 rw [Tryz.ntmps246,Tryz.results246]
 simp only [Tryz.f246,Option.getD_some,aC]
 have hpe:¬p=⟨#[]⟩:=by rintro rfl;cases hp
 obtain ⟨all,hall⟩:∃ all,dz s p=all:=⟨_,rfl⟩
 have hlen:all.length=s.data.toList.count (hdU p)+1:=by rw [← hall,pS]
 have hcnt:=Ki s p
 have h1:all.length≤s.size+1:=by omega
 have e1:IntKind.i64.wrap ((all.length:Int)-1+1)=all.length:=by rw [IntKind.wrap_i64];omega
 have e2:IntKind.i64.wrap ((s.size:Int)+1)=s.size+1:=by rw [IntKind.wrap_i64];omega
 have e3:IntKind.i64.wrap ((all.length:Int)-1)=all.length-1:=by rw [IntKind.wrap_i64];omega
 have hmin:¬((s.size:Int)+1<all.length):=by omega
 have hm:maxLen=9223372036854775807:=rfl
 simp only [go_sem,hpe,Hn,Hm,hp,hall,e1,e2,e3,hmin,Int.toNat_natCast]
 refine ⟨by rw [hm];omega,?_⟩
 refine cW (ι:=Nat×ByteArray) (fun x=>x.1<all.length∧x.2.size≤s.size∧dz x.2 p=all.drop x.1) (fun x=>⟨1,[(0,sv x.2),(1,sv p),(2,iv 0),(3,iv ((all.length:Int)-1)),(9,.s (.l (.sl 0 0 all.length))),(10,iv x.1)],[(0,some ⟨true,9,1,lz all x.1⟩)]⟩) (fun x=>all.length-x.1) (0,s) ⟨by simp only;omega,Nat.le_refl _,hall⟩ (Wk.renL [304] (by simp) (by simp) (by simp) rfl (by simp [hget,Blk.ren,xe,LV.ren])) ?_
 rintro ⟨i,r⟩ ⟨hi,hrs,hr⟩
 simp only at hi hrs hr
 refine aa (ctx:=[⟨_,xt⟩]) 4000 ?_
 have hl:=congrArg List.length hr
 rw [List.length_drop] at hl
 by_cases hlt:i+1<all.length
 ·obtain ⟨m,m1,m2,m3⟩:=FA (s:=r) (p:=p) (by omega)
  rw [m3] at hr
  have hltI:(i:Int)<(all.length:Int)-1:=by omega
  have hat:all[i]? = some (r.extract 0 m):=by
   have:=congrArg (·[0]?) hr
   simpa using this.symm
  have hnext:dz (r.extract (m+1) r.size) p=all.drop (i+1):=by
   have:=congrArg List.tail hr
   simpa using this
  have f1:¬(m:Int)<0:=by omega
  have f2:IntKind.i64.wrap ((m:Int)+0)=m:=by rw [IntKind.wrap_i64];omega
  have f3:IntKind.i64.wrap ((m:Int)+1)=((m+1:Nat):Int):=by rw [IntKind.wrap_i64];omega
  have f4:IntKind.i64.wrap ((i:Int)+1)=((i+1:Nat):Int):=by rw [IntKind.wrap_i64];omega
  simp only [go_sem,hltI,zx,zw,hp,m1,f1,f2,f3,f4,qY (Nat.le_of_lt hi),xd hi,Int.toNat_zero]
  refine ⟨by omega,by omega,by omega,(i+1,r.extract (m+1) r.size),⟨by simp only;omega,?_,hnext⟩,by simp only;omega,Wk.renL [0] (by simp) (by simp) (by simp) rfl ?_⟩
  ·simp only [ByteArray.size_extract]
   omega
  ·have:=uo hat
   unfold rA at this
   simp [hget,Blk.ren,this,zi]
 ·have hil:i+1=all.length:=by omega
  have hr1:=FB (s:=r) (p:=p) (by omega)
  rw [hr1] at hr
  have hat:all[i]? = some r:=by
   have:=congrArg (·[0]?) hr
   simpa using this.symm
  have hltI:¬(i:Int)<(all.length:Int)-1:=by omega
  have f4:IntKind.i64.wrap ((i:Int)+1)=all.length:=by rw [IntKind.wrap_i64];omega
  have hset:=uo hat
  unfold rA at hset
  rw [hil,zh] at hset
  have hiI:(i:Int)<all.length:=by omega
  simp only [go_sem,hltI,qY (Nat.le_of_lt hi),xd hi,f4,hset,hiI,Int.toNat_zero,Int.toNat_natCast,Nat.sub_zero,List.take_length,List.length_map]
  trace_state
end
section
open Go.RowKit
def cS:ByteArray:=⟨#[99]⟩
def dW:List ByteArray:=[s1,emp,cS,cS,emp]
def iO:List Int:=[3,7,15,15,7]
def eH:List Nat:=[1,3,4,4,3]
def M4 (i:Nat) (d:Int):Int:=if i=0 then d-2 else d
def dj (lim:Nat) (i:Nat) (n:Int) (w:ByteArray):Option Int :=
 if (nB w (dW.getD i emp)).2=true∧(iE lim (nB w (dW.getD i emp)).1 (iO.getD i 0)).2=true∧0≤M4 i (iE lim (nB w (dW.getD i emp)).1 (iO.getD i 0)).1 then
  some (n*2 ^ eH.getD i 0+M4 i (iE lim (nB w (dW.getD i emp)).1 (iO.getD i 0)).1)
 else none
def qJ (lim:Nat) (l:List ByteArray):Nat→Option Int
 | 0=>some 0
 | i+1=>match qJ lim l i,l[i]? with
  | some n,some w=>dj lim i n w
  | _,_=>none
def uR (lim:Nat) (s:ByteArray):Option Int:=if (dz s us).length=5 then qJ lim (dz s us) 5 else none
theorem iJ {lim:Nat} {s:ByteArray} {most:Int} (h:(iE lim s most).2=true):0≤(iE lim s most).1∧(iE lim s most).1≤most:=by
 unfold iE at h ⊢
 split at h
 ·cases h
 ·rename_i hc
  rw [if_neg hc]
  split at h
  ·rename_i n hn
   simp only [decide_eq_true_eq] at h
   exact ⟨(sh hn).1,h⟩
  ·cases h
theorem yw {lim i:Nat} (hi:i<5) {n:Int} {w:ByteArray} {m:Int} (h:dj lim i n w=some m):∃ v,M4 i (iE lim (nB w (dW.getD i emp)).1 (iO.getD i 0)).1=v∧0≤v∧v<2 ^ eH.getD i 0∧m=n*2 ^ eH.getD i 0+v:=by
 unfold dj at h
 split at h
 case isFalse=>cases h
 rename_i hc
 injection h with h
 refine ⟨_,rfl,hc.2.2,?_,h.symm⟩
 have:=iJ hc.2.1
 clear h hc
 generalize iE lim (nB w (dW.getD i emp)).1 (iO.getD i 0)=d at *
 have hi':i=0∨i=1∨i=2∨i=3∨i=4:=by omega
 rcases hi' with rfl | rfl | rfl | rfl | rfl<;>simp only [M4,iO,eH,List.getD_cons_zero,List.getD_cons_succ] at this ⊢<;>simp<;>omega
theorem yv {lim:Nat} {l:List ByteArray}:∀ {i:Nat} {n:Int},i≤5→qJ lim l i=some n→0≤n∧n<2 ^ (4*i+1)
 | 0,n,_,h=>by injection h with h;subst h;decide
 | i+1,n,hi,h=>by
  rw [qJ] at h
  split at h
  case h_2=>cases h
  rename_i m w hm hw
  obtain ⟨h0,h1⟩:=yv (i:=i) (by omega) hm
  obtain ⟨v,_,v0,v1,rfl⟩:=yw (by omega) h
  have hi':i=0∨i=1∨i=2∨i=3∨i=4:=by omega
  rcases hi' with rfl | rfl | rfl | rfl | rfl<;>simp only [eH,List.getD_cons_zero,List.getD_cons_succ] at v1 h1 ⊢<;>simp at v1 h1 ⊢<;>omega
theorem Jt {lim:Nat} {l:List ByteArray} {i:Nat} (h:qJ lim l i=none):∀ {j},i≤j→qJ lim l j=none:=by
 intro j hj
 induction j with
 | zero =>
  obtain rfl:i=0:=by omega
  exact h
 | succ j ih =>
  by_cases e:i=j+1
  ·rw [← e];exact h
  ·rw [qJ,ih (by omega)]
end
section
open Go.RowKit
theorem mixed:Tryz.prog.follows .mixedOrders=true:=by kernel_rfl
def gR (lim:Nat) (s:ByteArray) (most:Int):AV:=.tup [.l (.v (.int .i64 (iE lim s most).1)),.l (.v (.bool (iE lim s most).2))]
theorem Hw (s:ByteArray) (most:Int):SW Tryz.prog ⟨none,0⟩ Tryz.f226.ntmps (Tryz.f226.body.getD .skip) ⟨0,aC 0 [bx.enc s,(bq .i64).enc most],[]⟩ (es Tryz.prog Tryz.f226.results.toList (.ret (gR 3 s most))):=by
 refine aa (ctx:=[]) 4000 ?_
 rw [Tryz.ntmps226,Tryz.results226]
 simp only [Tryz.f226,Option.getD_some,aC]
 by_cases h1:s=emp
 ·simp only [go_sem,h1,aR,gR,iE]
 ·have hne:¬s=emp:=h1
  by_cases h2:3<s.size
  ·have h2':(3:Int)<s.size:=by omega
   simp only [go_sem,hne,aR,h2',h2,gR,iE]
  ·have h2':¬(3:Int)<s.size:=by omega
   have hpos:0<s.size:=Dk h1
   have hp':(0:Int)<s.size:=by omega
   by_cases h4:1<s.size∧aj s 0=48
   ·have h3':(1:Int)<s.size:=by omega
    simp only [go_sem,hne,aR,h2,h2',h3',h4.1,h4.2,hp',gR,iE]
   ·have h3:=h4
    by_cases h5:1<s.size
    ·have h3':(1:Int)<s.size:=by omega
     have h6:¬aj s 0=48:=fun h=>h4 ⟨h5,h⟩
     simp only [go_sem,hne,aR,h2',h3',h6,hp']
     clear h6 h3'
     refine cW (ι:=Nat×Int) (fun p=>p.1≤s.size∧nZ s p.1=some p.2) (fun p=>⟨0,[(0,sv s),(1,iv most),(26,iv s.size),(27,iv p.1),(6,iv p.2)],[]⟩) (fun p=>s.size-p.1) (0,0) ⟨Nat.zero_le _,rfl⟩ (Wk.renL [] (by simp) (by simp) (by simp) rfl rfl) ?_
     rintro ⟨i,n⟩ ⟨hi,hn⟩
     refine aa (ctx:=[]) 4000 ?_
     simp only at hi hn
     by_cases hlt:i<s.size
     ·have hltI:(i:Int)<s.size:=by omega
      have hb:=F8 hn (k:=2) (by omega)
      have hr:=dV s i
      by_cases ha:aj s i<48
      ·have hd:=tg (lim:=3) (most:=most) hlt hn (.inl ha)
       simp only [go_sem,hltI,ha,gR,hd]
      ·by_cases hc:57<aj s i
       ·have hd:=tg (lim:=3) (most:=most) hlt hn (.inr hc)
        simp only [go_sem,hltI,ha,hc,gR,hd]
       ·have hn':nZ s (i+1)=some (10*n+(aj s i-48)):=by rw [nZ,hn];simp [ha,hc]
        have e1:IntKind.u8.wrap (aj s i-48)=aj s i-48:=by rw [IntKind.wrap_u8];omega
        have e2:IntKind.i64.wrap (10*n)=10*n:=by rw [IntKind.wrap_i64];omega
        have e3:IntKind.i64.wrap (10*n+(aj s i-48))=10*n+(aj s i-48):=by rw [IntKind.wrap_i64];omega
        have e4:IntKind.i64.wrap ((i:Int)+1)=((i+1:Nat):Int):=by rw [IntKind.wrap_i64];omega
        have e5:IntKind.i64.wrap (aj s i-48)=aj s i-48:=by rw [IntKind.wrap_i64];omega
        simp only [go_sem,hltI,ha,hc,e1,e2,e3,e4,e5]
        exact ⟨(i+1,_),⟨hlt,hn'⟩,by omega,Wk.renL [] (by simp) (by simp) (by simp) rfl rfl⟩
     ·obtain rfl:i=s.size:=by omega
      have hI:¬(s.size:Int)<s.size:=by omega
      simp only [go_sem,hI,gR,iE,hne,h2,h3,hn]
    ·have h3':¬(1:Int)<s.size:=by omega
     simp only [go_sem,hne,aR,h2',h3',hp']
     refine cW (ι:=Nat×Int) (fun p=>p.1≤s.size∧nZ s p.1=some p.2) (fun p=>⟨0,[(0,sv s),(1,iv most),(26,iv s.size),(27,iv p.1),(6,iv p.2)],[]⟩) (fun p=>s.size-p.1) (0,0) ⟨Nat.zero_le _,rfl⟩ (Wk.renL [] (by simp) (by simp) (by simp) rfl rfl) ?_
     rintro ⟨i,n⟩ ⟨hi,hn⟩
     refine aa (ctx:=[]) 4000 ?_
     simp only at hi hn
     by_cases hlt:i<s.size
     ·have hltI:(i:Int)<s.size:=by omega
      have hb:=F8 hn (k:=2) (by omega)
      have hr:=dV s i
      by_cases ha:aj s i<48
      ·have hd:=tg (lim:=3) (most:=most) hlt hn (.inl ha)
       simp only [go_sem,hltI,ha,gR,hd]
      ·by_cases hc:57<aj s i
       ·have hd:=tg (lim:=3) (most:=most) hlt hn (.inr hc)
        simp only [go_sem,hltI,ha,hc,gR,hd]
       ·have hn':nZ s (i+1)=some (10*n+(aj s i-48)):=by rw [nZ,hn];simp [ha,hc]
        have e1:IntKind.u8.wrap (aj s i-48)=aj s i-48:=by rw [IntKind.wrap_u8];omega
        have e2:IntKind.i64.wrap (10*n)=10*n:=by rw [IntKind.wrap_i64];omega
        have e3:IntKind.i64.wrap (10*n+(aj s i-48))=10*n+(aj s i-48):=by rw [IntKind.wrap_i64];omega
        have e4:IntKind.i64.wrap ((i:Int)+1)=((i+1:Nat):Int):=by rw [IntKind.wrap_i64];omega
        have e5:IntKind.i64.wrap (aj s i-48)=aj s i-48:=by rw [IntKind.wrap_i64];omega
        simp only [go_sem,hltI,ha,hc,e1,e2,e3,e4,e5]
        exact ⟨(i+1,_),⟨hlt,hn'⟩,by omega,Wk.renL [] (by simp) (by simp) (by simp) rfl rfl⟩
     ·obtain rfl:i=s.size:=by omega
      have hI:¬(s.size:Int)<s.size:=by omega
      simp only [go_sem,hI,gR,iE,hne,h2,h3,hn]
end
section
open Go.RowKit
theorem D3 {P:Program} {src dst e:TypeId} (h1:P.underlying src=some (.slice e)) (h2:P.underlying e=some (.int .u8)) (h3:P.underlying dst=some .string) {w:World} {b off:Nat} (zs:List Int) (hr:∀ z∈zs,0≤z∧z≤255) (hc:∀ (i:Nat) (z:Int),zs[i]? = some z→w.cell? ⟨b,off+i,none⟩=some (.int .u8 z)) {m:Nat} (hm:m=zs.length) (cap:Nat) :
  (convert src dst (.slice (some ⟨b,off,none⟩) m cap)).run P w=.ok (.string (bu zs)) w:=by
 have hs:(bu zs).size=zs.length:=jf zs
 rw [hm,← hs]
 refine Lib.run_convert_whole _ _ e _ h1 h2 h3 _ _ _ (fun i hi=>?_) cap
 have hi':i<zs.length:=by rw [hs] at hi;exact hi
 have:=hr _ (List.getElem_mem hi')
 rw [hc i zs[i] (List.getElem?_eq_getElem hi')]
 have e1:(bu zs)[i]=UInt8.ofNat zs[i].toNat:=by
  change (bu zs).data[i]'(by simpa [bu] using hi')=_
  simp [bu]
 rw [e1]
 simp
 omega
theorem Na (n:Int) (w:World) (h:0≤n∧n<1000) :
  Calls Tryz.prog 216 #[.int .i64 n] w fun e w'=>e=.returned (.string (eT n))∧Below w.heap.size w w':=by
 obtain ⟨h0,h1⟩:=h
 have d1:n.tdiv 100=n / 100:=Int.tdiv_eq_ediv_of_nonneg h0
 have d2:n.tdiv 10=n / 10:=Int.tdiv_eq_ediv_of_nonneg h0
 have d3:n.tmod 10=n % 10:=Int.tmod_eq_emod_of_nonneg h0
 have d4:(n / 10).tmod 10=n / 10 % 10:=Int.tmod_eq_emod_of_nonneg (by omega)
 have HC:=Lib.hid fun (zs:List Int) (o:Obj) (off m cap:Nat) (hr:∀ z∈zs,0≤z∧z≤255) (hc:∀ (i:Nat) (z:Int),zs[i]? = some z→(w.alloc o).cell? ⟨w.heap.size,off+i,none⟩=some (.int .u8 z)) (hm:m=zs.length)=>D3 (P:=Tryz.prog) Tryz.underlying39 Tryz.underlying5 Tryz.underlying9 (w:=w.alloc o) (b:=w.heap.size) (off:=off) zs hr hc hm cap
 have hcell:∀ (a b c:Value) (t:TypeId) (i:Nat) (v:Value),[a,b,c][i]? = some v→(w.alloc (.cells #[a,b,c] t)).cell? ⟨w.heap.size,i,none⟩=some v:=by
  intro a b c t i v hv
  have hb:(w.alloc (.cells #[a,b,c] t)).heap[w.heap.size]? = some (.cells #[a,b,c] t):=heap_alloc_new w _
  rw [cell_of_row _ _ _ _ _ _ hb]
  simpa using hv
 have HCC:=Lib.hid hcell
 clear hcell
 go_enter Tryz.func216,Tryz.ntmps216
 go_wp2_with fail
 ·have h2:n<10:=by assumption
  have ht:eT n=bu [48+n]:=by rw [eT,if_pos h2]
  rw [HC.out [48+n] _ 2 1 1 (by simp;omega) (fun i z hz=>HCC.out _ _ _ _ _ _ (by
   cases i with
   | zero=>simp at hz;subst hz;simp;omega
   | succ i=>simp at hz)) rfl]
  go_wp2_with fail
  go_ret
  rw [ht]
  exact ⟨rfl,(by ((repeat (first | with_reducible refine Below.drew ?_ | (with_reducible refine Below.alloc ?_ ?_ _;rotate_left;(focus (first | (simp;done) | (simp;omega) | omega))) | (with_reducible refine Below.setCell ?_ ?_ _;rotate_left;(focus (first | (simp;done) | (simp;omega) | omega)))));(first | with_reducible exact Below.refl _ _ | with_reducible assumption)))⟩
 ·have h2:10≤n:=by assumption
  have h3:n<100:=by assumption
  have ht:eT n=bu [48+n / 10,48+n % 10]:=by rw [eT,if_neg (by omega),if_pos h3]
  rw [HC.out [48+n / 10,48+n % 10] _ 1 2 2 (by simp;omega) (fun i z hz=>HCC.out _ _ _ _ _ _ (by
   match i with
   | 0=>simp at hz;subst hz;simp;omega
   | 1=>simp at hz;subst hz;simp
   | i+2=>simp at hz)) rfl]
  go_wp2_with fail
  go_ret
  rw [ht]
  exact ⟨rfl,(by ((repeat (first | with_reducible refine Below.drew ?_ | (with_reducible refine Below.alloc ?_ ?_ _;rotate_left;(focus (first | (simp;done) | (simp;omega) | omega))) | (with_reducible refine Below.setCell ?_ ?_ _;rotate_left;(focus (first | (simp;done) | (simp;omega) | omega)))));(first | with_reducible exact Below.refl _ _ | with_reducible assumption)))⟩
 ·have h2:100≤n:=by assumption
  have ht:eT n=bu [48+n / 100,48+n / 10 % 10,48+n % 10]:=by rw [eT,if_neg (by omega),if_neg (by omega)]
  rw [HC.out [48+n / 100,48+n / 10 % 10,48+n % 10] _ 0 3 3 (by simp;omega) (fun i z hz=>HCC.out _ _ _ _ _ _ (by
   match i with
   | 0=>simp at hz;subst hz;simp
   | 1=>simp at hz;subst hz;simp
   | 2=>simp at hz;subst hz;simp
   | i+3=>simp at hz)) rfl]
  go_wp2_with fail
  go_ret
  rw [ht]
  exact ⟨rfl,(by ((repeat (first | with_reducible refine Below.drew ?_ | (with_reducible refine Below.alloc ?_ ?_ _;rotate_left;(focus (first | (simp;done) | (simp;omega) | omega))) | (with_reducible refine Below.setCell ?_ ?_ _;rotate_left;(focus (first | (simp;done) | (simp;omega) | omega)))));(first | with_reducible exact Below.refl _ _ | with_reducible assumption)))⟩
end
end Go.Proofs.YtnhbidpdadkcjaaGreatDoor
