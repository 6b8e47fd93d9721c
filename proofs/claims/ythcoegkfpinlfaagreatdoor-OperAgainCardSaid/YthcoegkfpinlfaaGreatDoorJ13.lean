import Derived.Test.YthcoegkfpinlfaaGreatDoorJ10
import Derived.Lib.Bytealg
import Derived.Test.YthcoegkfpinlfaaGreatDoorJ11
import Derived.Test.YthcoegkfpinlfaaGreatDoorChecked
import Derived.Test.YthcoegkfpinlfaaGreatDoorJ04
import Derived.Lib.Strings
import Derived.Lib.Slices
import Derived.Lib.Walk
set_option linter.unusedVariables false
set_option linter.unusedSimpArgs false
set_option maxRecDepth 100000
set_option maxHeartbeats 8000000
namespace Go.Proofs.YthcoegkfpinlfaaGreatDoor
section
open Go.RowKit
def iu (c:UInt8):List UInt8→List (List UInt8)
 | []=>[[]]
 | x::r=>if x==c then []::iu c r else match iu c r with
  | []=>[[x]]
  | p::ps=>(x::p)::ps
theorem wR (c:UInt8):∀ l:List UInt8,(iu c l).length=l.count c+1
 | []=>rfl
 | x::r=>by
  have ih:=wR c r
  rw [iu,List.count_cons]
  split
  ·rw [List.length_cons,ih]
  ·split
   ·rename_i h;rw [h] at ih;simp at ih
   ·rename_i p ps h
    rw [h] at ih
    simpa using ih
theorem ri {c:UInt8}:∀ {l:List UInt8},l.count c=0→iu c l=[l]
 | [],_=>rfl
 | x::r,h=>by
  rw [List.count_cons] at h
  have hx:¬(x==c)=true:=by intro e;rw [if_pos e] at h;omega
  rw [if_neg hx] at h
  rw [iu,if_neg hx,ri (l:=r) (by omega)]
theorem wQ {c:UInt8}:∀ {l:List UInt8},0<l.count c→∃ m:Nat,Lib.indexByte l c=m∧m<l.length∧iu c l=l.take m::iu c (l.drop (m+1))∧(l.drop (m+1)).count c+1=l.count c
 | [],h=>by simp at h
 | x::r,h=>by
  by_cases hx:(x==c)=true
  ·refine ⟨0,by simp [Lib.indexByte,hx],by simp,?_,?_⟩
   ·rw [iu,if_pos hx];rfl
   ·rw [List.count_cons,if_pos hx];rfl
  ·rw [List.count_cons,if_neg hx] at h
   obtain ⟨m,h1,h2,h3,h4⟩:=wQ (l:=r) (by omega)
   refine ⟨m+1,?_,by simpa using h2,?_,?_⟩
   ·have hm:¬((m:Int) == -1)=true:=by
     rw [beq_iff_eq]
     omega
    rw [Lib.indexByte,if_neg hx,h1,if_neg hm]
    omega
   ·rw [iu,if_neg hx,h3]
    rfl
   ·rw [List.count_cons,if_neg hx]
    simpa using h4
def hdU (p:ByteArray):UInt8:=p.data.toList.headD 0
def cq (s p:ByteArray):List ByteArray:=(iu (hdU p) s.data.toList).map fun l=>⟨l.toArray⟩
theorem oR (s p:ByteArray):(cq s p).length=s.data.toList.count (hdU p)+1:=by
 unfold cq
 rw [List.length_map,wR]
theorem JK (s p:ByteArray):s.data.toList.count (hdU p)≤s.size:=by
 have:=List.count_le_length (a:=hdU p) (l:=s.data.toList)
 simpa using this
theorem E0 {s p:ByteArray} (h:(cq s p).length=1):cq s p=[s]:=by
 rw [oR] at h
 unfold cq
 rw [ri (by omega)]
 rfl
theorem EZ {s p:ByteArray} (h:1<(cq s p).length):∃ m:Nat,Lib.indexByte s.data.toList (hdU p)=m∧m<s.size∧cq s p=s.extract 0 m::cq (s.extract (m+1) s.size) p:=by
 rw [oR] at h
 obtain ⟨m,h1,h2,h3,_⟩:=wQ (l:=s.data.toList) (c:=hdU p) (by omega)
 refine ⟨m,h1,by simpa using h2,?_⟩
 unfold cq
 rw [h3,List.map_cons]
 congr 1
 ·apply ByteArray.ext
  rw [← Array.toList_inj,ByteArray.data_extract,Array.toList_extract]
  simp
 ·congr 2
  rw [ByteArray.data_extract,Array.toList_extract]
  rw [List.extract_eq_take_drop,List.take_of_length_le]
  simp
end
section
open Go.RowKit
theorem v8 {p:ByteArray} (h:p.size=1):p=⟨#[hdU p]⟩:=by
 have h1:p.data.toList.length=1:=by simpa using h
 apply ByteArray.ext
 rw [← Array.toList_inj]
 unfold hdU
 cases hd:p.data.toList with
 | nil=>rw [hd] at h1;cases h1
 | cons x l =>
  cases l with
  | nil=>rfl
  | cons _ _=>rw [hd] at h1;simp at h1
theorem G0 (s:ByteArray) (c:UInt8) (w:World) :
  Calls Tryz.prog 164 #[.string s,.string ⟨#[c]⟩] w fun e w'=>e=.returned (.int .i64 (Lib.countByte s.data.toList c))∧w'=w:=by
 go_enter Tryz.func164,Tryz.ntmps164
 go_wp2
 rw [run_callFunc_extern Tryz.func180 (by kernel_rfl) (by kernel_rfl) (by kernel_rfl) (e:=Extern.BytealgCount.count) (by kernel_rfl),Lib.run_countString]
 simp only [Result.andThen]
 rw [Oper.upon_value]
 go_wp2
 go_ret
 exact ⟨rfl,rfl⟩
theorem xi (s:ByteArray) (c:Int) (w:World) :
  Calls Tryz.prog 134 #[.string s,.int .u8 c] w fun e w'=>e=.returned (.int .i64 (Lib.indexByte s.data.toList c.toNat.toUInt8))∧w'=w:=by
 go_enter Tryz.func134,Tryz.ntmps134
 go_wp2
 rw [run_callFunc_extern Tryz.func156 (by kernel_rfl) (by kernel_rfl) (by kernel_rfl) (e:=Extern.BytealgIndexByte.indexByte) (by kernel_rfl),Lib.run_indexByteString]
 simp only [Result.andThen]
 rw [Oper.upon_value]
 go_wp2
 go_ret
 exact ⟨rfl,rfl⟩
theorem xj (s:ByteArray) (c:UInt8) (w:World) :
  Calls Tryz.prog 99 #[.string s,.string ⟨#[c]⟩] w fun e w'=>e=.returned (.int .i64 (Lib.indexByte s.data.toList c))∧w'=w:=by
 go_enter Tryz.func99,Tryz.ntmps99
 go_wp2_with (go_at_call 134;refine (xi _ _ _).mono ?_;rintro e w' ⟨rfl,rfl⟩)
 ·have h:([c]==s.toList)=true:=by assumption
  go_ret
  refine ⟨?_,rfl⟩
  have e:s.data.toList=[c]:=by rw [← Lib.toList_data];exact (beq_iff_eq.1 h).symm
  rw [e]
  simp [Lib.indexByte]
 ·go_ret
  exact ⟨rfl,rfl⟩
def DA:bq Tryz.prog 164 :=
 PN _ (fun _ _=>by go_simp) bh bh (fun _ p=>p.size=1) (fun s p=>iv (((cq s p).length:Int)-1)) (fun _ _=>rfl) (fun s p hp M w u v _ hu hv=>by
  have hu':u=.string s:=hu
  have hv':v=.string p:=hv
  subst hu'
  subst hv'
  rw [v8 hp]
  refine (G0 s (hdU p) w).mono ?_
  rintro e w' ⟨rfl,rfl⟩
  refine ⟨⟨_,rfl,?_⟩,.refl _ _⟩
  rw [← v8 hp,oR]
  show _=_
  congr 1
  unfold Lib.countByte
  omega)
theorem G3 {id:Nat} {h:ag} {args:List AV}:DA.run id h args=bV (cA bh bh (fun _ p=>p.size=1)) (fun x=>.ret (iv (((cq x.1 x.2).length:Int)-1))) h args:=rfl
theorem G2 {id:Nat} {h:ag} {args:List AV}:DA.pan id h args=ca (cA bh bh (fun _ p=>p.size=1)) (fun x=>.ret (iv (((cq x.1 x.2).length:Int)-1))) h args:=rfl
def PJ:bq Tryz.prog 99 :=
 PN _ (fun _ _=>by go_simp) bh bh (fun _ p=>p.size=1) (fun s p=>iv (Lib.indexByte s.data.toList (hdU p))) (fun _ _=>rfl) (fun s p hp M w u v _ hu hv=>by
  have hu':u=.string s:=hu
  have hv':v=.string p:=hv
  subst hu'
  subst hv'
  have e1:=v8 hp
  generalize hdU p=c at *
  subst e1
  refine (xj s c w).mono ?_
  rintro e w' ⟨rfl,rfl⟩
  exact ⟨⟨_,rfl,rfl⟩,.refl _ _⟩)
theorem Nz {id:Nat} {h:ag} {args:List AV}:PJ.run id h args=bV (cA bh bh (fun _ p=>p.size=1)) (fun x=>.ret (iv (Lib.indexByte x.1.data.toList (hdU x.2)))) h args:=rfl
theorem Ny {id:Nat} {h:ag} {args:List AV}:PJ.pan id h args=ca (cA bh bh (fun _ p=>p.size=1)) (fun x=>.ret (iv (Lib.indexByte x.1.data.toList (hdU x.2)))) h args:=rfl
def vH:bq Tryz.prog 56 :=
 mk2 _ _ _ Tryz.func56 rfl (fun _ _=>by go_simp) (bh) (bh) ((fun _ p=>p.size=1)) ((fun s p=>.ret (iv (Lib.indexByte s.data.toList (hdU p))))) (by rw [Tryz.ntmps56];decide) (fun s p hp=>by
 refine ab (ctx:=[⟨_,PJ⟩]) 4000 ?_
 rw [Tryz.ntmps56,Tryz.results56]
 simp only [Tryz.f56,Option.getD_some,aw]
 simp only [go_sem,Nz,Ny,hp])
theorem x8 {id:Nat} {h:ag} {args:List AV}:(vH).run id h args=bV (cA (bh) (bh) ((fun _ p=>p.size=1))) (fun x=>((fun s p=>.ret (iv (Lib.indexByte s.data.toList (hdU p))))) x.1 x.2) h args:=rfl
theorem x7 {id:Nat} {h:ag} {args:List AV}:(vH).pan id h args=ca (cA (bh) (bh) ((fun _ p=>p.size=1))) (fun x=>((fun s p=>.ret (iv (Lib.indexByte s.data.toList (hdU p))))) x.1 x.2) h args:=rfl
end
section
open Go.RowKit
def empS:ByteArray:=⟨#[]⟩
def rg (s:ByteArray):List LV:=[.v (.string s)]
def mw (all:List ByteArray) (i:Nat):List (List LV):=(all.take i).map rg++List.replicate (all.length-i) (rg empS)
theorem xU {all:List ByteArray} {i:Nat} (h:i≤all.length):(mw all i).length=all.length:=by
 unfold mw
 simp
 omega
theorem DL (all:List ByteArray):mw all 0=List.replicate all.length [.v (.string ⟨#[]⟩)]:=rfl
theorem Hh (all:List ByteArray):mw all all.length=(all.map um.enc).map dj:=by
 unfold mw
 rw [List.take_of_length_le (Nat.le_refl _),Nat.sub_self,List.replicate_zero,List.append_nil,List.map_map]
 rfl
theorem Hj (all:List ByteArray) (i:Nat) (g:Nat→Nat):(mw all i).map (fun e=>e.map (·.ren g))=mw all i:=by
 unfold mw
 rw [List.map_append,List.map_map,List.map_replicate]
 rfl
theorem Be {all:List ByteArray} {i:Nat} (h:i<all.length):(mw all i)[i]? = some [.v (.string ⟨#[]⟩)]:=by
 unfold mw
 rw [List.getElem?_append_right (by simp;omega),List.getElem?_replicate,if_pos (by simp;omega)]
 rfl
theorem xV {all:List ByteArray} {i:Nat} {x:ByteArray} (hx:all[i]? = some x):(mw all i).set i (rg x)=mw all (i+1):=by
 have hi:i<all.length:=(List.getElem?_eq_some_iff.1 hx).1
 unfold mw
 rw [show all.length-i=(all.length-(i+1))+1 by omega,List.replicate_succ,List.set_append_right _ _ (by simp;omega)]
 have e:i-((all.take i).map rg).length=0:=by simp;omega
 rw [e,List.set_cons_zero,List.take_add_one,hx]
 simp
theorem Bo (s p:ByteArray) (hp:p.size=1) (hs:s.size≤1099511627776):SW Tryz.prog ⟨none,0⟩ Tryz.f148.ntmps (Tryz.f148.body.getD .skip) ⟨0,aw 0 [bh.enc s,bh.enc p,(bA .i64).enc 0,(bA .i64).enc (-1)],[]⟩ (eK Tryz.prog Tryz.f148.results.toList (.ret (.s (.l (.d (.sd 1 ((cq s p).map um.enc))))))):=by
 refine ab (ctx:=[⟨_,DA⟩,⟨_,vH⟩]) 4000 ?_
 rw [Tryz.ntmps148,Tryz.results148]
 simp only [Tryz.f148,Option.getD_some,aw]
 have hpe:¬p=⟨#[]⟩:=by rintro rfl;cases hp
 obtain ⟨all,hall⟩:∃ all,cq s p=all:=⟨_,rfl⟩
 have hlen:all.length=s.data.toList.count (hdU p)+1:=by rw [← hall,oR]
 have hcnt:=JK s p
 have h1:all.length≤s.size+1:=by omega
 have e1:IntKind.i64.wrap ((all.length:Int)-1+1)=all.length:=by rw [IntKind.wrap_i64];omega
 have e2:IntKind.i64.wrap ((s.size:Int)+1)=s.size+1:=by rw [IntKind.wrap_i64];omega
 have e3:IntKind.i64.wrap ((all.length:Int)-1)=all.length-1:=by rw [IntKind.wrap_i64];omega
 have hmin:¬((s.size:Int)+1<all.length):=by omega
 have hm:maxLen=9223372036854775807:=rfl
 simp only [go_sem,hpe,G3,G2,hp,hall,e1,e2,e3,hmin,Int.toNat_natCast]
 refine ⟨by rw [hm];omega,?_⟩
 refine dG (ι:=Nat×ByteArray) (fun x=>x.1<all.length∧x.2.size≤s.size∧cq x.2 p=all.drop x.1) (fun x=>⟨1,[(0,sv x.2),(1,sv p),(2,iv 0),(3,iv ((all.length:Int)-1)),(9,.s (.l (.sl 0 0 all.length))),(10,iv x.1)],[(0,some ⟨true,9,1,mw all x.1⟩)]⟩) (fun x=>all.length-x.1) (0,s) ⟨by simp only;omega,Nat.le_refl _,hall⟩ (Wk.renL [304] (by simp) (by simp) (by simp) rfl (by simp [aq,Blk.ren,DL,LV.ren])) ?_
 rintro ⟨i,r⟩ ⟨hi,hrs,hr⟩
 simp only at hi hrs hr
 refine ab (ctx:=[⟨_,vH⟩]) 4000 ?_
 have hl:=congrArg List.length hr
 rw [List.length_drop] at hl
 by_cases hlt:i+1<all.length
 ·obtain ⟨m,m1,m2,m3⟩:=EZ (s:=r) (p:=p) (by omega)
  rw [m3] at hr
  have hltI:(i:Int)<(all.length:Int)-1:=by omega
  have hat:all[i]? = some (r.extract 0 m):=by
   have:=congrArg (·[0]?) hr
   simpa using this.symm
  have hnext:cq (r.extract (m+1) r.size) p=all.drop (i+1):=by
   have:=congrArg List.tail hr
   simpa using this
  have f1:¬(m:Int)<0:=by omega
  have f2:IntKind.i64.wrap ((m:Int)+0)=m:=by rw [IntKind.wrap_i64];omega
  have f3:IntKind.i64.wrap ((m:Int)+1)=((m+1:Nat):Int):=by rw [IntKind.wrap_i64];omega
  have f4:IntKind.i64.wrap ((i:Int)+1)=((i+1:Nat):Int):=by rw [IntKind.wrap_i64];omega
  simp only [go_sem,hltI,x8,x7,hp,m1,f1,f2,f3,f4,xU (Nat.le_of_lt hi),Be hi,Int.toNat_zero]
  refine ⟨by omega,by omega,by omega,(i+1,r.extract (m+1) r.size),⟨by simp only;omega,?_,hnext⟩,by simp only;omega,Wk.renL [0] (by simp) (by simp) (by simp) rfl ?_⟩
  ·simp only [ByteArray.size_extract]
   omega
  ·have:=xV hat
   unfold rg at this
   simp [aq,Blk.ren,this,Hj]
 ·have hil:i+1=all.length:=by omega
  have hr1:=E0 (s:=r) (p:=p) (by omega)
  rw [hr1] at hr
  have hat:all[i]? = some r:=by
   have:=congrArg (·[0]?) hr
   simpa using this.symm
  have hltI:¬(i:Int)<(all.length:Int)-1:=by omega
  have f4:IntKind.i64.wrap ((i:Int)+1)=all.length:=by rw [IntKind.wrap_i64];omega
  have hset:=xV hat
  unfold rg at hset
  rw [hil,Hh] at hset
  have hiI:(i:Int)<all.length:=by omega
  simp only [go_sem,hltI,xU (Nat.le_of_lt hi),Be hi,f4,hset,hiI,Int.toNat_zero,Int.toNat_natCast,Nat.sub_zero,List.take_length,List.length_map]
  trace_state
end
section
open Go.RowKit
def cS:ByteArray:=⟨#[99]⟩
def dB:List ByteArray:=[s1,emp,cS,cS,emp]
def il:List Int:=[3,7,15,15,7]
def dR:List Nat:=[1,3,4,4,3]
def L3 (i:Nat) (d:Int):Int:=if i=0 then d-2 else d
def cK (lim:Nat) (i:Nat) (n:Int) (w:ByteArray):Option Int :=
 if (kX w (dB.getD i emp)).2=true∧(gZ lim (kX w (dB.getD i emp)).1 (il.getD i 0)).2=true∧0≤L3 i (gZ lim (kX w (dB.getD i emp)).1 (il.getD i 0)).1 then
  some (n*2 ^ dR.getD i 0+L3 i (gZ lim (kX w (dB.getD i emp)).1 (il.getD i 0)).1)
 else none
def pU (lim:Nat) (l:List ByteArray):Nat→Option Int
 | 0=>some 0
 | i+1=>match pU lim l i,l[i]? with
  | some n,some w=>cK lim i n w
  | _,_=>none
def tn (lim:Nat) (s:ByteArray):Option Int:=if (cq s us).length=5 then pU lim (cq s us) 5 else none
theorem ia {lim:Nat} {s:ByteArray} {most:Int} (h:(gZ lim s most).2=true):0≤(gZ lim s most).1∧(gZ lim s most).1≤most:=by
 unfold gZ at h ⊢
 split at h
 ·cases h
 ·rename_i hc
  rw [if_neg hc]
  split at h
  ·rename_i n hn
   simp only [decide_eq_true_eq] at h
   exact ⟨(qT hn).1,h⟩
  ·cases h
theorem wZ {lim i:Nat} (hi:i<5) {n:Int} {w:ByteArray} {m:Int} (h:cK lim i n w=some m):∃ v,L3 i (gZ lim (kX w (dB.getD i emp)).1 (il.getD i 0)).1=v∧0≤v∧v<2 ^ dR.getD i 0∧m=n*2 ^ dR.getD i 0+v:=by
 unfold cK at h
 split at h
 case isFalse=>cases h
 rename_i hc
 injection h with h
 refine ⟨_,rfl,hc.2.2,?_,h.symm⟩
 have:=ia hc.2.1
 clear h hc
 generalize gZ lim (kX w (dB.getD i emp)).1 (il.getD i 0)=d at *
 have hi':i=0∨i=1∨i=2∨i=3∨i=4:=by omega
 rcases hi' with rfl | rfl | rfl | rfl | rfl<;>simp only [L3,il,dR,List.getD_cons_zero,List.getD_cons_succ] at this ⊢<;>simp<;>omega
theorem wY {lim:Nat} {l:List ByteArray}:∀ {i:Nat} {n:Int},i≤5→pU lim l i=some n→0≤n∧n<2 ^ (4*i+1)
 | 0,n,_,h=>by injection h with h;subst h;decide
 | i+1,n,hi,h=>by
  rw [pU] at h
  split at h
  case h_2=>cases h
  rename_i m w hm hw
  obtain ⟨h0,h1⟩:=wY (i:=i) (by omega) hm
  obtain ⟨v,_,v0,v1,rfl⟩:=wZ (by omega) h
  have hi':i=0∨i=1∨i=2∨i=3∨i=4:=by omega
  rcases hi' with rfl | rfl | rfl | rfl | rfl<;>simp only [dR,List.getD_cons_zero,List.getD_cons_succ] at v1 h1 ⊢<;>simp at v1 h1 ⊢<;>omega
theorem IP {lim:Nat} {l:List ByteArray} {i:Nat} (h:pU lim l i=none):∀ {j},i≤j→pU lim l j=none:=by
 intro j hj
 induction j with
 | zero =>
  obtain rfl:i=0:=by omega
  exact h
 | succ j ih =>
  by_cases e:i=j+1
  ·rw [← e];exact h
  ·rw [pU,ih (by omega)]
end
end Go.Proofs.YthcoegkfpinlfaaGreatDoor
