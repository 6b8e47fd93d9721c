import Derived.Laws.BitsLemmas
set_option linter.unusedVariables false
set_option linter.unusedSimpArgs false
set_option maxRecDepth 100000
set_option maxHeartbeats 8000000
namespace Go.Proofs.YtpjlafmhoifkmaaGreat
theorem o7 (n:Int):IntKind.u64.wrap n=n % 18446744073709551616:=by simp [IntKind.wrap,IntKind.bits,IntKind.signed]
theorem p4 (n:Int) (h0:0≤n) (h1:n<2 ^ 64):IntKind.u64.wrap n=n:=by rw [o7];omega
theorem xI (a:Nat):IntKind.u64.wrap (a:Int)=((a % 18446744073709551616:Nat):Int):=by rw [o7];omega
theorem Fu (a n:Nat):IntKind.u64.wrap ((a:Int)*2 ^ n)=((a*2 ^ n % 18446744073709551616:Nat):Int):=by
 have h:=xI (a*2 ^ n)
 rw [← h]
 simp
theorem GR (a n:Nat):Int.fdiv (a:Int) (2 ^ n)=((a / 2 ^ n:Nat):Int):=by
 rw [Int.fdiv_eq_ediv_of_nonneg _ (Int.pow_nonneg (by decide))]
 simp
theorem n8 (a b:Nat) (ha:a<2 ^ 64) (hb:b<2 ^ 64):bits .and .u64 a b=((a &&& b:Nat):Int)∧bits .or .u64 a b=((a ||| b:Nat):Int)∧bits .xor .u64 a b=((a ^^^ b:Nat):Int):=by
 have h:=bits_nat .u64 64 (by decide) (fun n h0 h1=>p4 n h0 h1) a b ha hb
 refine ⟨h.1,h.2,?_⟩
 have ha':a % 2 ^ IntKind.u64.bits=a:=Nat.mod_eq_of_lt ha
 have hb':b % 2 ^ IntKind.u64.bits=b:=Nat.mod_eq_of_lt hb
 simp only [bits,BitVec.ofInt_natCast,BitVec.toNat_xor,BitVec.toNat_ofNat,ha',hb']
 refine p4 _ (Int.natCast_nonneg _) ?_
 have:=Nat.xor_lt_two_pow ha hb
 exact_mod_cast this
def dN (size:Nat):Nat:=18446744073709551615 / 2 ^ (64-size)
def p6 (size ones turn:Nat):Nat :=
 let e:=((2 ^ ones-1) / 2 ^ turn) ||| ((2 ^ ones-1)*2 ^ (size-turn) % 18446744073709551616)
 if size<64 then e &&& (2 ^ size-1) else e
def AG (e size w:Nat):Nat→Nat→Nat→Nat
 | 0,_,v=>v
 | f+1,at_,v=>if at_<w then AG e size w f (at_+size) (v ||| (e*2 ^ at_ % 18446744073709551616)) else v
def kO (size ones turn w:Nat):Nat:=AG (p6 size ones turn) size w 64 0 0
def sI (v size w:Nat):Nat→Nat→Bool
 | 0,_=>true
 | f+1,at_=>if at_<w then (v / 2 ^ at_ &&& dN size)==(v &&& dN size)&&sI v size w f (at_+size) else true
def pop (x:Nat):Nat :=
 let a:=((x / 2 &&& 6148914691236517205)+(x &&& 6148914691236517205)) % 18446744073709551616
 let b:=((a / 4 &&& 3689348814741910323)+(a &&& 3689348814741910323)) % 18446744073709551616
 let c:=(b / 16+b) % 18446744073709551616 &&& 1085102592571150095
 let d:=(c+c / 256) % 18446744073709551616
 let e:=(d+d / 65536) % 18446744073709551616
 let f:=(e+e / 4294967296) % 18446744073709551616
 f &&& 127
def iQ (v size ones w:Nat):Nat→Nat→Option Nat
 | 0,_=>none
 | f+1,t=>if t<size then (if (1≤ones∧ones<size)∧kO size ones t w=v then some t else iQ v size ones w f (t+1)) else none
def cJ:Nat→List Nat
 | 32=>[2,4,8,16,32]
 | _=>[2,4,8,16,32,64]
def pt (v w:Nat):Option Nat:=(cJ w).find? fun size=>sI v size w 64 size
def cN (v w:Nat):Option (Nat×Nat×Nat) :=
 if w=32∧4294967296≤v then none else
 match pt v w with
 | none=>none
 | some size=>(iQ v size (pop (v &&& dN size)) w 64 0).map fun t=>(size,pop (v &&& dN size),t)
def lg (size ones turn w:Nat):Nat:=(List.range w).foldl (fun v i=>if (i % size+turn) % size<ones then v ||| 2 ^ i else v) 0
def pf (v size:Nat):Nat:=(List.range size).foldl (fun s i=>s+v / 2 ^ i % 2) 0
def jp (v size ones w:Nat):Nat→Nat→Option Nat
 | 0,_=>none
 | f+1,t=>if t<size then (if lg size ones t w=v then some t else jp v size ones w f (t+1)) else none
def gE (v w:Nat):List Nat→Option (Nat×Nat×Nat)
 | []=>none
 | size::l=>if 1≤pf v size∧pf v size<size then
   (match jp v size (pf v size) w 64 0 with | some t=>some (size,pf v size,t) | none=>gE v w l)
  else gE v w l
def iG (v w:Nat):Option (Nat×Nat×Nat):=gE v w (cJ w)
def nq (w size ones turn:Nat):Bool :=
 let v:=kO size ones turn w
 lg size ones turn w==v&&pt v w==some size&&pop (v &&& dN size)==ones&&pf v size==ones&&(w !=32||decide (v<4294967296))
def gS (w size:Nat):Bool:=(List.range size).all fun ones=>ones==0||(List.range size).all fun turn=>nq w size ones turn
theorem EP:gS 32 2=true:=by decide +kernel
theorem G2:gS 32 4=true:=by decide +kernel
theorem FL:gS 32 8=true:=by decide +kernel
theorem BV:gS 32 16=true:=by decide +kernel
theorem BD:gS 32 32=true:=by decide +kernel
theorem Fn:gS 64 2=true:=by decide +kernel
theorem Ge:gS 64 4=true:=by decide +kernel
theorem FE:gS 64 8=true:=by decide +kernel
theorem AD:gS 64 16=true:=by decide +kernel
theorem Bl:gS 64 32=true:=by decide +kernel
def jF (w size lo n:Nat):Bool:=(List.range n).all fun k=>lo+k==0||(List.range size).all fun turn=>nq w size (lo+k) turn
theorem Eg:jF 64 64 0 16=true:=by decide +kernel
theorem Fq:jF 64 64 16 16=true:=by decide +kernel
theorem GZ:jF 64 64 32 16=true:=by decide +kernel
theorem Gn:jF 64 64 48 16=true:=by decide +kernel
theorem eh {w size ones turn:Nat} (h:gS w size=true) (h0:1≤ones) (h1:ones<size) (h2:turn<size):nq w size ones turn=true:=by
 have:=List.all_eq_true.1 h ones (List.mem_range.2 h1)
 rw [Bool.or_eq_true] at this
 rcases this with h | h
 ·have:ones=0:=by simpa using h
  omega
 ·exact List.all_eq_true.1 h turn (List.mem_range.2 h2)
theorem ib {w size lo n ones turn:Nat} (h:jF w size lo n=true) (h0:1≤ones) (h1:lo≤ones) (h3:ones<lo+n) (h2:turn<size):nq w size ones turn=true:=by
 have:=List.all_eq_true.1 h (ones-lo) (List.mem_range.2 (by omega))
 rw [show lo+(ones-lo)=ones by omega,Bool.or_eq_true] at this
 rcases this with h | h
 ·have:ones=0:=by simpa using h
  omega
 ·exact List.all_eq_true.1 h turn (List.mem_range.2 h2)
theorem AE {w size ones turn:Nat} (hw:w=32∨w=64) (hs:size∈cJ w) (h0:1≤ones) (h1:ones<size) (h2:turn<size):nq w size ones turn=true:=by
 rcases hw with rfl | rfl
 ·simp only [cJ,List.mem_cons,List.not_mem_nil,or_false] at hs
  rcases hs with rfl | rfl | rfl | rfl | rfl
  ·exact eh EP h0 h1 h2
  ·exact eh G2 h0 h1 h2
  ·exact eh FL h0 h1 h2
  ·exact eh BV h0 h1 h2
  ·exact eh BD h0 h1 h2
 ·simp only [cJ,List.mem_cons,List.not_mem_nil,or_false] at hs
  rcases hs with rfl | rfl | rfl | rfl | rfl | rfl
  ·exact eh Fn h0 h1 h2
  ·exact eh Ge h0 h1 h2
  ·exact eh FE h0 h1 h2
  ·exact eh AD h0 h1 h2
  ·exact eh Bl h0 h1 h2
  ·by_cases a:ones<16
   ·exact ib Eg h0 (by omega) (by omega) h2
   by_cases b:ones<32
   ·exact ib Fq h0 (by omega) (by omega) h2
   by_cases c:ones<48
   ·exact ib GZ h0 (by omega) (by omega) h2
   ·exact ib Gn h0 (by omega) (by omega) h2
theorem kA {v size ones w:Nat}:∀ {f t r:Nat},iQ v size ones w f t=some r→r<size∧(1≤ones∧ones<size)∧kO size ones r w=v
 | 0,_,_,h=>by cases h
 | f+1,t,r,h=>by
  rw [iQ] at h
  split at h
  case isFalse=>cases h
  rename_i ht
  split at h
  ·rename_i hc
   injection h with h
   subst h
   exact ⟨ht,hc.1,hc.2⟩
  ·exact kA h
theorem tR {v size ones w r:Nat} (hr:r<size) (hc:(1≤ones∧ones<size)∧kO size ones r w=v):∀ {f t:Nat},t≤r→r<t+f→(iQ v size ones w f t).isSome=true
 | 0,_,h,h'=>by omega
 | f+1,t,h,h'=>by
  rw [iQ,if_pos (by omega)]
  split
  ·rfl
  ·rename_i hn
   have:t≠r:=fun e=>hn (e▸hc)
   exact tR hr hc (by omega) (by omega)
theorem pB {v size ones w:Nat}:∀ {f t r:Nat},jp v size ones w f t=some r→r<size∧lg size ones r w=v
 | 0,_,_,h=>by cases h
 | f+1,t,r,h=>by
  rw [jp] at h
  split at h
  case isFalse=>cases h
  rename_i ht
  split at h
  ·rename_i hc
   injection h with h
   subst h
   exact ⟨ht,hc⟩
  ·exact pB h
theorem tG {v size ones w r:Nat} (hr:r<size) (hc:lg size ones r w=v):∀ {f t:Nat},t≤r→r<t+f→(jp v size ones w f t).isSome=true
 | 0,_,h,h'=>by omega
 | f+1,t,h,h'=>by
  rw [jp,if_pos (by omega)]
  split
  ·rfl
  ·rename_i hn
   have:t≠r:=fun e=>hn (e▸hc)
   exact tG hr hc (by omega) (by omega)
theorem ia {v w:Nat}:∀ {l:List Nat} {x:Nat×Nat×Nat},gE v w l=some x→x.1∈l∧(1≤x.2.1∧x.2.1<x.1)∧x.2.2<x.1∧lg x.1 x.2.1 x.2.2 w=v
 | [],_,h=>by cases h
 | size::l,x,h=>by
  rw [gE] at h
  split at h
  ·rename_i hp
   split at h
   ·rename_i t ht
    injection h with h
    subst h
    have:=pB ht
    exact ⟨List.mem_cons_self,hp,this.1,this.2⟩
   ·have:=ia h
    exact ⟨List.mem_cons_of_mem _ this.1,this.2⟩
  ·have:=ia h
   exact ⟨List.mem_cons_of_mem _ this.1,this.2⟩
theorem p8 {v w size t:Nat} (hp:1≤pf v size∧pf v size<size) (ht:t<size) (h64:size≤64) (hv:lg size (pf v size) t w=v):∀ {l:List Nat},size∈l→(gE v w l).isSome=true
 | [],h=>by cases h
 | s::l,h=>by
  rw [gE]
  by_cases e:s=size
  ·subst e
   rw [if_pos hp]
   have:=tG (f:=64) (t:=0) ht hv (by omega) (by omega)
   cases hr:jp v s (pf v s) w 64 0 with
   | none=>rw [hr] at this;cases this
   | some t=>rfl
  ·have hm:size∈l:=by
    cases h with
    | head=>exact absurd rfl e
    | tail _ h=>exact h
   have ih:=p8 hp ht h64 hv hm
   split
   ·split
    ·rfl
    ·exact ih
   ·exact ih
theorem pX {w size:Nat} (h:size∈cJ w):size≤64:=by
 unfold cJ at h
 split at h<;>simp only [List.mem_cons,List.not_mem_nil,or_false] at h<;>omega
theorem yx {v w:Nat} (hw:w=32∨w=64):(cN v w).isSome=(iG v w).isSome:=by
 rw [Bool.eq_iff_iff]
 constructor
 ·intro h
  unfold cN at h
  split at h
  ·cases h
  split at h
  ·cases h
  rename_i size hs
  rw [Option.isSome_map] at h
  obtain ⟨t,ht⟩:=Option.isSome_iff_exists.1 h
  obtain ⟨h1,h2,h3⟩:=kA ht
  have hm:size∈cJ w:=List.mem_of_find?_eq_some hs
  have hp:=AE hw hm h2.1 h2.2 h1
  simp only [nq,h3,Bool.and_eq_true,beq_iff_eq] at hp
  obtain ⟨⟨⟨⟨g1,g2⟩,g3⟩,g4⟩,g5⟩:=hp
  exact p8 (t:=t) (by rw [g4];exact h2) h1 (pX hm) (by rw [g4];exact g1) hm
 ·intro h
  obtain ⟨x,hx⟩:=Option.isSome_iff_exists.1 h
  obtain ⟨hm,h2,h1,h3⟩:=ia hx
  have hp:=AE hw hm h2.1 h2.2 h1
  have hv:kO x.1 x.2.1 x.2.2 w=v:=by
   simp only [nq,Bool.and_eq_true,beq_iff_eq] at hp
   rw [← h3,hp.1.1.1.1]
  simp only [nq,hv,Bool.and_eq_true,beq_iff_eq] at hp
  obtain ⟨⟨⟨⟨g1,g2⟩,g3⟩,g4⟩,g5⟩:=hp
  unfold cN
  rw [if_neg (by rintro ⟨rfl,hc⟩;simp at g5;omega),g2]
  simp only [g3,Option.isSome_map]
  exact tR (f:=64) (t:=0) h1 ⟨h2,hv⟩ (by omega) (by have:=pX hm;omega)
end Go.Proofs.YtpjlafmhoifkmaaGreat
