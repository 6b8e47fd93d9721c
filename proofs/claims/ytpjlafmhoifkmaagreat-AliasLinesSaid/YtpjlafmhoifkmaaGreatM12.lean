import Derived.Laws.BitsLemmas
set_option linter.unusedVariables false
set_option linter.unusedSimpArgs false
set_option maxRecDepth 100000
set_option maxHeartbeats 8000000
namespace Go.Proofs.YtpjlafmhoifkmaaGreat
theorem lN (n:Int):IntKind.u64.wrap n=n % 18446744073709551616:=by simp [IntKind.wrap,IntKind.bits,IntKind.signed]
theorem s7 (n:Int) (h0:0≤n) (h1:n<2 ^ 64):IntKind.u64.wrap n=n:=by rw [lN];omega
theorem AB (a:Nat):IntKind.u64.wrap (a:Int)=((a % 18446744073709551616:Nat):Int):=by rw [lN];omega
theorem JV (a n:Nat):IntKind.u64.wrap ((a:Int)*2 ^ n)=((a*2 ^ n % 18446744073709551616:Nat):Int):=by
 have h:=AB (a*2 ^ n)
 rw [← h]
 simp
theorem JF (a n:Nat):Int.fdiv (a:Int) (2 ^ n)=((a / 2 ^ n:Nat):Int):=by
 rw [Int.fdiv_eq_ediv_of_nonneg _ (Int.pow_nonneg (by decide))]
 simp
theorem qK (a b:Nat) (ha:a<2 ^ 64) (hb:b<2 ^ 64):bits .and .u64 a b=((a &&& b:Nat):Int)∧bits .or .u64 a b=((a ||| b:Nat):Int)∧bits .xor .u64 a b=((a ^^^ b:Nat):Int):=by
 have h:=bits_nat .u64 64 (by decide) (fun n h0 h1=>s7 n h0 h1) a b ha hb
 refine ⟨h.1,h.2,?_⟩
 have ha':a % 2 ^ IntKind.u64.bits=a:=Nat.mod_eq_of_lt ha
 have hb':b % 2 ^ IntKind.u64.bits=b:=Nat.mod_eq_of_lt hb
 simp only [bits,BitVec.ofInt_natCast,BitVec.toNat_xor,BitVec.toNat_ofNat,ha',hb']
 refine s7 _ (Int.natCast_nonneg _) ?_
 have:=Nat.xor_lt_two_pow ha hb
 exact_mod_cast this
def fD (size:Nat):Nat:=18446744073709551615 / 2 ^ (64-size)
def sU (size ones turn:Nat):Nat :=
 let e:=((2 ^ ones-1) / 2 ^ turn) ||| ((2 ^ ones-1)*2 ^ (size-turn) % 18446744073709551616)
 if size<64 then e &&& (2 ^ size-1) else e
def GL (e size w:Nat):Nat→Nat→Nat→Nat
 | 0,_,v=>v
 | f+1,at_,v=>if at_<w then GL e size w f (at_+size) (v ||| (e*2 ^ at_ % 18446744073709551616)) else v
def nJ (size ones turn w:Nat):Nat:=GL (sU size ones turn) size w 64 0 0
def vQ (v size w:Nat):Nat→Nat→Bool
 | 0,_=>true
 | f+1,at_=>if at_<w then (v / 2 ^ at_ &&& fD size)==(v &&& fD size)&&vQ v size w f (at_+size) else true
def pop (x:Nat):Nat :=
 let a:=((x / 2 &&& 6148914691236517205)+(x &&& 6148914691236517205)) % 18446744073709551616
 let b:=((a / 4 &&& 3689348814741910323)+(a &&& 3689348814741910323)) % 18446744073709551616
 let c:=(b / 16+b) % 18446744073709551616 &&& 1085102592571150095
 let d:=(c+c / 256) % 18446744073709551616
 let e:=(d+d / 65536) % 18446744073709551616
 let f:=(e+e / 4294967296) % 18446744073709551616
 f &&& 127
def kY (v size ones w:Nat):Nat→Nat→Option Nat
 | 0,_=>none
 | f+1,t=>if t<size then (if (1≤ones∧ones<size)∧nJ size ones t w=v then some t else kY v size ones w f (t+1)) else none
def dG:Nat→List Nat
 | 32=>[2,4,8,16,32]
 | _=>[2,4,8,16,32,64]
def rb (v w:Nat):Option Nat:=(dG w).find? fun size=>vQ v size w 64 size
def dF (v w:Nat):Option (Nat×Nat×Nat) :=
 if w=32∧4294967296≤v then none else
 match rb v w with
 | none=>none
 | some size=>(kY v size (pop (v &&& fD size)) w 64 0).map fun t=>(size,pop (v &&& fD size),t)
def oJ (size ones turn w:Nat):Nat:=(List.range w).foldl (fun v i=>if (i % size+turn) % size<ones then v ||| 2 ^ i else v) 0
def rC (v size:Nat):Nat:=(List.range size).foldl (fun s i=>s+v / 2 ^ i % 2) 0
def lL (v size ones w:Nat):Nat→Nat→Option Nat
 | 0,_=>none
 | f+1,t=>if t<size then (if oJ size ones t w=v then some t else lL v size ones w f (t+1)) else none
def jM (v w:Nat):List Nat→Option (Nat×Nat×Nat)
 | []=>none
 | size::l=>if 1≤rC v size∧rC v size<size then
   (match lL v size (rC v size) w 64 0 with | some t=>some (size,rC v size,t) | none=>jM v w l)
  else jM v w l
def kZ (v w:Nat):Option (Nat×Nat×Nat):=jM v w (dG w)
def p9 (w size ones turn:Nat):Bool :=
 let v:=nJ size ones turn w
 oJ size ones turn w==v&&rb v w==some size&&pop (v &&& fD size)==ones&&rC v size==ones&&(w !=32||decide (v<4294967296))
def j3 (w size:Nat):Bool:=(List.range size).all fun ones=>ones==0||(List.range size).all fun turn=>p9 w size ones turn
theorem IP:j3 32 2=true:=by decide +kernel
theorem J6:j3 32 4=true:=by decide +kernel
theorem Km:j3 32 8=true:=by decide +kernel
theorem GN:j3 32 16=true:=by decide +kernel
theorem EK:j3 32 32=true:=by decide +kernel
theorem HD:j3 64 2=true:=by decide +kernel
theorem IO:j3 64 4=true:=by decide +kernel
theorem HE:j3 64 8=true:=by decide +kernel
theorem Fp:j3 64 16=true:=by decide +kernel
theorem Gz:j3 64 32=true:=by decide +kernel
def mo (w size lo n:Nat):Bool:=(List.range n).all fun k=>lo+k==0||(List.range size).all fun turn=>p9 w size (lo+k) turn
theorem HM:mo 64 64 0 16=true:=by decide +kernel
theorem Kb:mo 64 64 16 16=true:=by decide +kernel
theorem Jt:mo 64 64 32 16=true:=by decide +kernel
theorem I2:mo 64 64 48 16=true:=by decide +kernel
theorem gd {w size ones turn:Nat} (h:j3 w size=true) (h0:1≤ones) (h1:ones<size) (h2:turn<size):p9 w size ones turn=true:=by
 have:=List.all_eq_true.1 h ones (List.mem_range.2 h1)
 rw [Bool.or_eq_true] at this
 rcases this with h | h
 ·have:ones=0:=by simpa using h
  omega
 ·exact List.all_eq_true.1 h turn (List.mem_range.2 h2)
theorem ka {w size lo n ones turn:Nat} (h:mo w size lo n=true) (h0:1≤ones) (h1:lo≤ones) (h3:ones<lo+n) (h2:turn<size):p9 w size ones turn=true:=by
 have:=List.all_eq_true.1 h (ones-lo) (List.mem_range.2 (by omega))
 rw [show lo+(ones-lo)=ones by omega,Bool.or_eq_true] at this
 rcases this with h | h
 ·have:ones=0:=by simpa using h
  omega
 ·exact List.all_eq_true.1 h turn (List.mem_range.2 h2)
theorem F5 {w size ones turn:Nat} (hw:w=32∨w=64) (hs:size∈dG w) (h0:1≤ones) (h1:ones<size) (h2:turn<size):p9 w size ones turn=true:=by
 rcases hw with rfl | rfl
 ·simp only [dG,List.mem_cons,List.not_mem_nil,or_false] at hs
  rcases hs with rfl | rfl | rfl | rfl | rfl
  ·exact gd IP h0 h1 h2
  ·exact gd J6 h0 h1 h2
  ·exact gd Km h0 h1 h2
  ·exact gd GN h0 h1 h2
  ·exact gd EK h0 h1 h2
 ·simp only [dG,List.mem_cons,List.not_mem_nil,or_false] at hs
  rcases hs with rfl | rfl | rfl | rfl | rfl | rfl
  ·exact gd HD h0 h1 h2
  ·exact gd IO h0 h1 h2
  ·exact gd HE h0 h1 h2
  ·exact gd Fp h0 h1 h2
  ·exact gd Gz h0 h1 h2
  ·by_cases a:ones<16
   ·exact ka HM h0 (by omega) (by omega) h2
   by_cases b:ones<32
   ·exact ka Kb h0 (by omega) (by omega) h2
   by_cases c:ones<48
   ·exact ka Jt h0 (by omega) (by omega) h2
   ·exact ka I2 h0 (by omega) (by omega) h2
theorem nt {v size ones w:Nat}:∀ {f t r:Nat},kY v size ones w f t=some r→r<size∧(1≤ones∧ones<size)∧nJ size ones r w=v
 | 0,_,_,h=>by cases h
 | f+1,t,r,h=>by
  rw [kY] at h
  split at h
  case isFalse=>cases h
  rename_i ht
  split at h
  ·rename_i hc
   injection h with h
   subst h
   exact ⟨ht,hc.1,hc.2⟩
  ·exact nt h
theorem vl {v size ones w r:Nat} (hr:r<size) (hc:(1≤ones∧ones<size)∧nJ size ones r w=v):∀ {f t:Nat},t≤r→r<t+f→(kY v size ones w f t).isSome=true
 | 0,_,h,h'=>by omega
 | f+1,t,h,h'=>by
  rw [kY,if_pos (by omega)]
  split
  ·rfl
  ·rename_i hn
   have:t≠r:=fun e=>hn (e▸hc)
   exact vl hr hc (by omega) (by omega)
theorem rr {v size ones w:Nat}:∀ {f t r:Nat},lL v size ones w f t=some r→r<size∧oJ size ones r w=v
 | 0,_,_,h=>by cases h
 | f+1,t,r,h=>by
  rw [lL] at h
  split at h
  case isFalse=>cases h
  rename_i ht
  split at h
  ·rename_i hc
   injection h with h
   subst h
   exact ⟨ht,hc⟩
  ·exact rr h
theorem vI {v size ones w r:Nat} (hr:r<size) (hc:oJ size ones r w=v):∀ {f t:Nat},t≤r→r<t+f→(lL v size ones w f t).isSome=true
 | 0,_,h,h'=>by omega
 | f+1,t,h,h'=>by
  rw [lL,if_pos (by omega)]
  split
  ·rfl
  ·rename_i hn
   have:t≠r:=fun e=>hn (e▸hc)
   exact vI hr hc (by omega) (by omega)
theorem kj {v w:Nat}:∀ {l:List Nat} {x:Nat×Nat×Nat},jM v w l=some x→x.1∈l∧(1≤x.2.1∧x.2.1<x.1)∧x.2.2<x.1∧oJ x.1 x.2.1 x.2.2 w=v
 | [],_,h=>by cases h
 | size::l,x,h=>by
  rw [jM] at h
  split at h
  ·rename_i hp
   split at h
   ·rename_i t ht
    injection h with h
    subst h
    have:=rr ht
    exact ⟨List.mem_cons_self,hp,this.1,this.2⟩
   ·have:=kj h
    exact ⟨List.mem_cons_of_mem _ this.1,this.2⟩
  ·have:=kj h
   exact ⟨List.mem_cons_of_mem _ this.1,this.2⟩
theorem sL {v w size t:Nat} (hp:1≤rC v size∧rC v size<size) (ht:t<size) (h64:size≤64) (hv:oJ size (rC v size) t w=v):∀ {l:List Nat},size∈l→(jM v w l).isSome=true
 | [],h=>by cases h
 | s::l,h=>by
  rw [jM]
  by_cases e:s=size
  ·subst e
   rw [if_pos hp]
   have:=vI (f:=64) (t:=0) ht hv (by omega) (by omega)
   cases hr:lL v s (rC v s) w 64 0 with
   | none=>rw [hr] at this;cases this
   | some t=>rfl
  ·have hm:size∈l:=by
    cases h with
    | head=>exact absurd rfl e
    | tail _ h=>exact h
   have ih:=sL hp ht h64 hv hm
   split
   ·split
    ·rfl
    ·exact ih
   ·exact ih
theorem tz {w size:Nat} (h:size∈dG w):size≤64:=by
 unfold dG at h
 split at h<;>simp only [List.mem_cons,List.not_mem_nil,or_false] at h<;>omega
theorem Co {v w:Nat} (hw:w=32∨w=64):(dF v w).isSome=(kZ v w).isSome:=by
 rw [Bool.eq_iff_iff]
 constructor
 ·intro h
  unfold dF at h
  split at h
  ·cases h
  split at h
  ·cases h
  rename_i size hs
  rw [Option.isSome_map] at h
  obtain ⟨t,ht⟩:=Option.isSome_iff_exists.1 h
  obtain ⟨h1,h2,h3⟩:=nt ht
  have hm:size∈dG w:=List.mem_of_find?_eq_some hs
  have hp:=F5 hw hm h2.1 h2.2 h1
  simp only [p9,h3,Bool.and_eq_true,beq_iff_eq] at hp
  obtain ⟨⟨⟨⟨g1,g2⟩,g3⟩,g4⟩,g5⟩:=hp
  exact sL (t:=t) (by rw [g4];exact h2) h1 (tz hm) (by rw [g4];exact g1) hm
 ·intro h
  obtain ⟨x,hx⟩:=Option.isSome_iff_exists.1 h
  obtain ⟨hm,h2,h1,h3⟩:=kj hx
  have hp:=F5 hw hm h2.1 h2.2 h1
  have hv:nJ x.1 x.2.1 x.2.2 w=v:=by
   simp only [p9,Bool.and_eq_true,beq_iff_eq] at hp
   rw [← h3,hp.1.1.1.1]
  simp only [p9,hv,Bool.and_eq_true,beq_iff_eq] at hp
  obtain ⟨⟨⟨⟨g1,g2⟩,g3⟩,g4⟩,g5⟩:=hp
  unfold dF
  rw [if_neg (by rintro ⟨rfl,hc⟩;simp at g5;omega),g2]
  simp only [g3,Option.isSome_map]
  exact vl (f:=64) (t:=0) h1 ⟨h2,hv⟩ (by omega) (by have:=tz hm;omega)
end Go.Proofs.YtpjlafmhoifkmaaGreat
