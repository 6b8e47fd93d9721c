import Derived.Test.YthcoegkfpinlfaaGreatDoorO09
import Derived.Test.YthcoegkfpinlfaaGreatDoorO01
import Derived.Laws.StructEq
set_option linter.unusedVariables false
set_option linter.unusedSimpArgs false
set_option maxRecDepth 100000
set_option maxHeartbeats 8000000
namespace Go.Proofs.YthcoegkfpinlfaaGreatDoor
section
open Go.RowKit
abbrev iv (z:Int):AV:=.s (.l (.v (.int .i64 z)))
abbrev bv (b:Bool):AV:=.s (.l (.v (.bool b)))
abbrev sv (b:ByteArray):AV:=.s (.l (.v (.string b)))
abbrev pv (b i j:Nat):AV:=.s (.l (.p b i j))
theorem BC (s:ByteArray) (z:Int):0≤bj s z∧bj s z≤255:=by
 unfold bj
 have:=(s.data.toList.getD z.toNat 0).toNat_lt
 omega
theorem Pk (a b:List Int):cF a++cF b=cF (a++b):=by
 apply ByteArray.ext
 simp [cF]
theorem xi (a:List Int):(cF a).size=a.length:=by
 show (cF a).data.size=_
 simp [cF]
theorem dV (s:ByteArray):(di s).length=s.size:=by
 show _=s.data.size
 simp [di]
theorem Db {a:List Int} (h:∀ z∈a,0≤z∧z≤255):di (cF a)=a:=by
 unfold di cF
 simp only [List.map_map]
 conv=>rhs;rw [← List.map_id a]
 refine List.map_congr_left fun z hz=>?_
 have:=h z hz
 simp only [Function.comp_apply,id]
 rw [show (UInt8.ofNat z.toNat).toNat=z.toNat % 256 from rfl]
 omega
theorem l6 {s t:ByteArray} (h:di s=di t):s=t:=by
 rw [← Kh s,h,Kh]
theorem CR {s:ByteArray} {i:Nat} (h:i<s.size):(di s)[i]? = some (bj s i):=by
 have h':i<s.data.toList.length:=by simpa using h
 unfold di bj
 rw [List.getElem?_map,List.getElem?_eq_getElem h']
 simp [List.getD_eq_getElem?_getD,List.getElem?_eq_getElem h']
theorem mH (s:ByteArray) (i j:Nat):di (s.extract i j)=((di s).drop i).take (j-i):=by
 unfold di
 rw [ByteArray.data_extract,Array.toList_extract,List.map_take,List.map_drop]
theorem O1 (s t:ByteArray):di (s++t)=di s++di t:=by
 unfold di
 rw [ByteArray.data_append]
 simp
theorem Ti (s:ByteArray):s.extract 0 s.size=s:=by
 apply l6
 rw [mH,List.drop_zero,List.take_of_length_le]
 rw [dV]
 exact Nat.le_refl _
def sh (s p:ByteArray):Bool:=decide (p.size≤s.size)&&decide (s.extract 0 p.size=p)
def uP (s p:ByteArray):ByteArray×Bool:=if sh s p=true then (s.extract p.size s.size,true) else (s,false)
theorem aaq {s p:ByteArray} (h:sh s p=true):p.size≤s.size:=by
 unfold sh at h
 simp at h
 exact h.1
theorem PW {s p:ByteArray}:sh s p=true↔∃ t,di s=di p++t:=by
 unfold sh
 simp only [Bool.and_eq_true,decide_eq_true_eq]
 constructor
 ·rintro ⟨h1,h2⟩
  refine ⟨(di s).drop p.size,?_⟩
  have:=congrArg di h2
  rw [mH,List.drop_zero] at this
  rw [← this,Nat.sub_zero,List.take_append_drop]
 ·rintro ⟨t,ht⟩
  have h1:p.size≤s.size:=by rw [← dV,← dV,ht];simp
  refine ⟨h1,l6 ?_⟩
  rw [mH,List.drop_zero,ht,← dV,Nat.sub_zero,List.take_left]
theorem Zw (s:ByteArray) (c:Int) (hc:0≤c∧c≤255):sh s (cF [c])=decide (0<s.size∧bj s 0=c):=by
 have hb:di (cF [c])=[c]:=Db (by simpa using hc)
 rw [Bool.eq_iff_iff,PW,hb,decide_eq_true_eq]
 constructor
 ·rintro ⟨t,ht⟩
  have h1:0<s.size:=by rw [← dV,ht];simp
  have h2:=CR h1
  rw [ht] at h2
  simp at h2
  exact ⟨h1,h2.symm⟩
 ·rintro ⟨h1,h2⟩
  have h3:=CR h1
  cases hs:di s with
  | nil=>rw [hs] at h3;cases h3
  | cons x t =>
   rw [hs] at h3
   simp at h3
   exact ⟨t,by rw [h3,← h2];rfl⟩
def mk2C {P:Program} {α β:Type} (f:FuncId) (hen:∀ (args:Array Value) (w:World),(callFunc f args).run P w=.ok (.enter f args) w) (T:Ty α) (U:Ty β) (q:α→β→Prop) (out:α→β→AV) (hpl:∀ x y,(out x y).plain=true)
  (calls:∀ x y,q x y→∀ (M:Mem) (w:World) (u v:Value),(∀ b o y,M b o=some y→w.cell? ⟨b,o,none⟩=some y)→ARep ρ0 (al0 M) (T.enc x) u→ARep ρ0 (al0 M) (U.enc y) v→Calls P f #[u,v] w fun e w'=>(∃ v,e=.returned v∧ARep ρ0 (al0 M) (out x y) v)∧Below w.heap.size w w'):cK P f :=
 mkC f hen (bE T U q) (fun x=>[T.enc x.1,U.enc x.2]) (fun x=>out x.1 x.2) (fun x=>hpl x.1 x.2)
  (by
   intro as p x h _ ρ al vals hA
   unfold bE at h
   split at h
   ·split at h
    ·rename_i hx hy
     injection h with h
     injection h with h1 h2
     subst h2
     match vals,hA with
     | [v,u],⟨a,b,_⟩=>exact ⟨T.ok hx a,U.ok hy b,trivial⟩
    ·cases h
   ·cases h)
  (by
   intro as p x h hp M w vals _ hM hA
   unfold bE at h
   split at h
   ·split at h
    ·injection h with h
     injection h with h1 h2
     subst h1
     subst h2
     match vals,hA with
     | [v,u],⟨a,b,_⟩=>exact calls _ _ hp M w v u hM a b
    ·cases h
   ·cases h)
theorem Wk.fnD {ro:Cf} {s:St} (k:Nat) {g:FuncId} {f c:List LV} {fd cd:List D} (hk:aW s.t k=.fn g f c) (hf:cz f=some fd) (hc:cz c=some cd):Wk ro s ⟨s.nx,(k,.s (.l (.d (.fn g fd cd))))::s.t,s.h⟩:=by
 intro n B w0 ρ al a w _ R
 refine ⟨ρ,al,R.size,R.defers,?_,R.w,R.al⟩
 intro j
 rw [aW]
 split
 ·rename_i ej
  subst ej
  have:=R.t k
  rw [hk] at this
  obtain ⟨fs,cs,e,h1,h2⟩:=this
  rw [e]
  simp only [ARep,SRep,LRep,DRep]
  exact ⟨fs,cs,rfl,mK hf h1,mK hc h2⟩
 ·exact R.t j
theorem pinR (K:Nat):∀ j,j<K→(List.range K)[j]? = some j:=fun j hj=>by rw [List.getElem?_range hj]
end
section
open Go.RowKit
theorem C7 {s:ByteArray} (h:¬s=emp):0<s.size:=by
 rcases Nat.eq_zero_or_pos s.size with h1 | h1
 ·exact absurd (l6 (by rw [List.eq_nil_of_length_eq_zero ((dV s).trans h1)];rfl)) h
 ·exact h1
theorem emp_size:emp.size=0:=rfl
def CB (s:ByteArray):Nat→Option Int
 | 0=>some 0
 | i+1=>match CB s i with
  | some n=>if bj s i<48∨57<bj s i then none else some (10*n+(bj s i-48))
  | none=>none
def dg (lim:Nat) (s:ByteArray) (most:Int):Int×Bool :=
 if s=emp∨lim<s.size∨(1<s.size∧bj s 0=48) then (0,false) else
 match CB s s.size with
 | some n=>(n,decide (n≤most))
 | none=>(0,false)
theorem Xg {s:ByteArray} {i:Nat} (h:CB s i=none):∀ {j},i≤j→CB s j=none:=by
 intro j hj
 induction j with
 | zero =>
  obtain rfl:i=0:=by omega
  exact h
 | succ j ih =>
  by_cases e:i=j+1
  ·rw [← e];exact h
  ·rw [CB,ih (by omega)]
theorem Ly {s:ByteArray}:∀ {i:Nat} {n:Int},CB s i=some n→0≤n∧n<10 ^ i
 | 0,n,h=>by injection h with h;subst h;decide
 | i+1,n,h=>by
  rw [CB] at h
  split at h
  case h_2=>cases h
  rename_i m hm
  split at h
  ·cases h
  ·injection h with h
   have:=Ly hm
   have e:(10:Int) ^ (i+1)=10 ^ i*10:=Int.pow_succ 10 i
   omega
theorem N9 {s:ByteArray} {i:Nat} {n:Int} (h:CB s i=some n) {k:Nat} (hk:i≤k):0≤n∧n<10 ^ k:=by
 have h1:=Ly h
 have h2:(10:Int) ^ i≤10 ^ k:=by
  have h3:(10:Nat) ^ i≤10 ^ k:=Nat.pow_le_pow_right (by decide) hk
  exact_mod_cast h3
 omega
theorem C8 {lim:Nat} {s:ByteArray} {most:Int} {i:Nat} (hi:i<s.size) {n:Int} (hn:CB s i=some n) (hb:bj s i<48∨57<bj s i):dg lim s most=(0,false):=by
 have h1:CB s (i+1)=none:=by rw [CB,hn];simp only [hb,if_true]
 unfold dg
 split
 ·rfl
 ·rw [Xg h1 hi]
def eI (n:Int):ByteArray :=
 if n<10 then cF [48+n]
 else if n<100 then cF [48+n / 10,48+n % 10]
 else cF [48+n / 100,48+n / 10 % 10,48+n % 10]
structure CF where
 n:Int
 x:Bool
 sp:Bool
deriving DecidableEq
def xzrS:ByteArray:=⟨#[120,122,114]⟩
def wzrS:ByteArray:=⟨#[119,122,114]⟩
def spS:ByteArray:=⟨#[115,112]⟩
def wspS:ByteArray:=⟨#[119,115,112]⟩
def xS:ByteArray:=⟨#[120]⟩
def wS:ByteArray:=⟨#[119]⟩
def Nn (s:ByteArray):Int×Bool→CF×Int
 | (n,true)=>(⟨n,decide (bj s 0=120),false⟩,0)
 | (_,false)=>(⟨0,false,false⟩,30)
def i9 (lim:Nat) (s:ByteArray):CF×Int :=
 if s=xzrS then (⟨31,true,false⟩,0) else
 if s=wzrS then (⟨31,false,false⟩,0) else
 if s=spS then (⟨31,true,true⟩,0) else
 if s=wspS then (⟨31,false,true⟩,0) else
 if s.size=0∨¬(bj s 0=120∨bj s 0=119) then (⟨0,false,false⟩,30) else
 Nn s (dg lim (s.extract 1 s.size) 30)
def cA (r:CF):ByteArray×Int :=
 if r.n<0∨31<r.n∨(r.sp=true∧¬r.n=31) then (emp,30) else
 if r.sp=true∧r.x=true then (spS,0) else
 if r.sp=true then (wspS,0) else
 if r.n=31 then (if r.x then xzrS else wzrS,0) else
 ((if r.x then xS else wS)++eI r.n,0)
def sY (n:Int):CF:=⟨n % 32,decide (n / 32 % 2=1),decide (64≤n)⟩
def Cv (r:CF):Int:=r.n+(if r.x then 32 else 0)+(if r.sp then 64 else 0)
def JU:List (ByteArray×Int):=[(⟨#[101,113]⟩,0),(⟨#[110,101]⟩,1),(⟨#[99,115]⟩,2),(⟨#[99,99]⟩,3),(⟨#[109,105]⟩,4),(⟨#[112,108]⟩,5),(⟨#[118,115]⟩,6),(⟨#[118,99]⟩,7),(⟨#[104,105]⟩,8),(⟨#[108,115]⟩,9),(⟨#[103,101]⟩,10),(⟨#[108,116]⟩,11),(⟨#[103,116]⟩,12),(⟨#[108,101]⟩,13),(⟨#[97,108]⟩,14),(⟨#[110,118]⟩,15)]
def ME:List (ByteArray×Int):=[(⟨#[108,115,108]⟩,1),(⟨#[108,115,114]⟩,2),(⟨#[97,115,114]⟩,3),(⟨#[114,111,114]⟩,4),(⟨#[117,120,116,98]⟩,5),(⟨#[117,120,116,104]⟩,6),(⟨#[117,120,116,119]⟩,7),(⟨#[117,120,116,120]⟩,8),(⟨#[115,120,116,98]⟩,9),(⟨#[115,120,116,104]⟩,10),(⟨#[115,120,116,119]⟩,11),(⟨#[115,120,116,120]⟩,12)]
def sD:List (ByteArray×Int):=[(⟨#[111,115,104,108,100]⟩,1),(⟨#[111,115,104,115,116]⟩,2),(⟨#[111,115,104]⟩,3),(⟨#[110,115,104,108,100]⟩,5),(⟨#[110,115,104,115,116]⟩,6),(⟨#[110,115,104]⟩,7),(⟨#[105,115,104,108,100]⟩,9),(⟨#[105,115,104,115,116]⟩,10),(⟨#[105,115,104]⟩,11),(⟨#[108,100]⟩,13),(⟨#[115,116]⟩,14),(⟨#[115,121]⟩,15)]
def JL:List (ByteArray×Int):=[(⟨#[110,111,112]⟩,0),(⟨#[121,105,101,108,100]⟩,1),(⟨#[119,102,101]⟩,2),(⟨#[119,102,105]⟩,3),(⟨#[115,101,118]⟩,4),(⟨#[115,101,118,108]⟩,5),(⟨#[100,103,104]⟩,6),(⟨#[101,115,98]⟩,16),(⟨#[99,115,100,98]⟩,20)]
def lU:List (ByteArray×Int):=[(⟨#[109,100,115,99,114,95,101,108,49]⟩,18),(⟨#[109,105,100,114,95,101,108,49]⟩,16384),(⟨#[109,112,105,100,114,95,101,108,49]⟩,16389),(⟨#[105,100,95,97,97,54,52,112,102,114,48,95,101,108,49]⟩,16416),(⟨#[105,100,95,97,97,54,52,105,115,97,114,48,95,101,108,49]⟩,16432),(⟨#[105,100,95,97,97,54,52,109,109,102,114,48,95,101,108,49]⟩,16440),(⟨#[115,99,116,108,114,95,101,108,49]⟩,16512),(⟨#[97,99,116,108,114,95,101,108,49]⟩,16513),(⟨#[99,112,97,99,114,95,101,108,49]⟩,16514),(⟨#[116,116,98,114,48,95,101,108,49]⟩,16640),(⟨#[116,116,98,114,49,95,101,108,49]⟩,16641),(⟨#[116,99,114,95,101,108,49]⟩,16642),(⟨#[115,112,115,114,95,101,108,49]⟩,16896),(⟨#[101,108,114,95,101,108,49]⟩,16897),(⟨#[115,112,95,101,108,48]⟩,16904),(⟨#[115,112,115,101,108]⟩,16912),(⟨#[99,117,114,114,101,110,116,101,108]⟩,16914),(⟨#[101,115,114,95,101,108,49]⟩,17040),(⟨#[102,97,114,95,101,108,49]⟩,17152),(⟨#[112,97,114,95,101,108,49]⟩,17312),(⟨#[109,97,105,114,95,101,108,49]⟩,17680),(⟨#[118,98,97,114,95,101,108,49]⟩,17920),(⟨#[105,115,114,95,101,108,49]⟩,17928),(⟨#[99,111,110,116,101,120,116,105,100,114,95,101,108,49]⟩,18049),(⟨#[116,112,105,100,114,95,101,108,49]⟩,18052),(⟨#[99,116,114,95,101,108,48]⟩,22529),(⟨#[100,99,122,105,100,95,101,108,48]⟩,22535),(⟨#[110,122,99,118]⟩,23056),(⟨#[100,97,105,102]⟩,23057),(⟨#[102,112,99,114]⟩,23072),(⟨#[102,112,115,114]⟩,23073),(⟨#[116,112,105,100,114,95,101,108,48]⟩,24194),(⟨#[116,112,105,100,114,114,111,95,101,108,48]⟩,24195),(⟨#[99,110,116,102,114,113,95,101,108,48]⟩,24320),(⟨#[99,110,116,112,99,116,95,101,108,48]⟩,24321),(⟨#[99,110,116,118,99,116,95,101,108,48]⟩,24322),(⟨#[99,110,116,112,95,99,116,108,95,101,108,48]⟩,24337),(⟨#[99,110,116,118,95,99,116,108,95,101,108,48]⟩,24345),(⟨#[99,110,116,118,95,99,118,97,108,95,101,108,48]⟩,24346)]
def xF:List (ByteArray×Int):=[(⟨#[112,108,100,108,49,107,101,101,112]⟩,0),(⟨#[112,108,100,108,49,115,116,114,109]⟩,1),(⟨#[112,108,100,108,50,107,101,101,112]⟩,2),(⟨#[112,108,100,108,50,115,116,114,109]⟩,3),(⟨#[112,108,100,108,51,107,101,101,112]⟩,4),(⟨#[112,108,100,108,51,115,116,114,109]⟩,5),(⟨#[112,108,105,108,49,107,101,101,112]⟩,8),(⟨#[112,108,105,108,49,115,116,114,109]⟩,9),(⟨#[112,108,105,108,50,107,101,101,112]⟩,10),(⟨#[112,108,105,108,50,115,116,114,109]⟩,11),(⟨#[112,108,105,108,51,107,101,101,112]⟩,12),(⟨#[112,108,105,108,51,115,116,114,109]⟩,13),(⟨#[112,115,116,108,49,107,101,101,112]⟩,16),(⟨#[112,115,116,108,49,115,116,114,109]⟩,17),(⟨#[112,115,116,108,50,107,101,101,112]⟩,18),(⟨#[112,115,116,108,50,115,116,114,109]⟩,19),(⟨#[112,115,116,108,51,107,101,101,112]⟩,20),(⟨#[112,115,116,108,51,115,116,114,109]⟩,21)]
def Kb:List (ByteArray×Int):=[(⟨#[115,112,115,101,108]⟩,0),(⟨#[100,97,105,102,115,101,116]⟩,1),(⟨#[100,97,105,102,99,108,114]⟩,2),(⟨#[112,97,110]⟩,3),(⟨#[117,97,111]⟩,4),(⟨#[100,105,116]⟩,5)]
def sj (kind:Int):List (ByteArray×Int) :=
 if kind=2 then JU else if kind=3 then ME else if kind=4 then sD else if kind=5 then JL else if kind=6 then lU else if kind=7 then xF else if kind=8 then Kb else []
def Jt (n:Int) (low width:Nat):ByteArray:=eI (n / 2 ^ low % 2 ^ width)
def s1:ByteArray:=⟨#[115]⟩
def us:ByteArray:=⟨#[95]⟩
def usc:ByteArray:=⟨#[95,99]⟩
def fS (n:Int):ByteArray:=s1++eI (n / 16384+2)++us++eI (n / 2048 % 8)++usc++eI (n / 128 % 16)++usc++eI (n / 8 % 16)++us++eI (n % 8)
def CI:List (ByteArray×Int)→Int→Option ByteArray
 | [],_=>none
 | r::l,n=>if r.2=n then some r.1 else CI l n
def se:List (ByteArray×Int)→ByteArray→Option Int
 | [],_=>none
 | r::l,s=>if r.1=s then some r.2 else se l s
def cG (kind n:Int):ByteArray×Int :=
 if kind=1 then (if n<0∨128≤n then (emp,30) else cA (sY n)) else
 match CI (sj kind) n with
 | some s=>(s,0)
 | none=>if kind=6∧0≤n∧n<32768 then (fS n,0) else (emp,30)
theorem NE {l:List (ByteArray×Int)} {n:Int}:∀ {i:Nat},i≤l.length→(∀ j r,j<i→l[j]? = some r→¬r.2=n)→CI l n=CI (l.drop i) n:=by
 intro i
 induction i generalizing l with
 | zero=>intro _ _;rfl
 | succ i ih =>
  intro hi h
  cases l with
  | nil=>simp at hi
  | cons r l =>
   rw [CI,if_neg (h 0 r (by omega) rfl),List.drop_succ_cons]
   exact ih (by simpa using hi) fun j r' hj hr=>h (j+1) r' (by omega) (by simpa using hr)
theorem PV {l:List (ByteArray×Int)} {n:Int} {i:Nat} {r:ByteArray×Int} (h:∀ j r,j<i→l[j]? = some r→¬r.2=n) (hr:l[i]? = some r) (hn:r.2=n):CI l n=some r.1:=by
 have hi:i<l.length:=(List.getElem?_eq_some_iff.1 hr).1
 rw [NE (Nat.le_of_lt hi) h,List.drop_eq_getElem_cons hi,CI,if_pos]
 ·rw [List.getElem?_eq_getElem hi] at hr;injection hr with hr;rw [hr]
 ·rw [List.getElem?_eq_getElem hi] at hr;injection hr with hr;rw [hr,hn]
theorem NG {l:List (ByteArray×Int)} {n:Int} (h:∀ j r,j<l.length→l[j]? = some r→¬r.2=n):CI l n=none:=by
 rw [NE (Nat.le_refl _) h,List.drop_length,CI]
theorem OR {l:List (ByteArray×Int)} {n:ByteArray}:∀ {i:Nat},i≤l.length→(∀ j r,j<i→l[j]? = some r→¬r.1=n)→se l n=se (l.drop i) n:=by
 intro i
 induction i generalizing l with
 | zero=>intro _ _;rfl
 | succ i ih =>
  intro hi h
  cases l with
  | nil=>simp at hi
  | cons r l =>
   rw [se,if_neg (h 0 r (by omega) rfl),List.drop_succ_cons]
   exact ih (by simpa using hi) fun j r' hj hr=>h (j+1) r' (by omega) (by simpa using hr)
theorem Tc {l:List (ByteArray×Int)} {n:ByteArray} {i:Nat} {r:ByteArray×Int} (h:∀ j r,j<i→l[j]? = some r→¬r.1=n) (hr:l[i]? = some r) (hn:r.1=n):se l n=some r.2:=by
 have hi:i<l.length:=(List.getElem?_eq_some_iff.1 hr).1
 rw [OR (Nat.le_of_lt hi) h,List.drop_eq_getElem_cons hi,se,if_pos]
 ·rw [List.getElem?_eq_getElem hi] at hr;injection hr with hr;rw [hr]
 ·rw [List.getElem?_eq_getElem hi] at hr;injection hr with hr;rw [hr,hn]
theorem Pm {l:List (ByteArray×Int)} {n:ByteArray} (h:∀ j r,j<l.length→l[j]? = some r→¬r.1=n):se l n=none:=by
 rw [OR (Nat.le_refl _) h,List.drop_length,se]
end
section
open Go.RowKit
def Kg (P:Program) (t:TypeId):Nat :=
 match P.underlying t with
 | some (.int _)=>1
 | some .bool=>2
 | some .string=>3
 | _=>0
def Su (P:Program) (t:TypeId):Option (List Nat) :=
 match P.underlying t with
 | some (.struct fs)=>if P.stoodInHeld t=false∧P.eqGuardType P.depth t=false∧(fs.toList.zipIdx.all fun p=>p.1.offset==p.2&&p.1.name != "_"&&Kg P p.1.type !=0)=true then some (fs.toList.map fun f=>Kg P f.type) else none
 | _=>none
def sJ:List Nat→List Value→List Value→Option Bool
 | [],[],[]=>some true
 | 1::ks,.int k a::xs,.int k' b::ys=>if k=k' then (sJ ks xs ys).map (decide (a=b)&&·) else none
 | 2::ks,.bool a::xs,.bool b::ys=>(sJ ks xs ys).map (decide (a=b)&&·)
 | 3::ks,.string a::xs,.string b::ys=>(sJ ks xs ys).map (decide (a=b)&&·)
 | _,_,_=>none
theorem Y1 {P:Program} (w:World) (d:Nat) {t:TypeId} {k:Nat} (hk:Kg P t=k) {xs ys ks:List _} {x y:Value} {b:Bool} (h:sJ (k::ks) (x::xs) (y::ys)=some b) :
  ∃ a c,(Op.equalIn (d+1) t x y).run P w=.ok a w∧sJ ks xs ys=some c∧b=(a&&c):=by
 unfold Kg at hk
 split at hk
 ·rename_i q hu
  subst hk
  cases x<;>cases y<;>simp only [sJ] at h<;>first | cases h | skip
  rename_i k1 a k2 b'
  split at h
  case isFalse=>cases h
  rename_i he
  subst he
  rw [Option.map_eq_some_iff] at h
  obtain ⟨c,h1,h2⟩:=h
  refine ⟨a==b',c,run_equalIn_int w d t _ _ _ _ hu,h1,?_⟩
  rw [← h2]
  congr 1
 ·rename_i hu
  subst hk
  cases x<;>cases y<;>simp only [sJ] at h<;>first | cases h | skip
  rename_i a b'
  rw [Option.map_eq_some_iff] at h
  obtain ⟨c,h1,h2⟩:=h
  refine ⟨a==b',c,run_equalIn_bool w d t _ _ hu,h1,?_⟩
  rw [← h2]
  cases a<;>cases b'<;>rfl
 ·rename_i hu
  subst hk
  cases x<;>cases y<;>simp only [sJ] at h<;>first | cases h | skip
  rename_i a b'
  rw [Option.map_eq_some_iff] at h
  obtain ⟨c,h1,h2⟩:=h
  refine ⟨a.toList==b'.toList,c,run_equalIn_string w d t _ _ hu,h1,?_⟩
  rw [← h2]
  congr 1
  by_cases e:a=b'
  ·subst e;simp
  ·have:¬a.toList=b'.toList:=fun h=>e (by
    rw [ByteArray.toList_eq,ByteArray.toList_eq] at h
    exact ByteArray.ext (Array.ext' h))
   simp [e,this]
 ·subst hk
  simp only [sJ] at h
  cases h
theorem Je {P:Program} (w:World) (d:Nat) (xs ys:Array Value):∀ (fs:List Field) (j:Nat) {b:Bool},((fs.zipIdx j).all fun p=>p.1.offset==p.2&&p.1.name != "_"&&Kg P p.1.type !=0)=true→sJ (fs.map fun f=>Kg P f.type) (xs.toList.drop j) (ys.toList.drop j)=some b →
  (Op.eqFields (d+1) xs ys fs).run P w=.ok b w
 | [],j,b,_,h=>by
  cases hx:xs.toList.drop j with
  | nil=>cases hy:ys.toList.drop j with
   | nil =>
    rw [hx,hy] at h
    simp only [List.map_nil,sJ] at h
    injection h with h
    subst h
    rfl
   | cons _ _=>rw [hx,hy] at h;simp [sJ] at h
  | cons _ _=>rw [hx] at h;simp [sJ] at h
 | f::fs,j,b,hf,h=>by
  rw [List.zipIdx_cons,List.all_cons,Bool.and_eq_true] at hf
  obtain ⟨hf,hfs⟩:=hf
  simp only [Bool.and_eq_true,beq_iff_eq,bne_iff_ne,ne_eq] at hf
  obtain ⟨⟨ho,hn⟩,hk0⟩:=hf
  cases hx:xs.toList.drop j with
  | nil=>rw [hx] at h;simp only [List.map_cons] at h;unfold sJ at h;split at h<;>simp_all
  | cons x xr=>cases hy:ys.toList.drop j with
   | nil=>rw [hx,hy] at h;simp only [List.map_cons] at h;unfold sJ at h;split at h<;>simp_all
   | cons y yr =>
    rw [hx,hy,List.map_cons] at h
    obtain ⟨a,c,h1,h2,h3⟩:=Y1 w d rfl h
    have hxj:xs[j]? = some x:=by rw [← Array.getElem?_toList];have:=congrArg (·[0]?) hx;simpa using this
    have hyj:ys[j]? = some y:=by rw [← Array.getElem?_toList];have:=congrArg (·[0]?) hy;simpa using this
    have hxr:xs.toList.drop (j+1)=xr:=by have:=congrArg List.tail hx;simpa using this
    have hyr:ys.toList.drop (j+1)=yr:=by have:=congrArg List.tail hy;simpa using this
    have ih:=Je w d xs ys fs (j+1) (b:=c) hfs (by rw [hxr,hyr];exact h2)
    have hp:∀ (zs:Array Value) (z:Value),zs[j]? = some z→(part f.type zs f.offset).run P w=.ok z w:=by
     intro zs z hz
     have hr:aT P f.type=some false:=by
      unfold Kg at hk0
      unfold aT
      cases hu:P.underlying f.type with
      | none=>rw [hu] at hk0;exact absurd rfl hk0
      | some q=>rw [hu] at hk0;cases q<;>first | rfl | exact absurd rfl hk0
     rw [ho]
     unfold part
     rw [Sem.run_bind,CV hr w]
     simp [Result.andThen_ok,hz]
    rw [Op.eqFields]
    simp only [hn,ne_eq,not_false_eq_true,if_true,Sem.run_bind,hp xs x hxj,hp ys y hyj,Result.andThen_ok,h1]
    subst h3
    cases a with
    | true=>simpa using ih
    | false=>rfl
def sI (P:Program) (t:TypeId) (xs ys:List Value):Option Bool:=match Su P t with
 | some ks=>sJ ks xs ys
 | none=>none
noncomputable def Oo (P:Program) (s:Sem Value):Option Value:=sK P s
def LB (neg:Bool) (rest:Option Value):Option Bool→Option Value
 | some b=>some (.bool (if neg then !b else b))
 | none=>rest
theorem lT {rest:Option Value} {b:Bool}:LB false rest (some b)=some (.bool b):=rfl
theorem Nd {rest:Option Value} {b:Bool}:LB true rest (some b)=some (.bool (!b)):=rfl
theorem S4 {P:Program} {t:TypeId} {xs ys:List Value} {b:Bool} (h:sI P t xs ys=some b) (op:BinOp) (x y:Operand) (w:World) :
  (Op.equal t (.agg xs.toArray) (.agg ys.toArray)).run P w=.ok b w∧(eqGuard op t x y (.agg xs.toArray) (.agg ys.toArray)).run P w=.ok () w:=by
 unfold sI at h
 split at h
 case h_2=>cases h
 rename_i ks hks
 unfold Su at hks
 split at hks
 case h_2=>cases hks
 rename_i fs hu
 split at hks
 case isFalse=>cases hks
 rename_i hc
 injection hks with hks
 subst hks
 have hfo:P.fieldsOf t=fs:=by unfold Program.fieldsOf;rw [hu]
 refine ⟨?_,run_eqGuard_agg w op t x y _ _ hc.2.1⟩
 unfold Op.equal
 rw [show Op.maxDepth=9998+1+1 from rfl,run_equalIn_struct w (9998+1) t _ _ (by rw [hfo];exact hu) hc.1,hfo]
 exact Je w 9998 _ _ fs.toList 0 hc.2.2 (by simpa using h)
theorem fi {P:Program} {t:TypeId} {x y:Operand} {xs ys:List Value}:sK P (do eqGuard .eql t x y (.agg xs.toArray) (.agg ys.toArray);binOp .eql t (.agg xs.toArray) (.agg ys.toArray))=LB false (Oo P (do eqGuard .eql t x y (.agg xs.toArray) (.agg ys.toArray);binOp .eql t (.agg xs.toArray) (.agg ys.toArray))) (sI P t xs ys):=by
  cases h:sI P t xs ys with
  | none=>rfl
  | some b =>
    refine mF fun w=>?_
    obtain ⟨h1,h2⟩:=S4 h .eql x y w
    rw [Sem.run_bind,h2,Result.andThen_ok,show binOp .eql t (.agg xs.toArray) (.agg ys.toArray)=(do pure (.bool (← Op.equal t (.agg xs.toArray) (.agg ys.toArray)))) from rfl,Sem.run_bind,h1]
    rfl
theorem PE {P:Program} {t:TypeId} {x y:Operand} {xs ys:List Value}:sK P (do eqGuard .neq t x y (.agg xs.toArray) (.agg ys.toArray);binOp .neq t (.agg xs.toArray) (.agg ys.toArray))=LB true (Oo P (do eqGuard .neq t x y (.agg xs.toArray) (.agg ys.toArray);binOp .neq t (.agg xs.toArray) (.agg ys.toArray))) (sI P t xs ys):=by
  cases h:sI P t xs ys with
  | none=>rfl
  | some b =>
    refine mF fun w=>?_
    obtain ⟨h1,h2⟩:=S4 h .neq x y w
    rw [Sem.run_bind,h2,Result.andThen_ok,show binOp .neq t (.agg xs.toArray) (.agg ys.toArray)=(do pure (.bool (!(← Op.equal t (.agg xs.toArray) (.agg ys.toArray))))) from rfl,Sem.run_bind,h1]
    rfl
end
section
open Go.RowKit
section
variable {ρ ρ':Nat→Loc} {al al':Al} {g:Nat→Nat}
theorem LsRep.fwd (F:Fwd ρ ρ' al al' g):∀ {xs:List LV} {ys:List Value},LsRep ρ al xs ys→LsRep ρ' al' (xs.map (·.ren g)) ys
 | [],[],_=>trivial
 | _::_,_::_,⟨a,b,c⟩=>⟨a,LRep.fwd F b,LsRep.fwd F c⟩
theorem SRep.fwd (F:Fwd ρ ρ' al al' g) {x:SV} {y:Value} (h:SRep ρ al x y):SRep ρ' al' (x.ren g) y:=by
 cases x with
 | l x=>exact LRep.fwd F h
 | agg xs=>obtain ⟨cs,e,h⟩:=h;exact ⟨cs,e,LsRep.fwd F h⟩
theorem SsRep.fwd (F:Fwd ρ ρ' al al' g):∀ {xs:List SV} {ys:List Value},SsRep ρ al xs ys→SsRep ρ' al' (xs.map (·.ren g)) ys
 | [],[],_=>trivial
 | _::_,_::_,⟨a,b⟩=>⟨SRep.fwd F a,SsRep.fwd F b⟩
theorem ARep.fwd (F:Fwd ρ ρ' al al' g) {x:AV} {y:Value} (h:ARep ρ al x y):ARep ρ' al' (x.ren g) y:=by
 cases x with
 | s x=>exact SRep.fwd F h
 | tup xs=>obtain ⟨cs,e,h⟩:=h;exact ⟨cs,e,SsRep.fwd F h⟩
 | fn k f c=>obtain ⟨fs,cs,e,h1,h2⟩:=h;exact ⟨fs,cs,e,LsRep.fwd F h1,LsRep.fwd F h2⟩
end
def Zl (K:Nat) (s:St) (o:RO):Option AV→Prop
 | some r=>∃ r' hs ns,o=.ret r' hs ns∧hs.length=K∧ns.length≤16∧(∀ k,some k∈hs→k.own=true)∧(∀ k∈ns,k.own=true)∧Wk ⟨none,K⟩ ⟨s.nx,(0,r)::s.t,s.h⟩ ⟨K+ns.length,[(0,r')],i2 0 hs++lX K ns⟩
 | none=>False
def outRQ (P:Program) (rs:List ResultVar) (K:Nat) (o:RO):Exit→St→Prop :=
 Mm (fun s=>Zl K s o (bz P rs s)) (fun _ _=>False)
theorem outRQ_normal {P:Program} {rs:List ResultVar} {K:Nat} {o:RO} {s:St}:outRQ P rs K o .normal s=Zl K s o (bz P rs s):=rfl
theorem outRQ_ret {P:Program} {rs:List ResultVar} {K:Nat} {o:RO} {s:St}:outRQ P rs K o .ret s=Zl K s o (bz P rs s):=rfl
section
variable {P:Program}
end
end
section
open Go.RowKit
def T5 (P:Program) (t:TypeId):Option (List Nat) :=
 if Kg P t=0 then (match bF P t,Su P t with
  | some n,some ks=>if n=ks.length then some ks else none
  | _,_=>none) else some [Kg P t]
def MO (P:Program):List Field→Nat→Option (List (List Nat))
 | [],_=>some []
 | f::fs,o=>if f.offset=o∧f.name ≠ "_" then (match T5 P f.type with
  | some ks=>(MO P fs (o+ks.length)).map (ks::·)
  | none=>none) else none
def YT (P:Program) (t:TypeId):Option (List (List Nat)) :=
 match P.underlying t with
 | some (.struct fs)=>if P.stoodInHeld t=false∧P.eqGuardType P.depth t=false then MO P fs.toList 0 else none
 | _=>none
def SC:List (List Nat)→List Value→List Value→Option Bool
 | [],[],[]=>some true
 | ks::r,xs,ys=>match sJ ks (xs.take ks.length) (ys.take ks.length) with
  | some a=>(SC r (xs.drop ks.length) (ys.drop ks.length)).map (a&&·)
  | none=>none
 | _,_,_=>none
theorem Kp:∀ {ks:List Nat} {xs ys:List Value} {b:Bool},sJ ks xs ys=some b→xs.length=ks.length∧ys.length=ks.length
 | [],[],[],_,_=>⟨rfl,rfl⟩
 | [],_::_,_,_,h=>by simp [sJ] at h
 | [],[],_::_,_,h=>by simp [sJ] at h
 | k::ks,xs,ys,b,h=>by
  unfold sJ at h
  split at h
  ·rename_i e
   cases e
  ·rename_i e
   injection e with e1 e2
   subst e2
   split at h
   case isFalse=>cases h
   rw [Option.map_eq_some_iff] at h
   obtain ⟨c,hc,_⟩:=h
   have:=Kp hc
   exact ⟨congrArg (·+1) this.1,congrArg (·+1) this.2⟩
  ·rename_i e
   injection e with e1 e2
   subst e2
   rw [Option.map_eq_some_iff] at h
   obtain ⟨c,hc,_⟩:=h
   have:=Kp hc
   exact ⟨congrArg (·+1) this.1,congrArg (·+1) this.2⟩
  ·rename_i e
   injection e with e1 e2
   subst e2
   rw [Option.map_eq_some_iff] at h
   obtain ⟨c,hc,_⟩:=h
   have:=Kp hc
   exact ⟨congrArg (·+1) this.1,congrArg (·+1) this.2⟩
  ·cases h
theorem YZ {P:Program} (w:World) (d:Nat) {f:Field} {ks:List Nat} (hp:T5 P f.type=some ks) {xs ys:Array Value} {o:Nat} (ho:f.offset=o) {a:Bool} (h:sJ ks ((xs.toList.drop o).take ks.length) ((ys.toList.drop o).take ks.length)=some a) :
  ∃ x y,(part f.type xs f.offset).run P w=.ok x w∧(part f.type ys f.offset).run P w=.ok y w∧(Op.equalIn (d+2) f.type x y).run P w=.ok a w:=by
 subst ho
 unfold T5 at hp
 by_cases hk:Kg P f.type=0
 ·rw [if_pos hk] at hp
  split at hp
  case h_2=>cases hp
  rename_i n ks' hn hf
  split at hp
  case isFalse=>cases hp
  rename_i hl
  injection hp with hp
  subst hp
  have hf0:=hf
  unfold Su at hf
  split at hf
  case h_2=>cases hf
  rename_i fs hu
  split at hf
  case isFalse=>cases hf
  rename_i hc
  have hr:aT P f.type=some true:=by unfold aT;rw [hu];rfl
  have hpart:∀ zs:Array Value,(part f.type zs f.offset).run P w=.ok (.agg (zs.extract f.offset (f.offset+ks'.length))) w:=by
   intro zs
   unfold part
   rw [Sem.run_bind,Lw hr w,Result.andThen_ok]
   simp only [if_true]
   rw [Sem.run_bind,jU hn w,Result.andThen_ok,hl]
   rfl
  have hfo:P.fieldsOf f.type=fs:=by unfold Program.fieldsOf;rw [hu]
  refine ⟨_,_,hpart xs,hpart ys,?_⟩
  injection hf with hf
  rw [run_equalIn_struct w (d+1) f.type _ _ (by rw [hfo];exact hu) hc.1,hfo]
  refine Je w d _ _ fs.toList 0 hc.2.2 ?_
  rw [hf]
  have e:∀ zs:Array Value,(zs.extract f.offset (f.offset+ks'.length)).toList=(zs.toList.drop f.offset).take ks'.length:=by
   intro zs
   rw [Array.toList_extract,List.extract_eq_take_drop]
   congr 1
   omega
  rw [List.drop_zero,List.drop_zero,e,e]
  exact h
 ·rw [if_neg hk] at hp
  injection hp with hp
  subst hp
  have hx:∃ x,xs[f.offset]? = some x∧(xs.toList.drop f.offset).take 1=[x]:=by
   have:=(Kp h).1
   cases hd:xs.toList.drop f.offset with
   | nil=>rw [hd] at this;simp at this
   | cons x xr =>
    refine ⟨x,?_,by simp⟩
    rw [← Array.getElem?_toList]
    have:=congrArg (·[0]?) hd
    simpa using this
  have hy:∃ y,ys[f.offset]? = some y∧(ys.toList.drop f.offset).take 1=[y]:=by
   have:=(Kp h).2
   cases hd:ys.toList.drop f.offset with
   | nil=>rw [hd] at this;simp at this
   | cons x xr =>
    refine ⟨x,?_,by simp⟩
    rw [← Array.getElem?_toList]
    have:=congrArg (·[0]?) hd
    simpa using this
  obtain ⟨x,hx1,hx2⟩:=hx
  obtain ⟨y,hy1,hy2⟩:=hy
  rw [show [Kg P f.type].length=1 from rfl,hx2,hy2] at h
  obtain ⟨a',c,h1,h2,h3⟩:=Y1 w (d+1) (t:=f.type) rfl h
  have hc:c=true:=by simpa [sJ] using h2.symm
  have hpart:∀ (zs:Array Value) (z:Value),zs[f.offset]? = some z→(part f.type zs f.offset).run P w=.ok z w:=by
   intro zs z hz
   have hr:aT P f.type=some false:=by
    unfold Kg at hk
    unfold aT
    cases hu:P.underlying f.type with
    | none=>rw [hu] at hk;exact absurd rfl hk
    | some q=>rw [hu] at hk;cases q<;>first | rfl | exact absurd rfl hk
   unfold part
   rw [Sem.run_bind,CV hr w]
   simp [Result.andThen_ok,hz]
  refine ⟨x,y,hpart xs x hx1,hpart ys y hy1,?_⟩
  rw [h1,h3,hc,Bool.and_true]
theorem Lj {P:Program} (w:World) (d:Nat) (xs ys:Array Value):∀ (fs:List Field) (o:Nat) {ps:List (List Nat)} {b:Bool},MO P fs o=some ps→SC ps (xs.toList.drop o) (ys.toList.drop o)=some b →
  (Op.eqFields (d+2) xs ys fs).run P w=.ok b w
 | [],o,ps,b,hf,h=>by
  injection hf with hf
  subst hf
  cases hx:xs.toList.drop o with
  | nil=>cases hy:ys.toList.drop o with
   | nil =>
    rw [hx,hy,SC] at h
    injection h with h
    subst h
    rfl
   | cons _ _=>rw [hx,hy] at h;simp [SC] at h
  | cons _ _=>rw [hx] at h;simp [SC] at h
 | f::fs,o,ps,b,hf,h=>by
  rw [MO] at hf
  split at hf
  case isFalse=>cases hf
  rename_i hc
  split at hf
  case h_2=>cases hf
  rename_i ks hks
  rw [Option.map_eq_some_iff] at hf
  obtain ⟨r,hr,rfl⟩:=hf
  rw [SC] at h
  split at h
  case h_2=>cases h
  rename_i a ha
  rw [Option.map_eq_some_iff] at h
  obtain ⟨c,hc2,hb⟩:=h
  obtain ⟨x,y,p1,p2,p3⟩:=YZ w d hks hc.1 ha
  rw [List.drop_drop,List.drop_drop] at hc2
  have ih:=Lj w d xs ys fs (o+ks.length) hr hc2
  rw [Op.eqFields]
  simp only [hc.2,ne_eq,not_false_eq_true,if_true,Sem.run_bind,p1,p2,Result.andThen_ok,p3]
  subst hb
  cases a with
  | true=>simpa using ih
  | false=>rfl
def Da (P:Program) (t:TypeId) (xs ys:List Value):Option Bool:=match YT P t with
 | some ps=>SC ps xs ys
 | none=>none
theorem OQ {P:Program} {t:TypeId} {xs ys:List Value} {b:Bool} (h:Da P t xs ys=some b) (op:BinOp) (x y:Operand) (w:World) :
  (Op.equal t (.agg xs.toArray) (.agg ys.toArray)).run P w=.ok b w∧(eqGuard op t x y (.agg xs.toArray) (.agg ys.toArray)).run P w=.ok () w:=by
 unfold Da at h
 split at h
 case h_2=>cases h
 rename_i ps hps
 unfold YT at hps
 split at hps
 case h_2=>cases hps
 rename_i fs hu
 split at hps
 case isFalse=>cases hps
 rename_i hc
 have hfo:P.fieldsOf t=fs:=by unfold Program.fieldsOf;rw [hu]
 refine ⟨?_,run_eqGuard_agg w op t x y _ _ hc.2⟩
 unfold Op.equal
 rw [show Op.maxDepth=9998+1+1 from rfl,run_equalIn_struct w (9998+1) t _ _ (by rw [hfo];exact hu) hc.1,hfo]
 exact Lj w 9997 _ _ fs.toList 0 hps (by simpa using h)
theorem PL {P:Program} {t:TypeId} {x y:Operand} {xs ys:List Value} {b:Bool} (h:Da P t xs ys=some b):sK P (do eqGuard .eql t x y (.agg xs.toArray) (.agg ys.toArray);binOp .eql t (.agg xs.toArray) (.agg ys.toArray))=some (.bool b):=by
  refine mF fun w=>?_
  obtain ⟨h1,h2⟩:=OQ h .eql x y w
  rw [Sem.run_bind,h2,Result.andThen_ok,show binOp .eql t (.agg xs.toArray) (.agg ys.toArray)=(do pure (.bool (← Op.equal t (.agg xs.toArray) (.agg ys.toArray)))) from rfl,Sem.run_bind,h1]
  rfl
theorem Uy {P:Program} {t:TypeId} {x y:Operand} {xs ys:List Value}:sK P (do eqGuard .eql t x y (.agg xs.toArray) (.agg ys.toArray);binOp .eql t (.agg xs.toArray) (.agg ys.toArray))=LB false (Oo P (do eqGuard .eql t x y (.agg xs.toArray) (.agg ys.toArray);binOp .eql t (.agg xs.toArray) (.agg ys.toArray))) (Da P t xs ys):=by
  cases h:Da P t xs ys with
  | none=>rfl
  | some b=>exact PL h
end
end Go.Proofs.YthcoegkfpinlfaaGreatDoor
