import Derived.Test.YtnhbidpdadkcjaaGreatDoorG08
import Derived.Test.YtnhbidpdadkcjaaGreatDoorG09
import Derived.Laws.StructEq
open Go.RowKit
set_option linter.unusedVariables false
set_option linter.unusedSimpArgs false
set_option maxRecDepth 100000
set_option maxHeartbeats 8000000
open List (getElem?_eq_getElem drop_zero map_cons)
open Option (map_eq_some_iff)
namespace Go.Proofs.YtnhbidpdadkcjaaGreatDoor
abbrev iv (z:Int):AV:=.s (.l (.v (.int .i64 z)))
abbrev bv (b:Bool):AV:=.s (.l (.v (.bool b)))
abbrev sv (b:ByteArray):AV:=.s (.l (.v (.string b)))
abbrev pv (b i j:Nat):AV:=.s (.l (.p b i j))
abbrev im:AV:=.tup []
theorem ca (s:ByteArray)(z:Int):0≤ab s z∧ab s z≤255:=by
 unfold ab;have:=(s.data.toList.getD z.toNat 0).toNat_lt;omega
theorem ge (a:List Int):(ao a).size=a.length:=by
 show(ao a).data.size=_;simp[ao]
theorem ae (s:ByteArray):(aa s).length=s.size:=by
 show _=s.data.size;simp[aa]
theorem fx {s:ByteArray}{z:Int}(h:z∈aa s):0≤z∧z≤255:=by
 unfold aa at h;obtain⟨b,_,rfl⟩:=List.mem_map.1 h;have:=b.toNat_lt;omega
theorem bB {a:List Int}(h:∀z∈a,0≤z∧z≤255):aa (ao a)=a:=by
 unfold aa ao;simp only[List.map_map]
 conv=>rhs;rw[←List.map_id a]
 refine List.map_congr_left fun z hz=>?_;have:=h z hz;simp only[Function.comp_apply,id];rw[show(UInt8.ofNat z.toNat).toNat=z.toNat % 256 from rfl];omega
theorem eS {s t:ByteArray}(h:aa s=aa t):s=t:=by
 rw[←dO s,h,dO]
theorem cH {s:ByteArray}{i:Nat}(h:i<s.size):(aa s)[i]? = some (ab s i):=by
 have h':i<s.data.toList.length:=by simpa using h
 unfold aa ab;rw[List.getElem?_map,getElem?_eq_getElem h'];simp[List.getD_eq_getElem?_getD,getElem?_eq_getElem h']
theorem cG (s:ByteArray)(i j:Nat):aa (s.extract i j)=((aa s).drop i).take (j-i):=by
 unfold aa;rw[ByteArray.data_extract,Array.toList_extract,List.map_take,List.map_drop]
theorem db (s t:ByteArray):aa (s++t)=aa s++aa t:=by
 unfold aa;rw[ByteArray.data_append];simp
def bY (s p:ByteArray):Bool:=decide (p.size≤s.size)&&decide (s.extract 0 p.size=p)
def ln (s p:ByteArray):ByteArray×Bool:=if bY s p=true then(s.extract p.size s.size,true) else(s,false)
theorem Kf {s p:ByteArray}(h:bY s p=true):p.size≤s.size:=by
 unfold bY at h;simp at h;exact h.1
theorem sE {s p:ByteArray}:bY s p=true↔∃t,aa s=aa p++t:=by
 unfold bY;simp only[Bool.and_eq_true,decide_eq_true_eq];constructor
 ·rintro⟨h1,h2⟩;refine⟨(aa s).drop p.size,?_⟩;have:=congrArg aa h2;rw[cG,drop_zero]at this;rw[←this,Nat.sub_zero,List.take_append_drop]
 ·rintro⟨t,ht⟩;have h1:p.size≤s.size:=by rw[←ae,←ae,ht];simp
  refine⟨h1,eS ?_⟩;rw[cG,drop_zero,ht,←ae,Nat.sub_zero,List.take_left]
theorem PD (s:ByteArray)(c:Int)(hc:0≤c∧c≤255):bY s (ao [c])=decide (0<s.size∧ab s 0=c):=by
 have hb:aa (ao [c])=[c]:=bB (by simpa using hc);rw[Bool.eq_iff_iff,sE,hb,decide_eq_true_eq];constructor
 ·rintro⟨t,ht⟩;have h1:0<s.size:=by rw[←ae,ht];simp
  have h2:=cH h1;rw[ht]at h2;simp at h2;exact⟨h1,h2.symm⟩
 ·rintro⟨h1,h2⟩;have h3:=cH h1;cases hs:aa s with
  |nil=>rw[hs]at h3;cases h3
  |cons x t =>
   rw[hs]at h3;simp at h3;exact⟨t,by rw[h3,←h2];rfl⟩
def Bv {P:Program}{α β:Type}(f:FuncId)(hen:∀(args:Array Value) (w:World),(callFunc f args).run P w=.ok (.enter f args) w)(T:Ty α)(U:Ty β)(q:α→β→Prop)(out:α→β→AV)(hpl:∀x y,(out x y).plain=true)
  (calls:∀x y,q x y→∀(M:Mem) (w:World) (u v:Value),(∀b o y,M b o=some y→w.cell? ⟨b,o,none⟩=some y)→ARep ρ0 (al0 M) (T.enc x) u→ARep ρ0 (al0 M) (U.enc y) v→Calls P f #[u,v] w fun e w'=>(∃v,e=.returned v∧ARep ρ0 (al0 M) (out x y) v)∧Below w.heap.size w w'):am P f :=
 mkC f hen (e9 T U q) (fun x=>[T.enc x.1,U.enc x.2]) (fun x=>out x.1 x.2) (fun x=>hpl x.1 x.2)
  (by
   intro aS0 p x h _ ρ al vals hA;unfold e9 at h;split at h
   ·split at h
    ·rename_i hx hy;injection h with h;injection h with h1 h2;subst h2
     match vals,hA with
     |[v,u],⟨a,b,_⟩=>exact⟨T.ok hx a,U.ok hy b,trivial⟩
    ·cases h
   ·cases h)
  (by
   intro aS0 p x h hp M w vals _ hM hA;unfold e9 at h;split at h
   ·split at h
    ·injection h with h;injection h with h1 h2;subst h1;subst h2
     match vals,hA with
     |[v,u],⟨a,b,_⟩=>exact calls _ _ hp M w v u hM a b
    ·cases h
   ·cases h)
theorem Wk.fnD {ro:Cf}{s:St}(k:Nat){g:FuncId}{f c:List LV}{fd cd:List D}(hk:bI s.t k=.fn g f c)(hf:lJ f=some fd)(hc:lJ c=some cd):Wk ro s ⟨s.nx,(k,.s (.l (.d (.fn g fd cd))))::s.t,s.h⟩:=by
 intro n B w0 ρ al a w _ R;refine⟨ρ,al,R.size,R.defers,?_,R.w,R.al⟩;intro j;rw[bI];split
 ·rename_i ej;subst ej;have:=R.t k;rw[hk]at this;obtain⟨fs,cs,e,h1,h2⟩:=this;rw[e];simp only[ARep,SRep,LRep,DRep];exact⟨fs,cs,rfl,fy hf h1,fy hc h2⟩
 ·exact R.t j
theorem UK (K:Nat):∀j,j<K→(List.range K)[j]? = some j:=fun j hj=>by rw[List.getElem?_range hj]
@[go_sem] theorem mk2C_rn {P:Program} {α β:Type} {T:Ty α} {U:Ty β} {f hen q out hpl calls id h args}:(Bv (P:=P) f hen T U q out hpl calls).run id h args=fT (e9 T U q) (fun x=>.ret (out x.1 x.2)) h args:=rfl
@[go_sem] theorem mk2C_pn {P:Program} {α β:Type} {T:Ty α} {U:Ty β} {f hen q out hpl calls id h args}:(Bv (P:=P) f hen T U q out hpl calls).pan id h args=gh (e9 T U q) (fun x=>.ret (out x.1 x.2)) h args:=rfl
theorem Cv {s:ByteArray}(h:¬s=emp):0<s.size:=by
 rcases Nat.eq_zero_or_pos s.size with h1 | h1
 ·exact absurd (eS (by rw[List.eq_nil_of_length_eq_zero ((ae s).trans h1)];rfl)) h
 ·exact h1
theorem S5:emp.size=0:=rfl
def lQ (s:ByteArray):Nat→Option Int
 |0=>some 0
 |i+1=>match lQ s i with
  |some n=>if ab s i<48∨57<ab s i then none else some (10*n+(ab s i-48))
  |none=>none
def fG (lim:Nat)(s:ByteArray)(most:Int):Int×Bool :=
 if s=emp∨lim<s.size∨(1<s.size∧ab s 0=48) then(0,false) else
 match lQ s s.size with
 |some n=>(n,decide (n≤most))
 |none=>(0,false)
theorem GE {s:ByteArray}{i:Nat}(h:lQ s i=none):∀{j},i≤j→lQ s j=none:=by
 intro j hj
 induction j with
 |zero =>
  obtain rfl:i=0:=by omega
  exact h
 |succ j ih =>
  by_cases e:i=j+1
  ·rw[←e];exact h
  ·rw[lQ,ih (by omega)]
theorem qn {s:ByteArray}:∀{i:Nat} {n:Int},lQ s i=some n→0≤n∧n<10 ^ i
 |0,n,h=>by injection h with h;subst h;decide
 |i+1,n,h=>by
  rw[lQ]at h;split at h
  case h_2=>cases h
  rename_i m hm;split at h
  ·cases h
  ·injection h with h;have:=qn hm;have e:(10:Int) ^ (i+1)=10 ^ i*10:=Int.pow_succ 10 i;omega
theorem Fo {s:ByteArray}{i:Nat}{n:Int}(h:lQ s i=some n){k:Nat}(hk:i≤k):0≤n∧n<10 ^ k:=by
 have h1:=qn h
 have h2:(10:Int) ^ i≤10 ^ k:=by
  have h3:(10:Nat) ^ i≤10 ^ k:=Nat.pow_le_pow_right (by decide) hk;exact_mod_cast h3
 omega
theorem rg {lim:Nat}{s:ByteArray}{most:Int}{i:Nat}(hi:i<s.size){n:Int}(hn:lQ s i=some n)(hb:ab s i<48∨57<ab s i):fG lim s most=(0,false):=by
 have h1:lQ s (i+1)=none:=by rw[lQ,hn];simp only[hb,if_true]
 unfold fG;split
 ·rfl
 ·rw[GE h1 hi]
def da (n:Int):ByteArray :=
 if n<10 then ao [48+n]
 else if n<100 then ao [48+n / 10,48+n % 10]
 else ao [48+n / 100,48+n / 10 % 10,48+n % 10]
structure gO where
 n:Int
 x:Bool
 sp:Bool
deriving DecidableEq
def Sn:ByteArray:=⟨#[120,122,114]⟩
def Sm:ByteArray:=⟨#[119,122,114]⟩
def spS:ByteArray:=⟨#[115,112]⟩
def Sl:ByteArray:=⟨#[119,115,112]⟩
def xS:ByteArray:=⟨#[120]⟩
def wS:ByteArray:=⟨#[119]⟩
def BY (s:ByteArray):Int×Bool→gO×Int
 |(n,true)=>(⟨n,decide (ab s 0=120),false⟩,0)
 |(_,false)=>(⟨0,false,false⟩,30)
def fi (lim:Nat)(s:ByteArray):gO×Int :=
 if s=Sn then(⟨31,true,false⟩,0) else
 if s=Sm then(⟨31,false,false⟩,0) else
 if s=spS then(⟨31,true,true⟩,0) else
 if s=Sl then(⟨31,false,true⟩,0) else
 if s.size=0∨¬(ab s 0=120∨ab s 0=119) then(⟨0,false,false⟩,30) else
 BY s (fG lim (s.extract 1 s.size) 30)
def aH (r:gO):ByteArray×Int :=
 if r.n<0∨31<r.n∨(r.sp=true∧¬r.n=31) then(emp,30) else
 if r.sp=true∧r.x=true then(spS,0) else
 if r.sp=true then(Sl,0) else
 if r.n=31 then(if r.x then Sn else Sm,0) else
 ((if r.x then xS else wS)++da r.n,0)
def j7 (n:Int):gO:=⟨n % 32,decide (n / 32 % 2=1),decide (64≤n)⟩
def sP (r:gO):Int:=r.n+(if r.x then 32 else 0)+(if r.sp then 64 else 0)
def uW:List (ByteArray×Int):=[(⟨#[101,113]⟩,0),(⟨#[110,101]⟩,1),(⟨#[99,115]⟩,2),(⟨#[99,99]⟩,3),(⟨#[109,105]⟩,4),(⟨#[112,108]⟩,5),(⟨#[118,115]⟩,6),(⟨#[118,99]⟩,7),(⟨#[104,105]⟩,8),(⟨#[108,115]⟩,9),(⟨#[103,101]⟩,10),(⟨#[108,116]⟩,11),(⟨#[103,116]⟩,12),(⟨#[108,101]⟩,13),(⟨#[97,108]⟩,14),(⟨#[110,118]⟩,15)]
def Bw:List (ByteArray×Int):=[(⟨#[108,115,108]⟩,1),(⟨#[108,115,114]⟩,2),(⟨#[97,115,114]⟩,3),(⟨#[114,111,114]⟩,4),(⟨#[117,120,116,98]⟩,5),(⟨#[117,120,116,104]⟩,6),(⟨#[117,120,116,119]⟩,7),(⟨#[117,120,116,120]⟩,8),(⟨#[115,120,116,98]⟩,9),(⟨#[115,120,116,104]⟩,10),(⟨#[115,120,116,119]⟩,11),(⟨#[115,120,116,120]⟩,12)]
def mh:List (ByteArray×Int):=[(⟨#[111,115,104,108,100]⟩,1),(⟨#[111,115,104,115,116]⟩,2),(⟨#[111,115,104]⟩,3),(⟨#[110,115,104,108,100]⟩,5),(⟨#[110,115,104,115,116]⟩,6),(⟨#[110,115,104]⟩,7),(⟨#[105,115,104,108,100]⟩,9),(⟨#[105,115,104,115,116]⟩,10),(⟨#[105,115,104]⟩,11),(⟨#[108,100]⟩,13),(⟨#[115,116]⟩,14),(⟨#[115,121]⟩,15)]
def vE:List (ByteArray×Int):=[(⟨#[110,111,112]⟩,0),(⟨#[121,105,101,108,100]⟩,1),(⟨#[119,102,101]⟩,2),(⟨#[119,102,105]⟩,3),(⟨#[115,101,118]⟩,4),(⟨#[115,101,118,108]⟩,5),(⟨#[100,103,104]⟩,6),(⟨#[101,115,98]⟩,16),(⟨#[99,115,100,98]⟩,20)]
def iZ:List (ByteArray×Int):=[(⟨#[109,100,115,99,114,95,101,108,49]⟩,18),(⟨#[109,105,100,114,95,101,108,49]⟩,16384),(⟨#[109,112,105,100,114,95,101,108,49]⟩,16389),(⟨#[105,100,95,97,97,54,52,112,102,114,48,95,101,108,49]⟩,16416),(⟨#[105,100,95,97,97,54,52,105,115,97,114,48,95,101,108,49]⟩,16432),(⟨#[105,100,95,97,97,54,52,109,109,102,114,48,95,101,108,49]⟩,16440),(⟨#[115,99,116,108,114,95,101,108,49]⟩,16512),(⟨#[97,99,116,108,114,95,101,108,49]⟩,16513),(⟨#[99,112,97,99,114,95,101,108,49]⟩,16514),(⟨#[116,116,98,114,48,95,101,108,49]⟩,16640),(⟨#[116,116,98,114,49,95,101,108,49]⟩,16641),(⟨#[116,99,114,95,101,108,49]⟩,16642),(⟨#[115,112,115,114,95,101,108,49]⟩,16896),(⟨#[101,108,114,95,101,108,49]⟩,16897),(⟨#[115,112,95,101,108,48]⟩,16904),(⟨#[115,112,115,101,108]⟩,16912),(⟨#[99,117,114,114,101,110,116,101,108]⟩,16914),(⟨#[101,115,114,95,101,108,49]⟩,17040),(⟨#[102,97,114,95,101,108,49]⟩,17152),(⟨#[112,97,114,95,101,108,49]⟩,17312),(⟨#[109,97,105,114,95,101,108,49]⟩,17680),(⟨#[118,98,97,114,95,101,108,49]⟩,17920),(⟨#[105,115,114,95,101,108,49]⟩,17928),(⟨#[99,111,110,116,101,120,116,105,100,114,95,101,108,49]⟩,18049),(⟨#[116,112,105,100,114,95,101,108,49]⟩,18052),(⟨#[99,116,114,95,101,108,48]⟩,22529),(⟨#[100,99,122,105,100,95,101,108,48]⟩,22535),(⟨#[110,122,99,118]⟩,23056),(⟨#[100,97,105,102]⟩,23057),(⟨#[102,112,99,114]⟩,23072),(⟨#[102,112,115,114]⟩,23073),(⟨#[116,112,105,100,114,95,101,108,48]⟩,24194),(⟨#[116,112,105,100,114,114,111,95,101,108,48]⟩,24195),(⟨#[99,110,116,102,114,113,95,101,108,48]⟩,24320),(⟨#[99,110,116,112,99,116,95,101,108,48]⟩,24321),(⟨#[99,110,116,118,99,116,95,101,108,48]⟩,24322),(⟨#[99,110,116,112,95,99,116,108,95,101,108,48]⟩,24337),(⟨#[99,110,116,118,95,99,116,108,95,101,108,48]⟩,24345),(⟨#[99,110,116,118,95,99,118,97,108,95,101,108,48]⟩,24346)]
def oE:List (ByteArray×Int):=[(⟨#[112,108,100,108,49,107,101,101,112]⟩,0),(⟨#[112,108,100,108,49,115,116,114,109]⟩,1),(⟨#[112,108,100,108,50,107,101,101,112]⟩,2),(⟨#[112,108,100,108,50,115,116,114,109]⟩,3),(⟨#[112,108,100,108,51,107,101,101,112]⟩,4),(⟨#[112,108,100,108,51,115,116,114,109]⟩,5),(⟨#[112,108,105,108,49,107,101,101,112]⟩,8),(⟨#[112,108,105,108,49,115,116,114,109]⟩,9),(⟨#[112,108,105,108,50,107,101,101,112]⟩,10),(⟨#[112,108,105,108,50,115,116,114,109]⟩,11),(⟨#[112,108,105,108,51,107,101,101,112]⟩,12),(⟨#[112,108,105,108,51,115,116,114,109]⟩,13),(⟨#[112,115,116,108,49,107,101,101,112]⟩,16),(⟨#[112,115,116,108,49,115,116,114,109]⟩,17),(⟨#[112,115,116,108,50,107,101,101,112]⟩,18),(⟨#[112,115,116,108,50,115,116,114,109]⟩,19),(⟨#[112,115,116,108,51,107,101,101,112]⟩,20),(⟨#[112,115,116,108,51,115,116,114,109]⟩,21)]
def wm:List (ByteArray×Int):=[(⟨#[115,112,115,101,108]⟩,0),(⟨#[100,97,105,102,115,101,116]⟩,1),(⟨#[100,97,105,102,99,108,114]⟩,2),(⟨#[112,97,110]⟩,3),(⟨#[117,97,111]⟩,4),(⟨#[100,105,116]⟩,5)]
def fE (kind:Int):List (ByteArray×Int) :=
 if kind=2 then uW else if kind=3 then Bw else if kind=4 then mh else if kind=5 then vE else if kind=6 then iZ else if kind=7 then oE else if kind=8 then wm else[]
def oY (n:Int)(low width:Nat):ByteArray:=da (n / 2 ^ low % 2 ^ width)
def s1:ByteArray:=⟨#[115]⟩
def us:ByteArray:=⟨#[95]⟩
def usc:ByteArray:=⟨#[95,99]⟩
def cO (n:Int):ByteArray:=s1++da (n / 16384+2)++us++da (n / 2048 % 8)++usc++da (n / 128 % 16)++usc++da (n / 8 % 16)++us++da (n % 8)
def iP:List (ByteArray×Int)→Int→Option ByteArray
 |[],_=>none
 |r::l,n=>if r.2=n then some r.1 else iP l n
def iQ:List (ByteArray×Int)→ByteArray→Option Int
 |[],_=>none
 |r::l,s=>if r.1=s then some r.2 else iQ l s
def aK (kind n:Int):ByteArray×Int :=
 if kind=1 then(if n<0∨128≤n then(emp,30) else aH (j7 n)) else
 match iP (fE kind) n with
 |some s=>(s,0)
 |none=>if kind=6∧0≤n∧n<32768 then(cO n,0) else(emp,30)
theorem tS {l:List (ByteArray×Int)}{n:Int}:∀{i:Nat},i≤l.length→(∀j r,j<i→l[j]? = some r→¬r.2=n)→iP l n=iP (l.drop i) n:=by
 intro i
 induction i generalizing l with
 |zero=>intro _ _;rfl
 |succ i ih =>
  intro hi h;cases l with
  |nil=>simp at hi
  |cons r l =>
   rw[iP,if_neg (h 0 r (by omega) rfl),List.drop_succ_cons];exact ih (by simpa using hi) fun j r' hj hr=>h (j+1) r' (by omega) (by simpa using hr)
theorem Hu {l:List (ByteArray×Int)}{n:Int}{i:Nat}{r:ByteArray×Int}(h:∀j r,j<i→l[j]? = some r→¬r.2=n)(hr:l[i]? = some r)(hn:r.2=n):iP l n=some r.1:=by
 have hi:i<l.length:=(List.getElem?_eq_some_iff.1 hr).1;rw[tS (Nat.le_of_lt hi) h,List.drop_eq_getElem_cons hi,iP,if_pos]
 ·rw[getElem?_eq_getElem hi]at hr;injection hr with hr;rw[hr]
 ·rw[getElem?_eq_getElem hi]at hr;injection hr with hr;rw[hr,hn]
theorem By {l:List (ByteArray×Int)}{n:Int}(h:∀j r,j<l.length→l[j]? = some r→¬r.2=n):iP l n=none:=by
 rw[tS (Nat.le_refl _) h,List.drop_length,iP]
theorem v7 {l:List (ByteArray×Int)}{n:ByteArray}:∀{i:Nat},i≤l.length→(∀j r,j<i→l[j]? = some r→¬r.1=n)→iQ l n=iQ (l.drop i) n:=by
 intro i
 induction i generalizing l with
 |zero=>intro _ _;rfl
 |succ i ih =>
  intro hi h;cases l with
  |nil=>simp at hi
  |cons r l =>
   rw[iQ,if_neg (h 0 r (by omega) rfl),List.drop_succ_cons];exact ih (by simpa using hi) fun j r' hj hr=>h (j+1) r' (by omega) (by simpa using hr)
theorem KM {l:List (ByteArray×Int)}{n:ByteArray}{i:Nat}{r:ByteArray×Int}(h:∀j r,j<i→l[j]? = some r→¬r.1=n)(hr:l[i]? = some r)(hn:r.1=n):iQ l n=some r.2:=by
 have hi:i<l.length:=(List.getElem?_eq_some_iff.1 hr).1;rw[v7 (Nat.le_of_lt hi) h,List.drop_eq_getElem_cons hi,iQ,if_pos]
 ·rw[getElem?_eq_getElem hi]at hr;injection hr with hr;rw[hr]
 ·rw[getElem?_eq_getElem hi]at hr;injection hr with hr;rw[hr,hn]
theorem D5 {l:List (ByteArray×Int)}{n:ByteArray}(h:∀j r,j<l.length→l[j]? = some r→¬r.1=n):iQ l n=none:=by
 rw[v7 (Nat.le_refl _) h,List.drop_length,iQ]
def nR (P:Program)(t:TypeId):Nat :=
 match P.underlying t with
 |some (.int _)=>1
 |some .bool=>2
 |some .string=>3
 |_=>0
def xR (P:Program)(t:TypeId):Option (List Nat) :=
 match P.underlying t with
 |some (.struct fs)=>if P.stoodInHeld t=false∧P.eqGuardType P.depth t=false∧(fs.toList.zipIdx.all fun p=>p.1.offset==p.2&&p.1.name != "_"&&nR P p.1.type !=0)=true then some (fs.toList.map fun f=>nR P f.type) else none
 |_=>none
def fN:List Nat→List Value→List Value→Option Bool
 |[],[],[]=>some true
 |1::ks,.int k a::xs,.int k' b::ys=>if k=k' then(fN ks xs ys).map (decide (a=b)&&·) else none
 |2::ks,.bool a::xs,.bool b::ys=>(fN ks xs ys).map (decide (a=b)&&·)
 |3::ks,.string a::xs,.string b::ys=>(fN ks xs ys).map (decide (a=b)&&·)
 |_,_,_=>none
theorem J7 {P:Program}(w:World)(d:Nat){t:TypeId}{k:Nat}(hk:nR P t=k){xs ys ks:List _}{x y:Value}{b:Bool}(h:fN (k::ks) (x::xs) (y::ys)=some b) :
  ∃a c,(Op.equalIn (d+1) t x y).run P w=.ok a w∧fN ks xs ys=some c∧b=(a&&c):=by
 unfold nR at hk;split at hk
 ·rename_i q hu;subst hk;cases x<;>cases y<;>simp only[fN]at h<;>first | cases h | skip
  rename_i k1 a k2 b';split at h
  case isFalse=>cases h
  rename_i he;subst he;rw[map_eq_some_iff]at h;obtain⟨c,h1,h2⟩:=h;refine⟨a==b',c,run_equalIn_int w d t _ _ _ _ hu,h1,?_⟩;rw[←h2];congr 1
 ·rename_i hu;subst hk;cases x<;>cases y<;>simp only[fN]at h<;>first | cases h | skip
  rename_i a b';rw[map_eq_some_iff]at h;obtain⟨c,h1,h2⟩:=h;refine⟨a==b',c,run_equalIn_bool w d t _ _ hu,h1,?_⟩;rw[←h2];cases a<;>cases b'<;>rfl
 ·rename_i hu;subst hk;cases x<;>cases y<;>simp only[fN]at h<;>first | cases h | skip
  rename_i a b';rw[map_eq_some_iff]at h;obtain⟨c,h1,h2⟩:=h;refine⟨a.toList==b'.toList,c,run_equalIn_string w d t _ _ hu,h1,?_⟩;rw[←h2];congr 1;by_cases e:a=b'
  ·subst e;simp
  ·have:¬a.toList=b'.toList:=fun h=>e (by
    rw[ByteArray.toList_eq,ByteArray.toList_eq]at h;exact ByteArray.ext (Array.ext' h))
   simp[e,this]
 ·subst hk;simp only[fN]at h;cases h
theorem lS {P:Program}(w:World)(d:Nat)(xs ys:Array Value):∀(fs:List Field) (j:Nat) {b:Bool},((fs.zipIdx j).all fun p=>p.1.offset==p.2&&p.1.name != "_"&&nR P p.1.type !=0)=true→fN (fs.map fun f=>nR P f.type) (xs.toList.drop j) (ys.toList.drop j)=some b →
  (Op.eqFields (d+1) xs ys fs).run P w=.ok b w
 |[],j,b,_,h=>by
  cases hx:xs.toList.drop j with
  |nil=>cases hy:ys.toList.drop j with
   |nil =>
    rw[hx,hy]at h;simp only[List.map_nil,fN]at h;injection h with h;subst h;rfl
   |cons _ _=>rw[hx,hy]at h;simp[fN]at h
  |cons _ _=>rw[hx]at h;simp[fN]at h
 |f::fs,j,b,hf,h=>by
  rw[List.zipIdx_cons,List.all_cons,Bool.and_eq_true]at hf;obtain⟨hf,hfs⟩:=hf;simp only[Bool.and_eq_true,beq_iff_eq,bne_iff_ne,ne_eq]at hf;obtain⟨⟨ho,hn⟩,hk0⟩:=hf;cases hx:xs.toList.drop j with
  |nil=>rw[hx]at h;simp only[map_cons]at h;unfold fN at h;split at h<;>simp_all
  |cons x xr=>cases hy:ys.toList.drop j with
   |nil=>rw[hx,hy]at h;simp only[map_cons]at h;unfold fN at h;split at h<;>simp_all
   |cons y yr =>
    rw[hx,hy,map_cons]at h;obtain⟨a,c,h1,h2,h3⟩:=J7 w d rfl h;have hxj:xs[j]? = some x:=by rw[←Array.getElem?_toList];have:=congrArg (·[0]?) hx;simpa using this
    have hyj:ys[j]? = some y:=by rw[←Array.getElem?_toList];have:=congrArg (·[0]?) hy;simpa using this
    have hxr:xs.toList.drop (j+1)=xr:=by have:=congrArg List.tail hx;simpa using this
    have hyr:ys.toList.drop (j+1)=yr:=by have:=congrArg List.tail hy;simpa using this
    have ih:=lS w d xs ys fs (j+1) (b:=c) hfs (by rw[hxr,hyr];exact h2)
    have hp:∀(zs:Array Value) (z:Value),zs[j]? = some z→(part f.type zs f.offset).run P w=.ok z w:=by
     intro zs z hz
     have hr:bA P f.type=some false:=by
      unfold nR at hk0;unfold bA;cases hu:P.underlying f.type with
      |none=>rw[hu]at hk0;exact absurd rfl hk0
      |some q=>rw[hu]at hk0;cases q<;>first | rfl | exact absurd rfl hk0
     rw[ho];unfold part;rw[Sem.run_bind,jK hr w];simp[Result.andThen_ok,hz]
    rw[Op.eqFields];simp only[hn,ne_eq,not_false_eq_true,if_true,Sem.run_bind,hp xs x hxj,hp ys y hyj,Result.andThen_ok,h1];subst h3;cases a with
    |true=>simpa using ih
    |false=>rfl
def eU (P:Program)(t:TypeId)(xs ys:List Value):Option Bool:=match xR P t with
 |some ks=>fN ks xs ys
 |none=>none
noncomputable def Eo (P:Program) (s:Sem Value):Option Value:=iU P s
def wi (neg:Bool)(rest:Option Value):Option Bool→Option Value
 |some b=>some (.bool (if neg then !b else b))
 |none=>rest
theorem ky {rest:Option Value}{b:Bool}:wi false rest (some b)=some (.bool b):=rfl
theorem kz {rest:Option Value}{b:Bool}:wi true rest (some b)=some (.bool (!b)):=rfl
theorem Cp {P:Program}{t:TypeId}{xs ys:List Value}{b:Bool}(h:eU P t xs ys=some b)(op:BinOp)(x y:Operand)(w:World) :
  (Op.equal t (.agg xs.toArray) (.agg ys.toArray)).run P w=.ok b w∧(eqGuard op t x y (.agg xs.toArray) (.agg ys.toArray)).run P w=.ok () w:=by
 unfold eU at h;split at h
 case h_2=>cases h
 rename_i ks hks;unfold xR at hks;split at hks
 case h_2=>cases hks
 rename_i fs hu;split at hks
 case isFalse=>cases hks
 rename_i hc;injection hks with hks;subst hks;have hfo:P.fieldsOf t=fs:=by unfold Program.fieldsOf;rw[hu]
 refine⟨?_,run_eqGuard_agg w op t x y _ _ hc.2.1⟩;unfold Op.equal;rw[show Op.maxDepth=9998+1+1 from rfl,run_equalIn_struct w (9998+1) t _ _ (by rw[hfo];exact hu) hc.1,hfo];exact lS w 9998 _ _ fs.toList 0 hc.2.2 (by simpa using h)
theorem fp {P:Program}{t:TypeId}{x y:Operand}{xs ys:List Value}:iU P (do eqGuard .eql t x y (.agg xs.toArray) (.agg ys.toArray);binOp .eql t (.agg xs.toArray) (.agg ys.toArray))=wi false (Eo P (do eqGuard .eql t x y (.agg xs.toArray) (.agg ys.toArray);binOp .eql t (.agg xs.toArray) (.agg ys.toArray))) (eU P t xs ys):=by
  cases h:eU P t xs ys with
  |none=>rfl
  |some b =>
    refine iV fun w=>?_;obtain⟨h1,h2⟩:=Cp h .eql x y w;rw[Sem.run_bind,h2,Result.andThen_ok,show binOp .eql t (.agg xs.toArray) (.agg ys.toArray)=(do pure (.bool (←Op.equal t (.agg xs.toArray) (.agg ys.toArray)))) from rfl,Sem.run_bind,h1];rfl
theorem gC {P:Program}{t:TypeId}{x y:Operand}{xs ys:List Value}:iU P (do eqGuard .neq t x y (.agg xs.toArray) (.agg ys.toArray);binOp .neq t (.agg xs.toArray) (.agg ys.toArray))=wi true (Eo P (do eqGuard .neq t x y (.agg xs.toArray) (.agg ys.toArray);binOp .neq t (.agg xs.toArray) (.agg ys.toArray))) (eU P t xs ys):=by
  cases h:eU P t xs ys with
  |none=>rfl
  |some b =>
    refine iV fun w=>?_;obtain⟨h1,h2⟩:=Cp h .neq x y w;rw[Sem.run_bind,h2,Result.andThen_ok,show binOp .neq t (.agg xs.toArray) (.agg ys.toArray)=(do pure (.bool (!(←Op.equal t (.agg xs.toArray) (.agg ys.toArray))))) from rfl,Sem.run_bind,h1];rfl
section
variable {ρ ρ':Nat→Loc}{al al':Al}{g:Nat→Nat}
theorem LsRep.fwd (F:Fwd ρ ρ' al al' g):∀{xs:List LV} {ys:List Value},LsRep ρ al xs ys→LsRep ρ' al' (xs.map (·.ren g)) ys
 |[],[],_=>trivial
 |_::_,_::_,⟨a,b,c⟩=>⟨a,LRep.fwd F b,LsRep.fwd F c⟩
theorem SRep.fwd (F:Fwd ρ ρ' al al' g){x:SV}{y:Value}(h:SRep ρ al x y):SRep ρ' al' (x.ren g) y:=by
 cases x with
 |l x=>exact LRep.fwd F h
 |agg xs=>obtain⟨cs,e,h⟩:=h;exact⟨cs,e,LsRep.fwd F h⟩
theorem SsRep.fwd (F:Fwd ρ ρ' al al' g):∀{xs:List SV} {ys:List Value},SsRep ρ al xs ys→SsRep ρ' al' (xs.map (·.ren g)) ys
 |[],[],_=>trivial
 |_::_,_::_,⟨a,b⟩=>⟨SRep.fwd F a,SsRep.fwd F b⟩
theorem ARep.fwd (F:Fwd ρ ρ' al al' g){x:AV}{y:Value}(h:ARep ρ al x y):ARep ρ' al' (x.ren g) y:=by
 cases x with
 |s x=>exact SRep.fwd F h
 |tup xs=>obtain⟨cs,e,h⟩:=h;exact⟨cs,e,SsRep.fwd F h⟩
 |fn k f c=>obtain⟨fs,cs,e,h1,h2⟩:=h;exact⟨fs,cs,e,LsRep.fwd F h1,LsRep.fwd F h2⟩
end
def vM (K:Nat)(s:St)(o:RO):Option AV→Prop
 |some r=>∃r' hs ns,o=.ret r' hs ns∧hs.length=K∧ns.length≤16∧(∀k,some k∈hs→k.own=true)∧(∀k∈ns,k.own=true)∧Wk ⟨none,K⟩ ⟨s.nx,(0,r)::s.t,s.h⟩ ⟨K+ns.length,[(0,r')],ee 0 hs++aC K ns⟩
 |none=>False
def PH (P:Program)(rs:List ResultVar)(K:Nat)(o:RO):Exit→St→Prop :=
 mX (fun s=>vM K s o (kf P rs s)) (fun _ _=>False)
theorem Oe {P:Program}{rs:List ResultVar}{K:Nat}{o:RO}{s:St}:PH P rs K o .normal s=vM K s o (kf P rs s):=rfl
theorem Sy {P:Program}{rs:List ResultVar}{K:Nat}{o:RO}{s:St}:PH P rs K o .ret s=vM K s o (kf P rs s):=rfl
def IH {X:Type}(K:Nat)(dec:ag→List AV→Option (Prop×List Nat×X))(out:X→RO)(id:Nat)(h:ag)(args:List AV):Option Res :=
 match dec h args with
 |some (q,bs,x)=>match out x with
  |.ret r hs ns=>some ⟨q,r.ren (gOf K bs id),xu (gOf K bs id) (ee 0 hs++aC K ns)++(bs.drop K).map fun b=>(b,none)⟩
  |.pan _=>none
 |none=>none
section
variable {P:Program}
end
def Ec (P:Program)(t:TypeId):Option (List Nat) :=
 if nR P t=0 then(match cD P t,xR P t with
  |some n,some ks=>if n=ks.length then some ks else none
  |_,_=>none) else some [nR P t]
def rQ (P:Program):List Field→Nat→Option (List (List Nat))
 |[],_=>some []
 |f::fs,o=>if f.offset=o∧f.name ≠ "_" then(match Ec P f.type with
  |some ks=>(rQ P fs (o+ks.length)).map (ks::·)
  |none=>none) else none
def JU (P:Program)(t:TypeId):Option (List (List Nat)) :=
 match P.underlying t with
 |some (.struct fs)=>if P.stoodInHeld t=false∧P.eqGuardType P.depth t=false then rQ P fs.toList 0 else none
 |_=>none
def AS:List (List Nat)→List Value→List Value→Option Bool
 |[],[],[]=>some true
 |ks::r,xs,ys=>match fN ks (xs.take ks.length) (ys.take ks.length) with
  |some a=>(AS r (xs.drop ks.length) (ys.drop ks.length)).map (a&&·)
  |none=>none
 |_,_,_=>none
theorem oz:∀{ks:List Nat} {xs ys:List Value} {b:Bool},fN ks xs ys=some b→xs.length=ks.length∧ys.length=ks.length
 |[],[],[],_,_=>⟨rfl,rfl⟩
 |[],_::_,_,_,h=>by simp[fN]at h
 |[],[],_::_,_,h=>by simp[fN]at h
 |k::ks,xs,ys,b,h=>by
  unfold fN at h;split at h
  ·rename_i e;cases e
  ·rename_i e;injection e with e1 e2;subst e2;split at h
   case isFalse=>cases h
   rw[map_eq_some_iff]at h;obtain⟨c,hc,_⟩:=h;have:=oz hc;exact⟨congrArg (·+1) this.1,congrArg (·+1) this.2⟩
  ·rename_i e;injection e with e1 e2;subst e2;rw[map_eq_some_iff]at h;obtain⟨c,hc,_⟩:=h;have:=oz hc;exact⟨congrArg (·+1) this.1,congrArg (·+1) this.2⟩
  ·rename_i e;injection e with e1 e2;subst e2;rw[map_eq_some_iff]at h;obtain⟨c,hc,_⟩:=h;have:=oz hc;exact⟨congrArg (·+1) this.1,congrArg (·+1) this.2⟩
  ·cases h
theorem LA {P:Program}(w:World)(d:Nat){f:Field}{ks:List Nat}(hp:Ec P f.type=some ks){xs ys:Array Value}{o:Nat}(ho:f.offset=o){a:Bool}(h:fN ks ((xs.toList.drop o).take ks.length) ((ys.toList.drop o).take ks.length)=some a) :
  ∃x y,(part f.type xs f.offset).run P w=.ok x w∧(part f.type ys f.offset).run P w=.ok y w∧(Op.equalIn (d+2) f.type x y).run P w=.ok a w:=by
 subst ho;unfold Ec at hp;by_cases hk:nR P f.type=0
 ·rw[if_pos hk]at hp;split at hp
  case h_2=>cases hp
  rename_i n ks' hn hf;split at hp
  case isFalse=>cases hp
  rename_i hl;injection hp with hp;subst hp;have hf0:=hf;unfold xR at hf;split at hf
  case h_2=>cases hf
  rename_i fs hu;split at hf
  case isFalse=>cases hf
  rename_i hc;have hr:bA P f.type=some true:=by unfold bA;rw[hu];rfl
  have hpart:∀zs:Array Value,(part f.type zs f.offset).run P w=.ok (.agg (zs.extract f.offset (f.offset+ks'.length))) w:=by
   intro zs;unfold part;rw[Sem.run_bind,qu hr w,Result.andThen_ok];simp only[if_true];rw[Sem.run_bind,eM hn w,Result.andThen_ok,hl];rfl
  have hfo:P.fieldsOf f.type=fs:=by unfold Program.fieldsOf;rw[hu]
  refine⟨_,_,hpart xs,hpart ys,?_⟩;injection hf with hf;rw[run_equalIn_struct w (d+1) f.type _ _ (by rw[hfo];exact hu) hc.1,hfo];refine lS w d _ _ fs.toList 0 hc.2.2 ?_;rw[hf]
  have e:∀zs:Array Value,(zs.extract f.offset (f.offset+ks'.length)).toList=(zs.toList.drop f.offset).take ks'.length:=by
   intro zs;rw[Array.toList_extract,List.extract_eq_take_drop];congr 1;omega
  rw[drop_zero,drop_zero,e,e];exact h
 ·rw[if_neg hk]at hp;injection hp with hp;subst hp
  have hx:∃x,xs[f.offset]? = some x∧(xs.toList.drop f.offset).take 1=[x]:=by
   have:=(oz h).1;cases hd:xs.toList.drop f.offset with
   |nil=>rw[hd]at this;simp at this
   |cons x xr =>
    refine⟨x,?_,by simp⟩;rw[←Array.getElem?_toList];have:=congrArg (·[0]?) hd;simpa using this
  have hy:∃y,ys[f.offset]? = some y∧(ys.toList.drop f.offset).take 1=[y]:=by
   have:=(oz h).2;cases hd:ys.toList.drop f.offset with
   |nil=>rw[hd]at this;simp at this
   |cons x xr =>
    refine⟨x,?_,by simp⟩;rw[←Array.getElem?_toList];have:=congrArg (·[0]?) hd;simpa using this
  obtain⟨x,hx1,hx2⟩:=hx;obtain⟨y,hy1,hy2⟩:=hy;rw[show[nR P f.type].length=1 from rfl,hx2,hy2]at h;obtain⟨a',c,h1,h2,h3⟩:=J7 w (d+1) (t:=f.type) rfl h;have hc:c=true:=by simpa[fN] using h2.symm
  have hpart:∀(zs:Array Value) (z:Value),zs[f.offset]? = some z→(part f.type zs f.offset).run P w=.ok z w:=by
   intro zs z hz
   have hr:bA P f.type=some false:=by
    unfold nR at hk;unfold bA;cases hu:P.underlying f.type with
    |none=>rw[hu]at hk;exact absurd rfl hk
    |some q=>rw[hu]at hk;cases q<;>first | rfl | exact absurd rfl hk
   unfold part;rw[Sem.run_bind,jK hr w];simp[Result.andThen_ok,hz]
  refine⟨x,y,hpart xs x hx1,hpart ys y hy1,?_⟩;rw[h1,h3,hc,Bool.and_true]
theorem pY {P:Program}(w:World)(d:Nat)(xs ys:Array Value):∀(fs:List Field) (o:Nat) {ps:List (List Nat)} {b:Bool},rQ P fs o=some ps→AS ps (xs.toList.drop o) (ys.toList.drop o)=some b →
  (Op.eqFields (d+2) xs ys fs).run P w=.ok b w
 |[],o,ps,b,hf,h=>by
  injection hf with hf;subst hf;cases hx:xs.toList.drop o with
  |nil=>cases hy:ys.toList.drop o with
   |nil =>
    rw[hx,hy,AS]at h;injection h with h;subst h;rfl
   |cons _ _=>rw[hx,hy]at h;simp[AS]at h
  |cons _ _=>rw[hx]at h;simp[AS]at h
 |f::fs,o,ps,b,hf,h=>by
  rw[rQ]at hf;split at hf
  case isFalse=>cases hf
  rename_i hc;split at hf
  case h_2=>cases hf
  rename_i ks hks;rw[map_eq_some_iff]at hf;obtain⟨r,hr,rfl⟩:=hf;rw[AS]at h;split at h
  case h_2=>cases h
  rename_i a ha;rw[map_eq_some_iff]at h;obtain⟨c,hc2,hb⟩:=h;obtain⟨x,y,p1,p2,p3⟩:=LA w d hks hc.1 ha;rw[List.drop_drop,List.drop_drop]at hc2;have ih:=pY w d xs ys fs (o+ks.length) hr hc2;rw[Op.eqFields];simp only[hc.2,ne_eq,not_false_eq_true,if_true,Sem.run_bind,p1,p2,Result.andThen_ok,p3];subst hb;cases a with
  |true=>simpa using ih
  |false=>rfl
def su (P:Program)(t:TypeId)(xs ys:List Value):Option Bool:=match JU P t with
 |some ps=>AS ps xs ys
 |none=>none
theorem LY {P:Program}{t:TypeId}{xs ys:List Value}{b:Bool}(h:su P t xs ys=some b)(op:BinOp)(x y:Operand)(w:World) :
  (Op.equal t (.agg xs.toArray) (.agg ys.toArray)).run P w=.ok b w∧(eqGuard op t x y (.agg xs.toArray) (.agg ys.toArray)).run P w=.ok () w:=by
 unfold su at h;split at h
 case h_2=>cases h
 rename_i ps hps;unfold JU at hps;split at hps
 case h_2=>cases hps
 rename_i fs hu;split at hps
 case isFalse=>cases hps
 rename_i hc;have hfo:P.fieldsOf t=fs:=by unfold Program.fieldsOf;rw[hu]
 refine⟨?_,run_eqGuard_agg w op t x y _ _ hc.2⟩;unfold Op.equal;rw[show Op.maxDepth=9998+1+1 from rfl,run_equalIn_struct w (9998+1) t _ _ (by rw[hfo];exact hu) hc.1,hfo];exact pY w 9997 _ _ fs.toList 0 hps (by simpa using h)
def wj (P:Program)(rs:List ResultVar)(K:Nat)(o:RO):Exit→St→Prop :=
 mX (fun s=>vM K s o (kf P rs s)) (fun y _=>o=.pan y)
theorem bQ {P:Program}{rs:List ResultVar}{K:Nat}{o:RO}{s:St}:wj P rs K o .normal s=vM K s o (kf P rs s):=rfl
theorem dl {P:Program}{rs:List ResultVar}{K:Nat}{o:RO}{s:St}:wj P rs K o .ret s=vM K s o (kf P rs s):=rfl
theorem cf {P:Program}{rs:List ResultVar}{K:Nat}{o:RO}{x:Value}{s:St}:wj P rs K o (.panic [{ v:=x,recovered:=false }]) s=(o=.pan x):=mY
section
variable {P:Program}
def UE {X:Type}(K N:Nat)(hKN:K≤N)(f:FuncId)(fn:Func)(c:Code)(hf:P.funcs[f]? = some fn)(hb:fn.body=some c)
  (hen:∀(args:Array Value) (w:World),(callFunc f args).run P w=.ok (.enter f args) w)
  (dec:ag→List AV→Option (Prop×List Nat×X)) (encA:X→List AV) (encK:X→List Blk) (out:X→RO) (hn0:0<fn.ntmps)
  (hmono:∀{h h':ag} {args:List AV} {r:Prop×List Nat×X},(∀b k,ac h b=some k→ac h' b=some k)→dec h args=some r→dec h' args=some r)
  (hdec:∀{h:ag} {aS0:List AV} {q:Prop} {bs:List Nat} {x:X},dec h aS0=some (q,bs,x)→q→(encA x).length≤fn.ntmps∧bs.length=N∧(encK x).length=N∧bs.Nodup ∧
   ∀d:Nat,(∀(j b:Nat) (k:Blk),bs[j]? = some b→(encK x)[j]? = some k→k.own=true∧ac h b=some (k.ren fun j=>bs.getD j d)) ∧
    ∀(ρ:Nat→Loc) (al:Al) (vals:List Value),AsRep ρ al aS0 vals→AsRep (fun j=>ρ (bs.getD j d)) (alR al fun j=>bs.getD j d) (encA x) vals)
  (body:∀{h:ag} {aS0:List AV} {q:Prop} {bs:List Nat} {x:X},dec h aS0=some (q,bs,x)→q→SW P ⟨none,K⟩ fn.ntmps c ⟨N,ax 0 (encA x),aC 0 (encK x)⟩ (wj P fn.results.toList K (out x))):am P f where
 enter:=hen
 run:=fun id h args=>IH K dec out id h args
 pan:=fun _ h args=>iT dec out h args
 mono:=by
  intro id h h' args R hs hr;unfold IH at hr ⊢;split at hr
  case h_2=>cases hr
  rename_i q bs x hd;rw[hmono hs hd];exact hr
 sound:=by
  intro id h args R hr hob B w0 ρ al w vals H hid hA;unfold IH at hr;split at hr
  case h_2=>cases hr
  rename_i q bs x hd;split at hr
  case h_2=>cases hr
  rename_i r hs ns hout;injection hr with hr;subst hr;obtain⟨hlen,hK,hKl,hnd,hall⟩:=hdec hd hob;obtain⟨hks,henc⟩:=hall id;have hKb:K≤bs.length:=by omega
  have hA1:=henc ρ al vals hA;have hl:=hA1.length;have h0:¬al id:=hid id (Nat.le_refl _) (by omega);have H1:=zj H hKb h0 (by rw[hKl,hK]) hnd hks
  have hbs:∀b∈bs,∃k,ac h b=some k∧k.own=true:=fun b hb=>by
   obtain⟨j,hj,rfl⟩:=List.mem_iff_getElem.1 hb;obtain⟨g1,g2⟩:=hks j bs[j] ((encK x)[j]'(by omega)) (getElem?_eq_getElem hj) (getElem?_eq_getElem _);exact⟨_,g2,g1⟩
  refine eP (K:=K) (B:=ic w ρ al bs K id H.gok) (ρ:=fun j=>ρ (bs.getD j id)) (al:=alR al fun j=>bs.getD j id) (s0:=⟨N,ax 0 (encA x),aC 0 (encK x)⟩) hf hb (by simp[ic]) rfl ⟨by simp;omega,Marks.nil _ _ _,gI hA1 _,H1,fun b hb=>?_⟩ (body hd hob) ?_ ?_
  ·rcases Nat.lt_or_ge b bs.length with h | h
   ·show b<N;omega
   ·have:al (bs.getD b id):=hb;rw[List.getD_eq_getElem?_getD,List.getElem?_eq_none h]at this;exact absurd this h0
  ·intro s ρ1 al1 a w1 hq1 HS;cases hret:kf P fn.results.toList s with
   |none=>rw[hret]at hq1;exact hq1.elim
   |some r0 =>
    rw[hret]at hq1;obtain⟨r',hs',ns',e,hl1,hl2,ho1,ho2,hwk⟩:=hq1;rw[hout]at e;injection e with e1 e2 e3;subst e1;subst e2;subst e3;obtain⟨v,g1,g2⟩:=jg (fn:=fn) HS hret
    have HS0:RepS fn.ntmps (ic w ρ al bs K id H.gok) w ρ1 al1 ⟨s.nx,(0,r0)::s.t,s.h⟩ (a.put (some 0) v) w1 :=
     ⟨by rw[gD];exact HS.size,by rw[cT];exact HS.defers,TRep.putT HS.t HS.size (d:=some 0) (by simpa[bC] using hn0) g2,HS.w,HS.al⟩
    obtain⟨ρ2,al2,HS2⟩:=hwk _ _ _ _ _ _ _ (by simp[ic]) HS0;obtain⟨ρ',al',k1,k2,k3,k4⟩:=FB H hKb hid hnd hbs hl1 hl2 ho1 ho2 HS2.w HS2.al
    have hv:ARep ρ2 al2 r v:=by
     have:=HS2.t 0
     have h2:(a.put (some 0) v).tmps.getD 0 undef=v:=by
      have hs:0<a.tmps.size:=by rw[HS.size];exact hn0
      simp[Act.put,hs]
     rw[h2]at this;exact this
    exact⟨v,g1,v,ρ',al',rfl,k1,k2,hv.fwd k4,by simpa only[List.append_assoc] using k3⟩
  ·intro y s ρ1 al1 a w1 h1 HS;rw[hout]at h1;cases h1
 psound:=by
  intro id h args ob y E hr hob B w0 ρ al w vals H hid hA;unfold iT at hr;split at hr
  case h_2=>cases hr
  rename_i q bs x hd;split at hr
  case h_1=>cases hr
  rename_i v hout;injection hr with hr;injection hr with e1 hr;injection hr with e2 e3;subst e1;subst e2;subst e3;obtain⟨hlen,hK,hKl,hnd,hall⟩:=hdec hd hob;obtain⟨hks,henc⟩:=hall id;have hKb:K≤bs.length:=by omega
  have hA1:=henc ρ al vals hA;have hl:=hA1.length;have h0:¬al id:=hid id (Nat.le_refl _) (by omega);have H1:=zj H hKb h0 (by rw[hKl,hK]) hnd hks
  have hbs:∀b∈bs,∃k,ac h b=some k∧k.own=true:=fun b hb=>by
   obtain⟨j,hj,rfl⟩:=List.mem_iff_getElem.1 hb;obtain⟨g1,g2⟩:=hks j bs[j] ((encK x)[j]'(by omega)) (getElem?_eq_getElem hj) (getElem?_eq_getElem _);exact⟨_,g2,g1⟩
  refine eP (K:=K) (B:=ic w ρ al bs K id H.gok) (ρ:=fun j=>ρ (bs.getD j id)) (al:=alR al fun j=>bs.getD j id) (s0:=⟨N,ax 0 (encA x),aC 0 (encK x)⟩) hf hb (by simp[ic]) rfl ⟨by simp;omega,Marks.nil _ _ _,gI hA1 _,H1,fun b hb=>?_⟩ (body hd hob) ?_ ?_
  ·rcases Nat.lt_or_ge b bs.length with h | h
   ·show b<N;omega
   ·have:al (bs.getD b id):=hb;rw[List.getD_eq_getElem?_getD,List.getElem?_eq_none h]at this;exact absurd this h0
  ·intro s ρ1 al1 a w1 hq1 HS;cases hret:kf P fn.results.toList s with
   |none=>rw[hret]at hq1;exact hq1.elim
   |some r0 =>
    rw[hret]at hq1;obtain⟨r',hs',ns',e,_⟩:=hq1;rw[hout]at e;cases e
  ·intro y' s ρ1 al1 a w1 h1 HS;rw[hout]at h1;injection h1 with h1;subst h1
   obtain⟨ρ2,al2,HS2⟩:=(Wk.ren (ro:=⟨none,K⟩) (s:=s) (s':=⟨K,[],ee 0 (List.replicate K none)⟩) (List.range K) (fun j hj=>by rw[List.getElem?_range hj]) (by simp) List.nodup_range (by simp) (by
    intro p hp k hk;obtain⟨j,o⟩:=p;simp only at hk;subst hk
    have:∀(n i j:Nat) (k:Blk),(j,some k)∉ee i (List.replicate n none):=by
     intro n
     induction n with
     |zero=>intro i j k hm;simp[ee]at hm
     |succ n ih=>intro i j k hm;simp[List.replicate_succ,ee]at hm;exact ih _ _ _ hm
    exact absurd hp (this _ _ _ _))) _ _ _ _ _ _ _ (by simp[ic]) HS
   obtain⟨ρ',al',k1,k2,k3⟩:=DT H hKb hid hnd hbs (ns:=[]) (hs:=List.replicate K none) (by simp) (by simp) (by intro k hk;simp[List.mem_replicate]at hk) (by simp) (by simpa[aC] using HS2.w) (by simpa using HS2.al);refine⟨ρ',al',rfl,k1,k2,k3.sub fun b k hk=>?_⟩;obtain⟨h3,h4⟩:=co hk;rw[←h4]
   have:∀E:ag,(∀x∈E,x.1≠b)→ac (E++h) b=ac h b:=by
    intro E
    induction E with
    |nil=>intro _;rfl
    |cons x E ih =>
     intro hE;obtain⟨c,o⟩:=x;rw[List.cons_append,ac,if_neg (hE (c,o) (by simp))];exact ih fun y hy=>hE y (by simp[hy])
   rw[←List.append_assoc];refine this _ fun y hy=>?_;rcases List.mem_append.1 hy with hy | hy
   ·simp only[xu,aC,List.append_nil,List.mem_map]at hy;obtain⟨z,hz,rfl⟩:=hy;have hkz:z.1∈iK (ee 0 (List.replicate K none)):=List.mem_map.2 ⟨z,hz,rfl⟩;rw[pF]at hkz;have hz2:z.1<K:=by simpa using hkz
    have hz3:z.1<bs.length:=by omega
    simp only[gOf,if_pos hz2,iH hz3];rintro rfl;exact h3 (List.getElem_mem hz3)
   ·obtain⟨c,hc,rfl⟩:=List.mem_map.1 hy;rintro rfl;exact h3 (List.mem_of_mem_drop hc)
end
section
variable {P:Program}
theorem DQ {n:Nat}{rid:Nat}{oD:Oper}{g:FuncId}{x:Operand}{args:Array Operand}{ats:Array TypeId}{js:List Nat}{s1:St}
  (hD:oD.op=.defer { callee:=.value x,args:=args,argTypes:=ats }) (hDd:oD.dst=none) (hDg:oD.guard=none) (hx:∀a:Act,a.eval x=.func (.func g) #[] #[]) (hen:∀(args:Array Value) (w:World),(callFunc g args).run P w=.ok (.enter g args) w)
  (hargs:args.toList.map (evT s1.t)=pvs js):Lays P n (.region rid #[oD] false) s1 s1.t g js:=by
 intro K B w0 ρ al a w H;let d:Deferred:={ target:=.fn (.func g) #[],args:=#[]++args.map a.eval }
 refine⟨d,.func g,#[],args.toList.map a.eval,{ a with defers:=d::a.defers },?_,rfl,H.size,H.t,rfl,?_,?_⟩
 ·refine wpIn_region ?_;have w2:Region.wanted oD (yielded #[oD] a.tmps)=true:=by unfold Region.wanted;rw[hDg]
  show wpOpsIn _ _ _ _ _ [0] a w;simp only[wpOpsIn,List.getElem?_toArray,List.getElem?_cons_zero];rw[if_pos w2];refine⟨fun _ _=>trivial,?_⟩
  have e2:(oD.semAt (Fw ⟨none,K⟩).round a.eval).run P w=.ok (.defer d) w:=by
   rw[show(Fw ⟨none,K⟩).round=none from rfl,Oper.semAt_none];simp only[execOp,hD,resolve,hx a,Deferred.ofValue,Sem.run_bind,Sem.run_pure,Result.andThen_ok];simp[d]
  rw[e2,Oper.uponIn_defer,hDd];exact⟨trivial,rfl,rfl⟩
 ·intro w;simp[d,invoke,hen];rw[←Array.toList_inj];simp
 ·rw[←hargs]
  have:∀l:List Operand,AsRep ρ al (l.map (evT s1.t)) (l.map a.eval):=by
   intro l
   induction l with
   |nil=>trivial
   |cons x l ih=>exact⟨gJ H.t x,ih⟩
  exact this _
end
end Go.Proofs.YtnhbidpdadkcjaaGreatDoor
