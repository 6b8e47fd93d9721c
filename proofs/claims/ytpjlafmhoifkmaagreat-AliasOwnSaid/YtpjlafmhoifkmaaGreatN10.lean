import Derived.Test.YtpjlafmhoifkmaaGreatN09
import Derived.Test.YtpjlafmhoifkmaaGreatN01
import Derived.Laws.StructEq
set_option linter.unusedVariables false
set_option linter.unusedSimpArgs false
set_option maxRecDepth 100000
set_option maxHeartbeats 8000000
namespace Go.Proofs.YtpjlafmhoifkmaaGreat
section
open Go.RowKit
abbrev iv (z:Int):AV:=.s (.l (.v (.int .i64 z)))
abbrev bv (b:Bool):AV:=.s (.l (.v (.bool b)))
abbrev sv (b:ByteArray):AV:=.s (.l (.v (.string b)))
theorem i6 (a:List Int):(cu a).size=a.length:=by
 show (cu a).data.size=_
 simp [cu]
theorem Wk.fnD {ro:Cf} {s:St} (k:Nat) {g:FuncId} {f c:List LV} {fd cd:List D} (hk:cR s.t k=.fn g f c) (hf:g7 f=some fd) (hc:g7 c=some cd):Wk ro s ⟨s.nx,(k,.s (.l (.d (.fn g fd cd))))::s.t,s.h⟩:=by
 intro n B w0 ρ al a w _ R
 refine ⟨ρ,al,R.size,R.defers,?_,R.w,R.al⟩
 intro j
 rw [cR]
 split
 ·rename_i ej
  subst ej
  have:=R.t k
  rw [hk] at this
  obtain ⟨fs,cs,e,h1,h2⟩:=this
  rw [e]
  simp only [ARep,SRep,LRep,DRep]
  exact ⟨fs,cs,rfl,ef hf h1,ef hc h2⟩
 ·exact R.t j
theorem Ey (K:Nat):∀ j,j<K→(List.range K)[j]? = some j:=fun j hj=>by rw [List.getElem?_range hj]
end
section
open Go.RowKit
theorem MQ:emp.size=0:=rfl
def fm (n:Int):ByteArray :=
 if n<10 then cu [48+n]
 else if n<100 then cu [48+n / 10,48+n % 10]
 else cu [48+n / 100,48+n / 10 % 10,48+n % 10]
structure pM where
 n:Int
 x:Bool
 sp:Bool
deriving DecidableEq
def xzrS:ByteArray:=⟨#[120,122,114]⟩
def wzrS:ByteArray:=⟨#[119,122,114]⟩
def spS:ByteArray:=⟨#[115,112]⟩
def wspS:ByteArray:=⟨#[119,115,112]⟩
def xS:ByteArray:=⟨#[120]⟩
def wS:ByteArray:=⟨#[119]⟩
def cH (r:pM):ByteArray×Int :=
 if r.n<0∨31<r.n∨(r.sp=true∧¬r.n=31) then (emp,30) else
 if r.sp=true∧r.x=true then (spS,0) else
 if r.sp=true then (wspS,0) else
 if r.n=31 then (if r.x then xzrS else wzrS,0) else
 ((if r.x then xS else wS)++fm r.n,0)
def Iv (n:Int):pM:=⟨n % 32,decide (n / 32 % 2=1),decide (64≤n)⟩
def fE:List (ByteArray×Int):=[(⟨#[101,113]⟩,0),(⟨#[110,101]⟩,1),(⟨#[99,115]⟩,2),(⟨#[99,99]⟩,3),(⟨#[109,105]⟩,4),(⟨#[112,108]⟩,5),(⟨#[118,115]⟩,6),(⟨#[118,99]⟩,7),(⟨#[104,105]⟩,8),(⟨#[108,115]⟩,9),(⟨#[103,101]⟩,10),(⟨#[108,116]⟩,11),(⟨#[103,116]⟩,12),(⟨#[108,101]⟩,13),(⟨#[97,108]⟩,14),(⟨#[110,118]⟩,15)]
def NF:List (ByteArray×Int):=[(⟨#[108,115,108]⟩,1),(⟨#[108,115,114]⟩,2),(⟨#[97,115,114]⟩,3),(⟨#[114,111,114]⟩,4),(⟨#[117,120,116,98]⟩,5),(⟨#[117,120,116,104]⟩,6),(⟨#[117,120,116,119]⟩,7),(⟨#[117,120,116,120]⟩,8),(⟨#[115,120,116,98]⟩,9),(⟨#[115,120,116,104]⟩,10),(⟨#[115,120,116,119]⟩,11),(⟨#[115,120,116,120]⟩,12)]
def yj:List (ByteArray×Int):=[(⟨#[111,115,104,108,100]⟩,1),(⟨#[111,115,104,115,116]⟩,2),(⟨#[111,115,104]⟩,3),(⟨#[110,115,104,108,100]⟩,5),(⟨#[110,115,104,115,116]⟩,6),(⟨#[110,115,104]⟩,7),(⟨#[105,115,104,108,100]⟩,9),(⟨#[105,115,104,115,116]⟩,10),(⟨#[105,115,104]⟩,11),(⟨#[108,100]⟩,13),(⟨#[115,116]⟩,14),(⟨#[115,121]⟩,15)]
def fu:List (ByteArray×Int):=[(⟨#[110,111,112]⟩,0),(⟨#[121,105,101,108,100]⟩,1),(⟨#[119,102,101]⟩,2),(⟨#[119,102,105]⟩,3),(⟨#[115,101,118]⟩,4),(⟨#[115,101,118,108]⟩,5),(⟨#[100,103,104]⟩,6),(⟨#[101,115,98]⟩,16),(⟨#[99,115,100,98]⟩,20)]
def DY:List (ByteArray×Int):=[(⟨#[109,100,115,99,114,95,101,108,49]⟩,18),(⟨#[109,105,100,114,95,101,108,49]⟩,16384),(⟨#[109,112,105,100,114,95,101,108,49]⟩,16389),(⟨#[105,100,95,97,97,54,52,112,102,114,48,95,101,108,49]⟩,16416),(⟨#[105,100,95,97,97,54,52,105,115,97,114,48,95,101,108,49]⟩,16432),(⟨#[105,100,95,97,97,54,52,109,109,102,114,48,95,101,108,49]⟩,16440),(⟨#[115,99,116,108,114,95,101,108,49]⟩,16512),(⟨#[97,99,116,108,114,95,101,108,49]⟩,16513),(⟨#[99,112,97,99,114,95,101,108,49]⟩,16514),(⟨#[116,116,98,114,48,95,101,108,49]⟩,16640),(⟨#[116,116,98,114,49,95,101,108,49]⟩,16641),(⟨#[116,99,114,95,101,108,49]⟩,16642),(⟨#[115,112,115,114,95,101,108,49]⟩,16896),(⟨#[101,108,114,95,101,108,49]⟩,16897),(⟨#[115,112,95,101,108,48]⟩,16904),(⟨#[115,112,115,101,108]⟩,16912),(⟨#[99,117,114,114,101,110,116,101,108]⟩,16914),(⟨#[101,115,114,95,101,108,49]⟩,17040),(⟨#[102,97,114,95,101,108,49]⟩,17152),(⟨#[112,97,114,95,101,108,49]⟩,17312),(⟨#[109,97,105,114,95,101,108,49]⟩,17680),(⟨#[118,98,97,114,95,101,108,49]⟩,17920),(⟨#[105,115,114,95,101,108,49]⟩,17928),(⟨#[99,111,110,116,101,120,116,105,100,114,95,101,108,49]⟩,18049),(⟨#[116,112,105,100,114,95,101,108,49]⟩,18052),(⟨#[99,116,114,95,101,108,48]⟩,22529),(⟨#[100,99,122,105,100,95,101,108,48]⟩,22535),(⟨#[110,122,99,118]⟩,23056),(⟨#[100,97,105,102]⟩,23057),(⟨#[102,112,99,114]⟩,23072),(⟨#[102,112,115,114]⟩,23073),(⟨#[116,112,105,100,114,95,101,108,48]⟩,24194),(⟨#[116,112,105,100,114,114,111,95,101,108,48]⟩,24195),(⟨#[99,110,116,102,114,113,95,101,108,48]⟩,24320),(⟨#[99,110,116,112,99,116,95,101,108,48]⟩,24321),(⟨#[99,110,116,118,99,116,95,101,108,48]⟩,24322),(⟨#[99,110,116,112,95,99,116,108,95,101,108,48]⟩,24337),(⟨#[99,110,116,118,95,99,116,108,95,101,108,48]⟩,24345),(⟨#[99,110,116,118,95,99,118,97,108,95,101,108,48]⟩,24346)]
def AU:List (ByteArray×Int):=[(⟨#[112,108,100,108,49,107,101,101,112]⟩,0),(⟨#[112,108,100,108,49,115,116,114,109]⟩,1),(⟨#[112,108,100,108,50,107,101,101,112]⟩,2),(⟨#[112,108,100,108,50,115,116,114,109]⟩,3),(⟨#[112,108,100,108,51,107,101,101,112]⟩,4),(⟨#[112,108,100,108,51,115,116,114,109]⟩,5),(⟨#[112,108,105,108,49,107,101,101,112]⟩,8),(⟨#[112,108,105,108,49,115,116,114,109]⟩,9),(⟨#[112,108,105,108,50,107,101,101,112]⟩,10),(⟨#[112,108,105,108,50,115,116,114,109]⟩,11),(⟨#[112,108,105,108,51,107,101,101,112]⟩,12),(⟨#[112,108,105,108,51,115,116,114,109]⟩,13),(⟨#[112,115,116,108,49,107,101,101,112]⟩,16),(⟨#[112,115,116,108,49,115,116,114,109]⟩,17),(⟨#[112,115,116,108,50,107,101,101,112]⟩,18),(⟨#[112,115,116,108,50,115,116,114,109]⟩,19),(⟨#[112,115,116,108,51,107,101,101,112]⟩,20),(⟨#[112,115,116,108,51,115,116,114,109]⟩,21)]
def Kc:List (ByteArray×Int):=[(⟨#[115,112,115,101,108]⟩,0),(⟨#[100,97,105,102,115,101,116]⟩,1),(⟨#[100,97,105,102,99,108,114]⟩,2),(⟨#[112,97,110]⟩,3),(⟨#[117,97,111]⟩,4),(⟨#[100,105,116]⟩,5)]
def yC (kind:Int):List (ByteArray×Int) :=
 if kind=2 then fE else if kind=3 then NF else if kind=4 then yj else if kind=5 then fu else if kind=6 then DY else if kind=7 then AU else if kind=8 then Kc else []
def s1:ByteArray:=⟨#[115]⟩
def us:ByteArray:=⟨#[95]⟩
def usc:ByteArray:=⟨#[95,99]⟩
def CD (n:Int):ByteArray:=s1++fm (n / 16384+2)++us++fm (n / 2048 % 8)++usc++fm (n / 128 % 16)++usc++fm (n / 8 % 16)++us++fm (n % 8)
def gM:List (ByteArray×Int)→Int→Option ByteArray
 | [],_=>none
 | r::l,n=>if r.2=n then some r.1 else gM l n
def dn (kind n:Int):ByteArray×Int :=
 if kind=1 then (if n<0∨128≤n then (emp,30) else cH (Iv n)) else
 match gM (yC kind) n with
 | some s=>(s,0)
 | none=>if kind=6∧0≤n∧n<32768 then (CD n,0) else (emp,30)
theorem nj {l:List (ByteArray×Int)} {n:Int}:∀ {i:Nat},i≤l.length→(∀ j r,j<i→l[j]? = some r→¬r.2=n)→gM l n=gM (l.drop i) n:=by
 intro i
 induction i generalizing l with
 | zero=>intro _ _;rfl
 | succ i ih =>
  intro hi h
  cases l with
  | nil=>simp at hi
  | cons r l =>
   rw [gM,if_neg (h 0 r (by omega) rfl),List.drop_succ_cons]
   exact ih (by simpa using hi) fun j r' hj hr=>h (j+1) r' (by omega) (by simpa using hr)
theorem p9 {l:List (ByteArray×Int)} {n:Int} {i:Nat} {r:ByteArray×Int} (h:∀ j r,j<i→l[j]? = some r→¬r.2=n) (hr:l[i]? = some r) (hn:r.2=n):gM l n=some r.1:=by
 have hi:i<l.length:=(List.getElem?_eq_some_iff.1 hr).1
 rw [nj (Nat.le_of_lt hi) h,List.drop_eq_getElem_cons hi,gM,if_pos]
 ·rw [List.getElem?_eq_getElem hi] at hr;injection hr with hr;rw [hr]
 ·rw [List.getElem?_eq_getElem hi] at hr;injection hr with hr;rw [hr,hn]
theorem nn {l:List (ByteArray×Int)} {n:Int} (h:∀ j r,j<l.length→l[j]? = some r→¬r.2=n):gM l n=none:=by
 rw [nj (Nat.le_refl _) h,List.drop_length,gM]
end
section
open Go.RowKit
def jm (P:Program) (t:TypeId):Nat :=
 match P.underlying t with
 | some (.int _)=>1
 | some .bool=>2
 | some .string=>3
 | _=>0
def sP (P:Program) (t:TypeId):Option (List Nat) :=
 match P.underlying t with
 | some (.struct fs)=>if P.stoodInHeld t=false∧P.eqGuardType P.depth t=false∧(fs.toList.zipIdx.all fun p=>p.1.offset==p.2&&p.1.name != "_"&&jm P p.1.type !=0)=true then some (fs.toList.map fun f=>jm P f.type) else none
 | _=>none
def fK:List Nat→List Value→List Value→Option Bool
 | [],[],[]=>some true
 | 1::ks,.int k a::xs,.int k' b::ys=>if k=k' then (fK ks xs ys).map (decide (a=b)&&·) else none
 | 2::ks,.bool a::xs,.bool b::ys=>(fK ks xs ys).map (decide (a=b)&&·)
 | 3::ks,.string a::xs,.string b::ys=>(fK ks xs ys).map (decide (a=b)&&·)
 | _,_,_=>none
theorem D5 {P:Program} (w:World) (d:Nat) {t:TypeId} {k:Nat} (hk:jm P t=k) {xs ys ks:List _} {x y:Value} {b:Bool} (h:fK (k::ks) (x::xs) (y::ys)=some b) :
  ∃ a c,(Op.equalIn (d+1) t x y).run P w=.ok a w∧fK ks xs ys=some c∧b=(a&&c):=by
 unfold jm at hk
 split at hk
 ·rename_i q hu
  subst hk
  cases x<;>cases y<;>simp only [fK] at h<;>first | cases h | skip
  rename_i k1 a k2 b'
  split at h
  case isFalse=>cases h
  rename_i he
  subst he
  rw [Option.map_eq_some_iff] at h
  obtain ⟨c,h1,h2⟩:=h
  refine ⟨a==b',c,run_equalIn_int w d t _ _ _ _ hu,h1,?_⟩
  rw [← h2]
  congr 1
 ·rename_i hu
  subst hk
  cases x<;>cases y<;>simp only [fK] at h<;>first | cases h | skip
  rename_i a b'
  rw [Option.map_eq_some_iff] at h
  obtain ⟨c,h1,h2⟩:=h
  refine ⟨a==b',c,run_equalIn_bool w d t _ _ hu,h1,?_⟩
  rw [← h2]
  cases a<;>cases b'<;>rfl
 ·rename_i hu
  subst hk
  cases x<;>cases y<;>simp only [fK] at h<;>first | cases h | skip
  rename_i a b'
  rw [Option.map_eq_some_iff] at h
  obtain ⟨c,h1,h2⟩:=h
  refine ⟨a.toList==b'.toList,c,run_equalIn_string w d t _ _ hu,h1,?_⟩
  rw [← h2]
  congr 1
  by_cases e:a=b'
  ·subst e;simp
  ·have:¬a.toList=b'.toList:=fun h=>e (by
    rw [ByteArray.toList_eq,ByteArray.toList_eq] at h
    exact ByteArray.ext (Array.ext' h))
   simp [e,this]
 ·subst hk
  simp only [fK] at h
  cases h
theorem iA {P:Program} (w:World) (d:Nat) (xs ys:Array Value):∀ (fs:List Field) (j:Nat) {b:Bool},((fs.zipIdx j).all fun p=>p.1.offset==p.2&&p.1.name != "_"&&jm P p.1.type !=0)=true→fK (fs.map fun f=>jm P f.type) (xs.toList.drop j) (ys.toList.drop j)=some b →
  (Op.eqFields (d+1) xs ys fs).run P w=.ok b w
 | [],j,b,_,h=>by
  cases hx:xs.toList.drop j with
  | nil=>cases hy:ys.toList.drop j with
   | nil =>
    rw [hx,hy] at h
    simp only [List.map_nil,fK] at h
    injection h with h
    subst h
    rfl
   | cons _ _=>rw [hx,hy] at h;simp [fK] at h
  | cons _ _=>rw [hx] at h;simp [fK] at h
 | f::fs,j,b,hf,h=>by
  rw [List.zipIdx_cons,List.all_cons,Bool.and_eq_true] at hf
  obtain ⟨hf,hfs⟩:=hf
  simp only [Bool.and_eq_true,beq_iff_eq,bne_iff_ne,ne_eq] at hf
  obtain ⟨⟨ho,hn⟩,hk0⟩:=hf
  cases hx:xs.toList.drop j with
  | nil=>rw [hx] at h;simp only [List.map_cons] at h;unfold fK at h;split at h<;>simp_all
  | cons x xr=>cases hy:ys.toList.drop j with
   | nil=>rw [hx,hy] at h;simp only [List.map_cons] at h;unfold fK at h;split at h<;>simp_all
   | cons y yr =>
    rw [hx,hy,List.map_cons] at h
    obtain ⟨a,c,h1,h2,h3⟩:=D5 w d rfl h
    have hxj:xs[j]? = some x:=by rw [← Array.getElem?_toList];have:=congrArg (·[0]?) hx;simpa using this
    have hyj:ys[j]? = some y:=by rw [← Array.getElem?_toList];have:=congrArg (·[0]?) hy;simpa using this
    have hxr:xs.toList.drop (j+1)=xr:=by have:=congrArg List.tail hx;simpa using this
    have hyr:ys.toList.drop (j+1)=yr:=by have:=congrArg List.tail hy;simpa using this
    have ih:=iA w d xs ys fs (j+1) (b:=c) hfs (by rw [hxr,hyr];exact h2)
    have hp:∀ (zs:Array Value) (z:Value),zs[j]? = some z→(part f.type zs f.offset).run P w=.ok z w:=by
     intro zs z hz
     have hr:cv P f.type=some false:=by
      unfold jm at hk0
      unfold cv
      cases hu:P.underlying f.type with
      | none=>rw [hu] at hk0;exact absurd rfl hk0
      | some q=>rw [hu] at hk0;cases q<;>first | rfl | exact absurd rfl hk0
     rw [ho]
     unfold part
     rw [Sem.run_bind,gc hr w]
     simp [Result.andThen_ok,hz]
    rw [Op.eqFields]
    simp only [hn,ne_eq,not_false_eq_true,if_true,Sem.run_bind,hp xs x hxj,hp ys y hyj,Result.andThen_ok,h1]
    subst h3
    cases a with
    | true=>simpa using ih
    | false=>rfl
def kM (P:Program) (t:TypeId) (xs ys:List Value):Option Bool:=match sP P t with
 | some ks=>fK ks xs ys
 | none=>none
noncomputable def Av (P:Program) (s:Sem Value):Option Value:=jO P s
def rU (neg:Bool) (rest:Option Value):Option Bool→Option Value
 | some b=>some (.bool (if neg then !b else b))
 | none=>rest
theorem mu {rest:Option Value} {b:Bool}:rU false rest (some b)=some (.bool b):=rfl
theorem yJ {rest:Option Value} {b:Bool}:rU true rest (some b)=some (.bool (!b)):=rfl
theorem Dm {P:Program} {t:TypeId} {xs ys:List Value} {b:Bool} (h:kM P t xs ys=some b) (op:BinOp) (x y:Operand) (w:World) :
  (Op.equal t (.agg xs.toArray) (.agg ys.toArray)).run P w=.ok b w∧(eqGuard op t x y (.agg xs.toArray) (.agg ys.toArray)).run P w=.ok () w:=by
 unfold kM at h
 split at h
 case h_2=>cases h
 rename_i ks hks
 unfold sP at hks
 split at hks
 case h_2=>cases hks
 rename_i fs hu
 split at hks
 case isFalse=>cases hks
 rename_i hc
 injection hks with hks
 subst hks
 have hfo:P.fieldsOf t=fs:=by unfold Program.fieldsOf;rw [hu]
 refine ⟨?_,run_eqGuard_agg w op t x y _ _ hc.2.1⟩
 unfold Op.equal
 rw [show Op.maxDepth=9998+1+1 from rfl,run_equalIn_struct w (9998+1) t _ _ (by rw [hfo];exact hu) hc.1,hfo]
 exact iA w 9998 _ _ fs.toList 0 hc.2.2 (by simpa using h)
theorem iu {P:Program} {t:TypeId} {x y:Operand} {xs ys:List Value}:jO P (do eqGuard .eql t x y (.agg xs.toArray) (.agg ys.toArray);binOp .eql t (.agg xs.toArray) (.agg ys.toArray))=rU false (Av P (do eqGuard .eql t x y (.agg xs.toArray) (.agg ys.toArray);binOp .eql t (.agg xs.toArray) (.agg ys.toArray))) (kM P t xs ys):=by
  cases h:kM P t xs ys with
  | none=>rfl
  | some b =>
    refine lZ fun w=>?_
    obtain ⟨h1,h2⟩:=Dm h .eql x y w
    rw [Sem.run_bind,h2,Result.andThen_ok,show binOp .eql t (.agg xs.toArray) (.agg ys.toArray)=(do pure (.bool (← Op.equal t (.agg xs.toArray) (.agg ys.toArray)))) from rfl,Sem.run_bind,h1]
    rfl
end
section
open Go.RowKit
section
variable {ρ ρ':Nat→Loc} {al al':Al} {g:Nat→Nat}
theorem LsRep.fwd (F:Fwd ρ ρ' al al' g):∀ {xs:List LV} {ys:List Value},LsRep ρ al xs ys→LsRep ρ' al' (xs.map (·.ren g)) ys
 | [],[],_=>trivial
 | _::_,_::_,⟨a,b,c⟩=>⟨a,LRep.fwd F b,LsRep.fwd F c⟩
theorem SRep.fwd (F:Fwd ρ ρ' al al' g) {x:SV} {y:Value} (h:SRep ρ al x y):SRep ρ' al' (x.ren g) y:=by
 cases x with
 | l x=>exact LRep.fwd F h
 | agg xs=>obtain ⟨cs,e,h⟩:=h;exact ⟨cs,e,LsRep.fwd F h⟩
theorem SsRep.fwd (F:Fwd ρ ρ' al al' g):∀ {xs:List SV} {ys:List Value},SsRep ρ al xs ys→SsRep ρ' al' (xs.map (·.ren g)) ys
 | [],[],_=>trivial
 | _::_,_::_,⟨a,b⟩=>⟨SRep.fwd F a,SsRep.fwd F b⟩
theorem ARep.fwd (F:Fwd ρ ρ' al al' g) {x:AV} {y:Value} (h:ARep ρ al x y):ARep ρ' al' (x.ren g) y:=by
 cases x with
 | s x=>exact SRep.fwd F h
 | tup xs=>obtain ⟨cs,e,h⟩:=h;exact ⟨cs,e,SsRep.fwd F h⟩
 | fn k f c=>obtain ⟨fs,cs,e,h1,h2⟩:=h;exact ⟨fs,cs,e,LsRep.fwd F h1,LsRep.fwd F h2⟩
end
def xE (K:Nat) (s:St) (o:RO):Option AV→Prop
 | some r=>∃ r' hs ns,o=.ret r' hs ns∧hs.length=K∧ns.length≤16∧(∀ k,some k∈hs→k.own=true)∧(∀ k∈ns,k.own=true)∧Wk ⟨none,K⟩ ⟨s.nx,(0,r)::s.t,s.h⟩ ⟨K+ns.length,[(0,r')],dC 0 hs++cn K ns⟩
 | none=>False
def fy (P:Program) (rs:List ResultVar) (K:Nat) (o:RO):Exit→St→Prop :=
 vW (fun s=>xE K s o (mi P rs s)) (fun _ _=>False)
theorem cA {P:Program} {rs:List ResultVar} {K:Nat} {o:RO} {s:St}:fy P rs K o .normal s=xE K s o (mi P rs s):=rfl
theorem dE {P:Program} {rs:List ResultVar} {K:Nat} {o:RO} {s:St}:fy P rs K o .ret s=xE K s o (mi P rs s):=rfl
def bT {X:Type} (K:Nat) (dec:ah→List AV→Option (Prop×List Nat×X)) (out:X→RO) (id:Nat) (h:ah) (args:List AV):Option Res :=
 match dec h args with
 | some (q,bs,x)=>match out x with
  | .ret r hs ns=>some ⟨q,r.ren (gOf K bs id),rv (gOf K bs id) (dC 0 hs++cn K ns)++(bs.drop K).map fun b=>(b,none)⟩
  | .pan _=>none
 | none=>none
section
variable {P:Program}
def mkQ {X:Type} (K N:Nat) (hKN:K≤N) (f:FuncId) (fn:Func) (c:Code) (hf:P.funcs[f]? = some fn) (hb:fn.body=some c)
  (hen:∀ (args:Array Value) (w:World),(callFunc f args).run P w=.ok (.enter f args) w)
  (dec:ah→List AV→Option (Prop×List Nat×X)) (encA:X→List AV) (encK:X→List Blk) (out:X→RO) (hn0:0<fn.ntmps)
  (hmono:∀ {h h':ah} {args:List AV} {r:Prop×List Nat×X},(∀ b k,hget h b=some k→hget h' b=some k)→dec h args=some r→dec h' args=some r)
  (hdec:∀ {h:ah} {as:List AV} {q:Prop} {bs:List Nat} {x:X},dec h as=some (q,bs,x)→q→(encA x).length≤fn.ntmps∧bs.length=N∧(encK x).length=N∧bs.Nodup ∧
   ∀ d:Nat,(∀ (j b:Nat) (k:Blk),bs[j]? = some b→(encK x)[j]? = some k→k.own=true∧hget h b=some (k.ren fun j=>bs.getD j d)) ∧
    ∀ (ρ:Nat→Loc) (al:Al) (vals:List Value),AsRep ρ al as vals→AsRep (fun j=>ρ (bs.getD j d)) (alR al fun j=>bs.getD j d) (encA x) vals)
  (body:∀ {h:ah} {as:List AV} {q:Prop} {bs:List Nat} {x:X},dec h as=some (q,bs,x)→q→SW P ⟨none,K⟩ fn.ntmps c ⟨N,ag 0 (encA x),cn 0 (encK x)⟩ (fy P fn.results.toList K (out x))):aQ P f where
 enter:=hen
 run:=fun id h args=>bT K dec out id h args
 pan:=fun _ _ _=>none
 mono:=by
  intro id h h' args R hs hr
  unfold bT at hr ⊢
  split at hr
  case h_2=>cases hr
  rename_i q bs x hd
  rw [hmono hs hd]
  exact hr
 sound:=by
  intro id h args R hr hob B w0 ρ al w vals H hid hA
  unfold bT at hr
  split at hr
  case h_2=>cases hr
  rename_i q bs x hd
  split at hr
  case h_2=>cases hr
  rename_i r hs ns hout
  injection hr with hr
  subst hr
  obtain ⟨hlen,hK,hKl,hnd,hall⟩:=hdec hd hob
  obtain ⟨hks,henc⟩:=hall id
  have hKb:K≤bs.length:=by omega
  have hA1:=henc ρ al vals hA
  have hl:=hA1.length
  have h0:¬al id:=hid id (Nat.le_refl _) (by omega)
  have H1:=uz H hKb h0 (by rw [hKl,hK]) hnd hks
  have hbs:∀ b∈bs,∃ k,hget h b=some k∧k.own=true:=fun b hb=>by
   obtain ⟨j,hj,rfl⟩:=List.mem_iff_getElem.1 hb
   obtain ⟨g1,g2⟩:=hks j bs[j] ((encK x)[j]'(by omega)) (List.getElem?_eq_getElem hj) (List.getElem?_eq_getElem _)
   exact ⟨_,g2,g1⟩
  refine fj (K:=K) (B:=fZ w ρ al bs K id H.gok) (ρ:=fun j=>ρ (bs.getD j id)) (al:=alR al fun j=>bs.getD j id) (s0:=⟨N,ag 0 (encA x),cn 0 (encK x)⟩) hf hb (by simp [fZ]) rfl ⟨by simp;omega,Marks.nil _ _ _,g8 hA1 _,H1,fun b hb=>?_⟩ (body hd hob) ?_ ?_
  ·rcases Nat.lt_or_ge b bs.length with h | h
   ·show b<N;omega
   ·have:al (bs.getD b id):=hb
    rw [List.getD_eq_getElem?_getD,List.getElem?_eq_none h] at this
    exact absurd this h0
  ·intro s ρ1 al1 a w1 hq1 HS
   cases hret:mi P fn.results.toList s with
   | none=>rw [hret] at hq1;exact hq1.elim
   | some r0 =>
    rw [hret] at hq1
    obtain ⟨r',hs',ns',e,hl1,hl2,ho1,ho2,hwk⟩:=hq1
    rw [hout] at e
    injection e with e1 e2 e3
    subst e1
    subst e2
    subst e3
    obtain ⟨v,g1,g2⟩:=jl (fn:=fn) HS hret
    have HS0:RepS fn.ntmps (fZ w ρ al bs K id H.gok) w ρ1 al1 ⟨s.nx,(0,r0)::s.t,s.h⟩ (a.put (some 0) v) w1 :=
     ⟨by rw [fY];exact HS.size,by rw [du];exact HS.defers,TRep.putT HS.t HS.size (d:=some 0) (by simpa [cy] using hn0) g2,HS.w,HS.al⟩
    obtain ⟨ρ2,al2,HS2⟩:=hwk _ _ _ _ _ _ _ (by simp [fZ]) HS0
    obtain ⟨ρ',al',k1,k2,k3,k4⟩:=wY H hKb hid hnd hbs hl1 hl2 ho1 ho2 HS2.w HS2.al
    have hv:ARep ρ2 al2 r v:=by
     have:=HS2.t 0
     have h2:(a.put (some 0) v).tmps.getD 0 undef=v:=by
      have hs:0<a.tmps.size:=by rw [HS.size];exact hn0
      simp [Act.put,hs]
     rw [h2] at this
     exact this
    exact ⟨v,g1,v,ρ',al',rfl,k1,k2,hv.fwd k4,by simpa only [List.append_assoc] using k3⟩
  ·intro y s ρ1 al1 a w1 h1 HS
   exact h1.elim
 psound:=by
  intro id h args ob y E hr
  cases hr
end
end
section
open Go.RowKit
def uS (P:Program) (t:TypeId):Option (List Nat) :=
 if jm P t=0 then (match dI P t,sP P t with
  | some n,some ks=>if n=ks.length then some ks else none
  | _,_=>none) else some [jm P t]
def lO (P:Program):List Field→Nat→Option (List (List Nat))
 | [],_=>some []
 | f::fs,o=>if f.offset=o∧f.name ≠ "_" then (match uS P f.type with
  | some ks=>(lO P fs (o+ks.length)).map (ks::·)
  | none=>none) else none
def Ci (P:Program) (t:TypeId):Option (List (List Nat)) :=
 match P.underlying t with
 | some (.struct fs)=>if P.stoodInHeld t=false∧P.eqGuardType P.depth t=false then lO P fs.toList 0 else none
 | _=>none
def sH:List (List Nat)→List Value→List Value→Option Bool
 | [],[],[]=>some true
 | ks::r,xs,ys=>match fK ks (xs.take ks.length) (ys.take ks.length) with
  | some a=>(sH r (xs.drop ks.length) (ys.drop ks.length)).map (a&&·)
  | none=>none
 | _,_,_=>none
theorem jH:∀ {ks:List Nat} {xs ys:List Value} {b:Bool},fK ks xs ys=some b→xs.length=ks.length∧ys.length=ks.length
 | [],[],[],_,_=>⟨rfl,rfl⟩
 | [],_::_,_,_,h=>by simp [fK] at h
 | [],[],_::_,_,h=>by simp [fK] at h
 | k::ks,xs,ys,b,h=>by
  unfold fK at h
  split at h
  ·rename_i e
   cases e
  ·rename_i e
   injection e with e1 e2
   subst e2
   split at h
   case isFalse=>cases h
   rw [Option.map_eq_some_iff] at h
   obtain ⟨c,hc,_⟩:=h
   have:=jH hc
   exact ⟨congrArg (·+1) this.1,congrArg (·+1) this.2⟩
  ·rename_i e
   injection e with e1 e2
   subst e2
   rw [Option.map_eq_some_iff] at h
   obtain ⟨c,hc,_⟩:=h
   have:=jH hc
   exact ⟨congrArg (·+1) this.1,congrArg (·+1) this.2⟩
  ·rename_i e
   injection e with e1 e2
   subst e2
   rw [Option.map_eq_some_iff] at h
   obtain ⟨c,hc,_⟩:=h
   have:=jH hc
   exact ⟨congrArg (·+1) this.1,congrArg (·+1) this.2⟩
  ·cases h
theorem Bb {P:Program} (w:World) (d:Nat) {f:Field} {ks:List Nat} (hp:uS P f.type=some ks) {xs ys:Array Value} {o:Nat} (ho:f.offset=o) {a:Bool} (h:fK ks ((xs.toList.drop o).take ks.length) ((ys.toList.drop o).take ks.length)=some a) :
  ∃ x y,(part f.type xs f.offset).run P w=.ok x w∧(part f.type ys f.offset).run P w=.ok y w∧(Op.equalIn (d+2) f.type x y).run P w=.ok a w:=by
 subst ho
 unfold uS at hp
 by_cases hk:jm P f.type=0
 ·rw [if_pos hk] at hp
  split at hp
  case h_2=>cases hp
  rename_i n ks' hn hf
  split at hp
  case isFalse=>cases hp
  rename_i hl
  injection hp with hp
  subst hp
  have hf0:=hf
  unfold sP at hf
  split at hf
  case h_2=>cases hf
  rename_i fs hu
  split at hf
  case isFalse=>cases hf
  rename_i hc
  have hr:cv P f.type=some true:=by unfold cv;rw [hu];rfl
  have hpart:∀ zs:Array Value,(part f.type zs f.offset).run P w=.ok (.agg (zs.extract f.offset (f.offset+ks'.length))) w:=by
   intro zs
   unfold part
   rw [Sem.run_bind,kI hr w,Result.andThen_ok]
   simp only [if_true]
   rw [Sem.run_bind,dF hn w,Result.andThen_ok,hl]
   rfl
  have hfo:P.fieldsOf f.type=fs:=by unfold Program.fieldsOf;rw [hu]
  refine ⟨_,_,hpart xs,hpart ys,?_⟩
  injection hf with hf
  rw [run_equalIn_struct w (d+1) f.type _ _ (by rw [hfo];exact hu) hc.1,hfo]
  refine iA w d _ _ fs.toList 0 hc.2.2 ?_
  rw [hf]
  have e:∀ zs:Array Value,(zs.extract f.offset (f.offset+ks'.length)).toList=(zs.toList.drop f.offset).take ks'.length:=by
   intro zs
   rw [Array.toList_extract,List.extract_eq_take_drop]
   congr 1
   omega
  rw [List.drop_zero,List.drop_zero,e,e]
  exact h
 ·rw [if_neg hk] at hp
  injection hp with hp
  subst hp
  have hx:∃ x,xs[f.offset]? = some x∧(xs.toList.drop f.offset).take 1=[x]:=by
   have:=(jH h).1
   cases hd:xs.toList.drop f.offset with
   | nil=>rw [hd] at this;simp at this
   | cons x xr =>
    refine ⟨x,?_,by simp⟩
    rw [← Array.getElem?_toList]
    have:=congrArg (·[0]?) hd
    simpa using this
  have hy:∃ y,ys[f.offset]? = some y∧(ys.toList.drop f.offset).take 1=[y]:=by
   have:=(jH h).2
   cases hd:ys.toList.drop f.offset with
   | nil=>rw [hd] at this;simp at this
   | cons x xr =>
    refine ⟨x,?_,by simp⟩
    rw [← Array.getElem?_toList]
    have:=congrArg (·[0]?) hd
    simpa using this
  obtain ⟨x,hx1,hx2⟩:=hx
  obtain ⟨y,hy1,hy2⟩:=hy
  rw [show [jm P f.type].length=1 from rfl,hx2,hy2] at h
  obtain ⟨a',c,h1,h2,h3⟩:=D5 w (d+1) (t:=f.type) rfl h
  have hc:c=true:=by simpa [fK] using h2.symm
  have hpart:∀ (zs:Array Value) (z:Value),zs[f.offset]? = some z→(part f.type zs f.offset).run P w=.ok z w:=by
   intro zs z hz
   have hr:cv P f.type=some false:=by
    unfold jm at hk
    unfold cv
    cases hu:P.underlying f.type with
    | none=>rw [hu] at hk;exact absurd rfl hk
    | some q=>rw [hu] at hk;cases q<;>first | rfl | exact absurd rfl hk
   unfold part
   rw [Sem.run_bind,gc hr w]
   simp [Result.andThen_ok,hz]
  refine ⟨x,y,hpart xs x hx1,hpart ys y hy1,?_⟩
  rw [h1,h3,hc,Bool.and_true]
theorem kq {P:Program} (w:World) (d:Nat) (xs ys:Array Value):∀ (fs:List Field) (o:Nat) {ps:List (List Nat)} {b:Bool},lO P fs o=some ps→sH ps (xs.toList.drop o) (ys.toList.drop o)=some b →
  (Op.eqFields (d+2) xs ys fs).run P w=.ok b w
 | [],o,ps,b,hf,h=>by
  injection hf with hf
  subst hf
  cases hx:xs.toList.drop o with
  | nil=>cases hy:ys.toList.drop o with
   | nil =>
    rw [hx,hy,sH] at h
    injection h with h
    subst h
    rfl
   | cons _ _=>rw [hx,hy] at h;simp [sH] at h
  | cons _ _=>rw [hx] at h;simp [sH] at h
 | f::fs,o,ps,b,hf,h=>by
  rw [lO] at hf
  split at hf
  case isFalse=>cases hf
  rename_i hc
  split at hf
  case h_2=>cases hf
  rename_i ks hks
  rw [Option.map_eq_some_iff] at hf
  obtain ⟨r,hr,rfl⟩:=hf
  rw [sH] at h
  split at h
  case h_2=>cases h
  rename_i a ha
  rw [Option.map_eq_some_iff] at h
  obtain ⟨c,hc2,hb⟩:=h
  obtain ⟨x,y,p1,p2,p3⟩:=Bb w d hks hc.1 ha
  rw [List.drop_drop,List.drop_drop] at hc2
  have ih:=kq w d xs ys fs (o+ks.length) hr hc2
  rw [Op.eqFields]
  simp only [hc.2,ne_eq,not_false_eq_true,if_true,Sem.run_bind,p1,p2,Result.andThen_ok,p3]
  subst hb
  cases a with
  | true=>simpa using ih
  | false=>rfl
def oU (P:Program) (t:TypeId) (xs ys:List Value):Option Bool:=match Ci P t with
 | some ps=>sH ps xs ys
 | none=>none
theorem Bp {P:Program} {t:TypeId} {xs ys:List Value} {b:Bool} (h:oU P t xs ys=some b) (op:BinOp) (x y:Operand) (w:World) :
  (Op.equal t (.agg xs.toArray) (.agg ys.toArray)).run P w=.ok b w∧(eqGuard op t x y (.agg xs.toArray) (.agg ys.toArray)).run P w=.ok () w:=by
 unfold oU at h
 split at h
 case h_2=>cases h
 rename_i ps hps
 unfold Ci at hps
 split at hps
 case h_2=>cases hps
 rename_i fs hu
 split at hps
 case isFalse=>cases hps
 rename_i hc
 have hfo:P.fieldsOf t=fs:=by unfold Program.fieldsOf;rw [hu]
 refine ⟨?_,run_eqGuard_agg w op t x y _ _ hc.2⟩
 unfold Op.equal
 rw [show Op.maxDepth=9998+1+1 from rfl,run_equalIn_struct w (9998+1) t _ _ (by rw [hfo];exact hu) hc.1,hfo]
 exact kq w 9997 _ _ fs.toList 0 hps (by simpa using h)
end
end Go.Proofs.YtpjlafmhoifkmaaGreat
