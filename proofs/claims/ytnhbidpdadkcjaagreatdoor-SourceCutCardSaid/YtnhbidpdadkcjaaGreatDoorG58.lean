import Derived.Test.YtnhbidpdadkcjaaGreatDoorG57
import Derived.Test.YtnhbidpdadkcjaaGreatDoorG52
open Go.RowKit
set_option linter.unusedVariables false
set_option linter.unusedSimpArgs false
set_option maxRecDepth 100000
set_option maxHeartbeats 8000000
open List (length_map length_take map_append length_append append_nil zip_cons_cons zip_nil_left foldl_cons foldl_nil)
open Option (toList_none)
open Nat (zero_le)
namespace Go.Proofs.YtnhbidpdadkcjaaGreatDoor
open Go.Proofs.Tryz
def rwE (r:fI):List D:=.v (.int .i64 r.line)::cz r.s
def rwD:List D→Option fI
 |.v (.int .i64 n)::c=>match ET c with
  |some s=>some ⟨n,s⟩
  |none=>none
 |_=>none
def rwR:kG fI where
 dec:=rwD
 enc:=rwE
 inv:=by
  intro c x h;unfold rwD at h;split at h
  ·rename_i n c;split at h
   ·rename_i s hs;injection h with h;subst h;unfold rwE;rw[Cz.inv (show Cz.dec c=some s from hs)];rfl
   ·cases h
  ·cases h
 back:=by
  intro x;have h:ET (cz x.s)=some x.s:=Cz.back x.s;show(match ET (cz x.s) with | some s=>some (⟨x.line,s⟩:fI) | none=>none)=some x;rw[h]
theorem TK (r:fI):rwR.enc r=rwE r:=rfl
abbrev kc:Ty (List fI):=tSl 9 rwR
def eg (l:List fI):Blk:=⟨true,43,9,(l.map rwR.enc).map bp⟩
theorem wz (l:List fI):(eg l).flatB=true:=by
 unfold Blk.flatB eg;simp only[List.map_map];rw[List.all_eq_true];intro e he;obtain⟨t,_,rfl⟩:=List.mem_map.1 he;rfl
def ur:Ty Unit where
 dec:=fun | .s (.l (.v (.slice none 0 0)))=>some () | _=>none
 enc:=fun _=>.s (.l (.v (.slice none 0 0)))
 ok:=by
  intro A x h ρ al v hr;split at h
  ·exact hr
  ·cases h
theorem Oa {x:Operand}{c:Value}:iU prog (do eqGuard .eql 25 x (.const c) (.slice none 0 0) (.slice none 0 0);binOp .eql 25 (.slice none 0 0) (.slice none 0 0))=some (.bool true):=iV fun w=>by cases x<;>rfl
abbrev Qc:am prog 14 :=
 mz1 func14 (ur) ((fun _=>True)) ((fun _=>.ret (.s (.l (.v (.slice none 0 0)))))) (asP fun _ _=>by
 refine aq [] rfl ?_;simp only[go_sem,ur,↓Oa])
theorem JI (l:List fI)(hl:l≠[]∧l.length≤1000000):Sw f14 0 ⟨0,ax 0 [kc.enc l],[]⟩ (mX (fun s=>∃b,kf prog f14.results.toList s=some (.s (.l (.sl b 0 l.length)))∧ac s.h b=some (eg l)) (fun _ _=>False)):=by
 refine aq [] rfl ?_;have h1:¬l=[]:=hl.1;have hm:l.length≤maxLen:=by unfold maxLen;omega
 have hb:l.length*160≤140737488355328:=by omega
 simp only[go_sem,h1,hm,hb,List.map_eq_nil_iff];exact⟨80,rfl,rfl⟩
def Fj (l:List fI):Prop:=l≠[]∧l.length≤1000000
def Qd:am prog 14 :=
 Tk _ _ _ func14 rfl (fun _ _=>by go_simp) (cE kc Fj) (fun l=>[kc.enc l]) (fun _=>rfl) (by
  intro zs q x h _;unfold cE at h;split at h
  ·split at h
   ·rename_i hx;injection h with h;injection h with h1 h2;subst h2;refine⟨by rw[ntmps14];show 1≤8;decide,fun ρ al vals hA=>?_⟩
    match vals,hA with
    |[v],⟨a,_⟩=>exact⟨kc.ok hx a,trivial⟩
   ·cases h
  ·cases h) (fun l=>l.length) eg (fun l=>⟨rfl,wz l⟩) (by
  intro zs q x h hq;unfold cE at h;split at h
  ·split at h
   ·injection h with h;injection h with h1 h2;subst h1;subst h2;exact JI _ hq
   ·cases h
  ·cases h)
def orS {P:Program}{f:FuncId}(sel:List AV→Bool)(a b:am P f):am P f where
 enter:=a.enter
 pan:=fun id h zs=>if sel zs=true then a.pan id h zs else b.pan id h zs
 run:=fun id h zs=>if sel zs=true then a.run id h zs else b.run id h zs
 mono:=by
  intro id h h' args R hs hr;by_cases c:sel args=true
  ·rw[if_pos c]at hr ⊢;exact a.mono hs hr
  ·rw[if_neg c]at hr ⊢;exact b.mono hs hr
 sound:=by
  intro id h args R hr;by_cases c:sel args=true
  ·rw[if_pos c]at hr;exact a.sound hr
  ·rw[if_neg c]at hr;exact b.sound hr
 psound:=by
  intro id h args ob y E hr;by_cases c:sel args=true
  ·rw[if_pos c]at hr;exact a.psound hr
  ·rw[if_neg c]at hr;exact b.psound hr
def Cs:List AV→Bool
 |.s (.l (.v _))::_=>true
 |_=>false
theorem wC {v:Value}{r:List AV}:Cs (.s (.l (.v v))::r)=true:=rfl
theorem zQ {d:D}{r:List AV}:Cs (.s (.l (.d d))::r)=false:=rfl
def AB:am prog 14:=orS Cs Qc Qd
theorem mo {id:Nat}{h:ag}{zs:List AV}:AB.run id h zs=if Cs zs=true then fT (cE ur (fun _=>True)) (fun _=>.ret (.s (.l (.v (.slice none 0 0))))) h zs else Co (cE kc Fj) (fun l=>l.length) eg id zs:=rfl
theorem mm {id:Nat}{h:ag}{zs:List AV}:AB.pan id h zs=if Cs zs=true then gh (cE ur (fun _=>True)) (fun _=>.ret (.s (.l (.v (.slice none 0 0))))) h zs else none:=rfl
def sI (l:List fI)(k:Int)(i:Nat):List fI:=(l.take i).map (lh k)++l.drop i
theorem KF {l:List fI}{i:Nat}(k:Int)(h:i<l.length):(sI l k i)[i]? = l[i]?:=by
 unfold sI;rw[List.getElem?_append_right (by rw[length_map,length_take];omega),length_map,length_take,List.getElem?_drop];congr 1;omega
theorem KH {l:List fI}{i:Nat}{r:fI}(k:Int)(h:l[i]? = some r):(sI l k i).set i (lh k r)=sI l k (i+1):=by
 have hl:i<l.length:=(List.getElem?_eq_some_iff.1 h).1;unfold sI;rw[List.set_append_right _ _ (by rw[length_map,length_take];omega),length_map,length_take,show i-min i l.length=0 by omega,List.take_add_one,h,map_append,List.append_assoc];congr 1;rw[List.drop_eq_getElem_cons hl];rfl
theorem KG (l:List fI)(k:Int)(i:Nat):(sI l k i).length=l.length:=by
 unfold sI;rw[length_append,length_map,length_take,List.length_drop];omega
theorem kE (l:List fI)(g:Nat→Nat):(eg l).ren g=eg l:=by
 unfold eg Blk.ren;simp only[Blk.mk.injEq,true_and];exact fS
theorem Li {a b:Option Blk}(h1:a=b):[a]=[b]:=by rw[h1]
theorem ON (l:List fI)(k:Int)(hl:(l≠[]∧l.length≤1000000)∧(0≤k∧k≤1000000)∧∀r∈l,0≤r.line∧r.line≤1000000):Sw f15 0 ⟨0,ax 0 [kc.enc l,iv k],[]⟩ (mX (fun s=>∃b,kf prog f15.results.toList s=some (.s (.l (.sl b 0 l.length)))∧ac s.h b=some (eg (l.map (lh k)))) (fun _ _=>False)):=by
 refine aq [⟨_,AB⟩] rfl ?_;obtain⟨hq,hk,hr⟩:=hl;have hq':Fj l:=hq;simp only[go_sem,mo,mm,zQ,Co,hq'];refine bF (ι:=Nat) (fun i=>i≤l.length) (fun i=>⟨1,[(1,iv k),(5,.s (.l (.sl 0 0 l.length))),(10,iv l.length),(11,iv i)],[(0,some (eg (sI l k i)))]⟩) (fun i=>l.length-i) 0 (zero_le _) (Wk.renL [32] (by simp) (by simp) (by simp) rfl (Li (congrArg some (kE l _).symm))) ?_;intro i hi;refine aw [] ?_;have hm:=KG l k i;by_cases hlt:i<l.length
 ·have hltI:(i:Int)<l.length:=by omega
  obtain⟨r,hx⟩:∃r,l[i]? = some r:=⟨_,List.getElem?_eq_getElem hlt⟩;have hg:=KF k hlt;rw[hx]at hg;have hst:=KH k hx;have hr:=hr r (List.mem_of_getElem? hx);have e1:IntKind.i64.wrap (r.line+k)=r.line+k:=by rw[IntKind.wrap_i64];omega
  have ei:=wI i;obtain⟨M,hM⟩:∃M,sI l k i=M:=⟨_,rfl⟩;rw[hM]at hg hst hm ⊢
  have hE:(List.map bp (List.map rwR.enc M)).set i (LV.v (Value.int IntKind.i64 (r.line+k))::List.map ofD (cz r.s))=List.map bp (List.map rwR.enc (sI l k (i+1))):=by
   rw[←hst,List.map_set,List.map_set];rfl
  simp only[go_sem,hltI,hlt,eg,hg,TK,rwE,hm,e1,ei,hE];exact⟨i+1,hlt,by omega,Wk.renL [0] (by simp) (by simp) (by simp) rfl (Li (congrArg some (kE (sI l k (i+1)) _).symm))⟩
 ·obtain rfl:i=l.length:=by omega
  have hI:¬(l.length:Int)<l.length:=by omega
  have he:sI l k l.length=l.map (lh k):=by
   unfold sI;rw[List.take_length,List.drop_length,append_nil]
  simp only[go_sem,hI,he];exact⟨0,rfl,rfl⟩
abbrev RD:am prog 15 :=
 mz2 func15 (ur) (bq .i64) ((fun _ _=>True)) ((fun _ _=>.ret (.s (.l (.v (.slice none 0 0)))))) (asP fun _ k _=>by
 refine aq [⟨_,AB⟩] rfl ?_;simp only[go_sem,ur,mo,mm,wC];refine bF (ι:=Unit) (fun _=>True) (fun _=>⟨0,[(5,.s (.l (.v (.slice none 0 0)))),(10,iv 0),(11,iv 0)],[]⟩) (fun _=>0) () trivial (wR []) ?_;intro _ _;refine aw [] ?_;simp only[go_sem])
def FQ (l:List fI)(k:Int):Prop:=(l≠[]∧l.length≤1000000)∧(0≤k∧k≤1000000)∧∀r∈l,0≤r.line∧r.line≤1000000
def RE:am prog 15 :=
 Tk _ _ _ func15 rfl (fun _ _=>by go_simp) (e9 kc (bq .i64) FQ) (fun x=>[kc.enc x.1,(bq .i64).enc x.2]) (fun _=>rfl) (by
  intro zs q x h _;unfold e9 at h;split at h
  ·split at h
   ·rename_i hx hy;injection h with h;injection h with h1 h2;subst h2;refine⟨by rw[ntmps15];show 2≤25;decide,fun ρ al vals hA=>?_⟩
    match vals,hA with
    |[v,u],⟨a,b,_⟩=>exact⟨kc.ok hx a,(bq .i64).ok hy b,trivial⟩
   ·cases h
  ·cases h) (fun x=>x.1.length) (fun x=>eg (x.1.map (lh x.2))) (fun x=>⟨rfl,wz _⟩) (by
  intro zs q x h hq;unfold e9 at h;split at h
  ·split at h
   ·injection h with h;injection h with h1 h2;subst h1;subst h2;exact ON _ _ hq
   ·cases h
  ·cases h)
def L0:am prog 15:=orS Cs RD RE
theorem rZ {id:Nat}{h:ag}{zs:List AV}:L0.run id h zs=if Cs zs=true then fT (e9 ur (bq .i64) (fun _ _=>True)) (fun _=>.ret (.s (.l (.v (.slice none 0 0))))) h zs else Co (e9 kc (bq .i64) FQ) (fun x=>x.1.length) (fun x=>eg (x.1.map (lh x.2))) id zs:=rfl
theorem rY {id:Nat}{h:ag}{zs:List AV}:L0.pan id h zs=if Cs zs=true then gh (e9 ur (bq .i64) (fun _ _=>True)) (fun _=>.ret (.s (.l (.v (.slice none 0 0))))) h zs else none:=rfl
theorem LS (a b:List fI)(hab:a=b∧(∀r∈a,yS r.s)∧a.length≤1000000):Sw f13 0 ⟨0,ax 0 [kc.enc a,kc.enc b],[]⟩ (oQ f13 (.ret (bv true))):=by
 obtain⟨rfl,ha,hz⟩:=hab;refine aq [] rfl ?_;simp only[go_sem];refine bF (ι:=Nat) (fun i=>i≤a.length) (fun i=>⟨0,[(0,kc.enc a),(1,kc.enc a),(5,iv i)],[]⟩) (fun i=>a.length-i) 0 (zero_le _) (wR []) ?_;intro i hi;refine aw [] ?_;by_cases hlt:i<a.length
 ·have hltI:(i:Int)<a.length:=by omega
  obtain⟨r,hr⟩:∃r,a[i]? = some r:=⟨_,List.getElem?_eq_getElem hlt⟩;have hs:=ha r (List.mem_of_getElem? hr);have ei:=wI i;have hSt:=Cz.back r.s;simp only[kb,cz,jr,gE]at hSt;have hss:decide (r.s=r.s)=true:=decide_eq_true rfl;simp only[go_sem,hltI];refine sD mixed [⟨_,UO⟩] [] ?_;simp only[go_sem,hr,hlt,TK,rwE,cz,hSt,hs,ei,bne_self_eq_false];exact⟨i+1,hlt,by omega,wR []⟩
 ·obtain rfl:i=a.length:=by omega
  have hI:¬(a.length:Int)<a.length:=by omega
  simp only[go_sem,hI]
abbrev Rw:am prog 13 :=
 mz2 func13 (kc) (kc) ((fun a b=>a=b∧(∀r∈a,yS r.s)∧a.length≤1000000)) ((fun _ _=>.ret (bv true))) (asP fun a b h=>LS a b h)
theorem Wk.virt {ro:Cf}{s:St}(T:TypeId)(sz:Nat):Wk ro s ⟨s.nx+1,s.t,(s.nx,some ⟨true,T,sz,[]⟩)::s.h⟩:=by
 intro n B w0 ρ al a w _ H;have hid:¬al s.nx:=fun h=>Nat.lt_irrefl _ (H.al _ h);obtain⟨ρ',E,e,H'⟩:=H.w.virtual hid T sz;refine⟨ρ',al1 al s.nx,H.size,H.defers,H.t.ext E,H',?_⟩;rintro c (hc | rfl)
 ·have:=H.al c hc;show c<s.nx+1;omega
 ·show _<_+1;omega
def NA:Code→Code
 |.seq x y=>match NA x with
  |.skip=>NA y
  |z=>z
 |.block _ x=>NA x
 |.rangeFunc g p a b=>.rangeFunc g p a b
 |_=>.skip
def jG (b n:Nat):LV:=if n=0 then .v (.slice none 0 0) else .sl b 0 n
def kM (f:Int):Blk:=⟨true,3,1,[[.v (.int .i64 f)]]⟩
def iX (n:Nat):Blk:=⟨true,25,1,[[jG 3 n]]⟩
def lA (n:Nat):Blk:=⟨true,26,1,[[jG 4 n]]⟩
def lB (l:List Flt):Blk:=⟨true,31,3,(l.map DI.enc).map bp⟩
def r4 (s:ByteArray):cK:=[(2,pv 0 0 0),(7,pv 1 0 0),(8,pv 2 0 0),(25,.s (.l (.d (.fn 90 [] [.pd [.v (.string s)]]))))]
def xy (f:Int)(x:List fI×List Flt):ag:=[(0,some (kM f)),(1,some (iX x.1.length)),(2,some (lA x.2.length)),(3,some (eg x.1)),(4,some (lB x.2))]
theorem kq:∀(f m:Nat) (s:ByteArray),(dZ f m s).length≤s.size
 |0,m,s=>zero_le _
 |f+1,m,s=>by
  rw[dZ];split
  ·exact zero_le _
  ·rename_i hz;have h1:=kq f (m+1) (j3 s nlS).2.1;have h2:=qY hz;rw[List.length_cons];omega
theorem xF (b n:Nat)(g:Nat→Nat):LV.ren g (jG b n)=jG (g b) n:=by
 unfold jG;split<;>rfl
theorem yy (n:Nat)(g:Nat→Nat)(h:g 3=3):(iX n).ren g=iX n:=by
 show(⟨true,_,1,[[LV.ren g (jG 3 n)]]⟩:Blk)=_;rw[xF,h];rfl
theorem GU (n:Nat)(g:Nat→Nat)(h:g 4=4):(lA n).ren g=lA n:=by
 show(⟨true,_,1,[[LV.ren g (jG 4 n)]]⟩:Blk)=_;rw[xF,h];rfl
theorem yx (n:Nat)(g:Nat→Nat):(iX (n+1)).ren g=⟨true,25,1,[[.sl (g 3) 0 (n+1)]]⟩:=rfl
theorem GT (n:Nat)(g:Nat→Nat):(lA (n+1)).ren g=⟨true,26,1,[[.sl (g 4) 0 (n+1)]]⟩:=rfl
theorem kx (l:List Flt)(g:Nat→Nat):(lB l).ren g=lB l:=by
 unfold lB Blk.ren;simp only[Blk.mk.injEq,true_and];exact fS
theorem Ed (a b:Nat):∀j,j<3→([0,1,2,a,b]:List Nat)[j]? = some j:=by
 intro j hj;have:j=0∨j=1∨j=2:=by omega
 rcases this with rfl | rfl | rfl<;>rfl
theorem na {a b c d e f g h i j:Option Blk}(h1:a=b)(h2:c=d)(h3:e=f)(h4:g=h)(h5:i=j):[a,c,e,g,i]=[b,d,f,h,j]:=by rw[h1,h2,h3,h4,h5]
theorem EH {L:List (Int×ByteArray)}{i:Nat}{r:Int×ByteArray}(h:L[i]? = some r):dF (L.take (i+1))=dF (L.take i)++(row1 r).toList:=by
 unfold dF;rw[List.take_add_one,h,List.filterMap_append];cases hr:row1 r<;>simp[hr]
theorem DJ {f:Int}{L:List (Int×ByteArray)}{i:Nat}{r:Int×ByteArray}(h:L[i]? = some r):dI f (L.take (i+1))=dI f (L.take i)++(flt1 f r).toList:=by
 unfold dI;rw[List.take_add_one,h,List.filterMap_append];cases hr:flt1 f r<;>simp[hr]
theorem IM (f:Int)(s:ByteArray)(hs:s.size≤100000)(Q:Exit→St→Prop)(hdone:Q .normal ⟨5,r4 s,xy f (dF (aB s),dI f (aB s))⟩):SW prog ⟨none,0⟩ 61 (NA (f12.body.getD .skip)) ⟨5,r4 s,xy f ([],[])⟩ Q:=by
 refine Ma (K':=3) (by decide) (fun j hj=>?_) ?_
 ·have:j=0∨j=1∨j=2:=by omega
  rcases this with rfl | rfl | rfl<;>exact⟨_,rfl⟩
 refine CE (ι:=List fI×List Flt) (mv:=[(9,26),(10,27)]) (t:=r4 s) (fun i x=>x=(dF ((aB s).take i),dI f ((aB s).take i))) (xy f) (fun _=>5) (fun _ _=>False) Bj DV (by omega) rfl rfl (by decide) (by decide) (fun As hA=>?_) (FZ rfl) (fun i x _=>mE rfl) (fun c s h=>h.elim) ([],[]) rfl (fun l i x As hinv hA=>?_) (fun x hinv=>?_) (fun c s h=>h.elim)
 ·obtain⟨r,_,rfl⟩:=List.mem_map.1 hA;rfl
 ·subst hinv;rw[List.getElem?_map,Option.map_eq_some_iff]at hA;obtain⟨⟨n,t⟩,hr,rfl⟩:=hA;have hLl:=kq (s.size+1) 1 s;have hil:i<(aB s).length:=(List.getElem?_eq_some_iff.1 hr).1;have hiz:i<100000:=by unfold aB at hil;omega
  have hR1:=EH hr;have hF1:=DJ (f:=f) hr
  have hRl:(dF ((aB s).take i)).length≤100000:=by
   unfold dF;have:=List.length_filterMap_le row1 ((aB s).take i);rw[length_take]at this;omega
  have hFl:(dI f ((aB s).take i)).length≤100000:=by
   unfold dI;have:=List.length_filterMap_le (flt1 f) ((aB s).take i);rw[length_take]at this;omega
  obtain⟨R,hRR⟩:∃R,dF ((aB s).take i)=R:=⟨_,rfl⟩;obtain⟨F,hFF⟩:∃F,dI f ((aB s).take i)=F:=⟨_,rfl⟩;rw[hRR]at hR1 hRl ⊢;rw[hFF]at hF1 hFl ⊢;have x3:maxLen=9223372036854775807:=rfl;rcases hS:eh (aa t) with e | u
  ·have hne:=U6 hS;have hO:oV t=.ret (.tup [.agg (bp (cz st0)),.l (.v (.int .i64 e))]):=by unfold oV;rw[hS]
   have r1:row1 (n,t)=none:=by unfold row1;rw[hS]
   have r2:flt1 f (n,t)=some ⟨f,n,e⟩:=by unfold flt1;rw[hS]
   rw[r1]at hR1;rw[r2]at hF1;refine aw [⟨_,r5⟩] ?_;simp only[toList_none,append_nil]at hR1;simp only[Option.toList_some]at hF1;obtain⟨TH,hTH⟩:∃TH,(dF ((aB s).take (i+1)),dI f ((aB s).take (i+1)))=TH:=⟨_,rfl⟩;rw[hTH];rw[hR1,hF1]at hTH;obtain⟨C,hC⟩:∃C,iX R.length=C:=⟨_,rfl⟩;have hCr:∀g:Nat→Nat,g 3=3→C=(iX R.length).ren g:=fun g h=>by rw[←hC,yy _ g h]
   have hCo:C.own=true:=by rw[←hC];rfl
   rw[show xy f (R,F)=[(0,some (kM f)),(1,some C),(2,some (lA F.length)),(3,some (eg R)),(4,some (lB F))] by rw[←hC];rfl];by_cases hF0:F=[]
   ·subst hF0;simp only[go_sem,lD,je,r4,kM,lA,jG,oJ,fY,fX,hO,cz,hne,zip_cons_cons,zip_nil_left,foldl_cons,foldl_nil];refine⟨by rw[x3];decide,?_,by rw[hCo];rfl⟩;rw[←hTH];exact Wk.renL [0,1,2,3,277] (Ed _ _) (by simp) (by decide) rfl (na rfl (congrArg some (hCr _ rfl)) rfl (congrArg some (kE R _).symm) rfl)
   ·have hFl0:¬F.length=0:=fun h=>hF0 (List.eq_nil_of_length_eq_zero h);have hm:F.length+1≤maxLen:=by rw[x3];omega
    have hb:(F.length+1)*24≤140737488355328:=by omega
    simp only[go_sem,lD,je,r4,kM,lA,jG,lB,hFl0,oJ,fY,fX,hO,cz,hne,hm,hb,zip_cons_cons,zip_nil_left,foldl_cons,foldl_nil];have hc:∀g:Nat→Nat,g 4=277→(some (⟨true,26,1,[[.sl 277 0 (F.length+1)]]⟩:Blk))=some ((lA (F++[(⟨f,n,e⟩:Flt)]).length).ren g):=fun g h=>by rw[length_append,List.length_singleton,GT,h]
    have hd:∀g:Nat→Nat,(some (⟨true,31,3,List.map bp (List.map DI.enc F)++[[LV.v (Value.int IntKind.i64 f),LV.v (Value.int IntKind.i64 n),LV.v (Value.int IntKind.i64 e)]]⟩:Blk))=some ((lB (F++[(⟨f,n,e⟩:Flt)])).ren g):=fun g=>by
     rw[kx];unfold lB;rw[map_append,map_append];rfl
    rw[←hTH];exact⟨Wk.renL [0,1,2,3,277] (Ed _ _) (by simp) (by decide) rfl (na rfl (congrArg some (hCr _ rfl)) (hc _ rfl) (congrArg some (kE R _).symm) (hd _)),by rw[hCo];rfl⟩
  ·have hO:oV t=.ret (.tup [.agg (bp (cz u)),.l (.v (.int .i64 0))]):=by unfold oV;rw[hS]
   have r2:flt1 f (n,t)=none:=by unfold flt1;rw[hS]
   rw[r2]at hF1;simp only[toList_none,append_nil]at hF1;obtain⟨TH,hTH⟩:∃TH,(dF ((aB s).take (i+1)),dI f ((aB s).take (i+1)))=TH:=⟨_,rfl⟩;rw[hTH];obtain⟨C,hC⟩:∃C,lA F.length=C:=⟨_,rfl⟩;have hCr:∀g:Nat→Nat,g 4=4→C=(lA F.length).ren g:=fun g h=>by rw[←hC,GU _ g h]
   have hCo:C.own=true:=by rw[←hC];rfl
   refine aw [⟨_,r5⟩] ?_;by_cases hk:Bh u=true
   ·have r1:row1 (n,t)=some ⟨n,u⟩:=by unfold row1;rw[hS];simp only[hk];rfl
    rw[r1]at hR1;simp only[Option.toList_some]at hR1;rw[hR1,hF1]at hTH;rw[show xy f (R,F)=[(0,some (kM f)),(1,some (iX R.length)),(2,some C),(3,some (eg R)),(4,some (lB F))] by rw[←hC];rfl];by_cases hR0:R=[]
    ·subst hR0;by_cases h0:u.kind=0
     ·have hlI:(0:Int)<u.labels.length:=by
       unfold Bh at hk;rw[decide_eq_true h0]at hk;have:¬u.labels=[]:=by simpa using hk
       have:=List.length_pos_iff.2 this;omega
      simp only[go_sem,lD,je,r4,kM,iX,jG,oJ,fY,fX,hO,cz,eq_true h0,hlI,zip_cons_cons,zip_nil_left,foldl_cons,foldl_nil];refine⟨by rw[x3];decide,?_,by rw[hCo];rfl⟩;rw[←hTH];exact Wk.renL [0,1,2,421,4] (Ed _ _) (by simp) (by decide) rfl (na rfl rfl (congrArg some (hCr _ rfl)) rfl (congrArg some (kx F _).symm))
     ·simp only[go_sem,lD,je,r4,kM,iX,jG,oJ,fY,fX,hO,cz,h0,zip_cons_cons,zip_nil_left,foldl_cons,foldl_nil];refine⟨by rw[x3];decide,?_,by rw[hCo];rfl⟩;rw[←hTH];exact Wk.renL [0,1,2,357,4] (Ed _ _) (by simp) (by decide) rfl (na rfl rfl (congrArg some (hCr _ rfl)) rfl (congrArg some (kx F _).symm))
    ·have hRl0:¬R.length=0:=fun h=>hR0 (List.eq_nil_of_length_eq_zero h)
     have hd:∀g:Nat→Nat,(some (⟨true,43,9,List.map bp (List.map rwR.enc R)++[LV.v (Value.int IntKind.i64 n)::bp (cz u)]⟩:Blk))=some ((eg (R++[(⟨n,u⟩:fI)])).ren g):=fun g=>by
      rw[kE];unfold eg;rw[map_append,map_append];rfl
     have hm:R.length+1≤maxLen:=by rw[x3];omega
     have hb:(R.length+1)*160≤140737488355328:=by omega
     by_cases h0:u.kind=0
     ·have hlI:(0:Int)<u.labels.length:=by
       unfold Bh at hk;rw[decide_eq_true h0]at hk;have:¬u.labels=[]:=by simpa using hk
       have:=List.length_pos_iff.2 this;omega
      simp only[go_sem,lD,je,r4,kM,iX,jG,eg,hRl0,oJ,fY,fX,hO,cz,eq_true h0,hlI,hm,hb,zip_cons_cons,zip_nil_left,foldl_cons,foldl_nil];have hc:∀g:Nat→Nat,g 3=421→(some (⟨true,25,1,[[.sl 421 0 (R.length+1)]]⟩:Blk))=some ((iX (R++[(⟨n,u⟩:fI)]).length).ren g):=fun g h=>by rw[length_append,List.length_singleton,yx,h]
      rw[←hTH];exact⟨Wk.renL [0,1,2,421,4] (Ed _ _) (by simp) (by decide) rfl (na rfl (hc _ rfl) (congrArg some (hCr _ rfl)) (hd _) (congrArg some (kx F _).symm)),by rw[hCo];rfl⟩
     ·simp only[go_sem,lD,je,r4,kM,iX,jG,eg,hRl0,oJ,fY,fX,hO,cz,h0,hm,hb,zip_cons_cons,zip_nil_left,foldl_cons,foldl_nil];have hc:∀g:Nat→Nat,g 3=357→(some (⟨true,25,1,[[.sl 357 0 (R.length+1)]]⟩:Blk))=some ((iX (R++[(⟨n,u⟩:fI)]).length).ren g):=fun g h=>by rw[length_append,List.length_singleton,yx,h]
      rw[←hTH];exact⟨Wk.renL [0,1,2,357,4] (Ed _ _) (by simp) (by decide) rfl (na rfl (hc _ rfl) (congrArg some (hCr _ rfl)) (hd _) (congrArg some (kx F _).symm)),by rw[hCo];rfl⟩
   ·have r1:row1 (n,t)=none:=by unfold row1;rw[hS];simp only[hk];rfl
    rw[r1]at hR1;simp only[toList_none,append_nil]at hR1;rw[hR1,hF1]at hTH;obtain⟨C2,hC2⟩:∃C2,iX R.length=C2:=⟨_,rfl⟩;have hCr2:∀g:Nat→Nat,g 3=3→C2=(iX R.length).ren g:=fun g h=>by rw[←hC2,yy _ g h]
    have hCo2:C2.own=true:=by rw[←hC2];rfl
    rw[show xy f (R,F)=[(0,some (kM f)),(1,some C2),(2,some C),(3,some (eg R)),(4,some (lB F))] by rw[←hC,←hC2];rfl];have hk0:u.kind=0∧u.labels=[]:=by simpa[Bh] using hk
    obtain⟨h0,h1⟩:=hk0;simp only[go_sem,lD,je,r4,kM,oJ,fY,fX,hO,cz,eq_true h0,h1,zip_cons_cons,zip_nil_left,foldl_cons,foldl_nil];refine⟨?_,by rw[hCo,hCo2];rfl⟩;rw[←hTH];exact Wk.renL [0,1,2,3,4] (Ed _ _) (by simp) (by decide) rfl (na rfl (congrArg some (hCr2 _ rfl)) (congrArg some (hCr _ rfl)) (congrArg some (kE R _).symm) (congrArg some (kx F _).symm))
 ·rw[hinv,length_map,List.take_length];exact hdone
end Go.Proofs.YtnhbidpdadkcjaaGreatDoor
