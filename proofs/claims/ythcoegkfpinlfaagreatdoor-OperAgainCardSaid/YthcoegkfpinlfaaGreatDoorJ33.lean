import Derived.Test.YthcoegkfpinlfaaGreatDoorJ32
set_option linter.unusedVariables false
set_option linter.unusedSimpArgs false
set_option maxRecDepth 100000
set_option maxHeartbeats 8000000
namespace Go.Proofs.YthcoegkfpinlfaaGreatDoor
section
open Go.RowKit
open Ex (aK aZ valT txtL ValOk th)
theorem Mp {o:OpV} (ho:okO o) (h:(prO o).2=0):ValOk o.val:=Ex.print_ok (s:=(Ex.printF o.val).1) (by rw [← h];rfl) ho.2.1 ho.2.2
theorem mods_fin:∀ j:Fin 13,j.val=0∨(ay 3 (j.val:Int)).2=0:=by decide +kernel
theorem pE {o:OpV} (h0:0≤o.md) (h1:o.md≤12):FY o:=by
 obtain ⟨k,hk⟩:=Int.eq_ofNat_of_zero_le h0
 rcases mods_fin ⟨k,by omega⟩ with h | h
 ·exact .inl (by simp only at h;omega)
 ·exact .inr (by rw [hk];exact h)
theorem sP {o:OpV} (h:d5 o=true):iO o.m=true∧o.m.sp=false∧(-1≤o.amt∧o.amt≤63)∧(o.md=1∨o.md=7∨o.md=11∨o.md=12):=by
 unfold d5 at h
 split at h
 ·cases h
 ·rename_i hc
  simp only [not_or] at hc
  obtain ⟨c1,c2,c3,c4⟩:=hc
  refine ⟨by simpa using c1,by simpa using c2,⟨by omega,by omega⟩,?_⟩
  split at h
  ·rename_i hm;rcases hm with hm | hm<;>simp [hm]
  ·split at h
   ·rename_i hm;rcases hm with hm | hm<;>simp [hm]
   ·cases h
structure Jd (o:OpV):Prop where
 r:iO o.r=true
 v:ValOk o.val
 p:(prO o).2=0
 i:o.mode=3→d5 o=true
theorem Ls {o:OpV} (h:Jd o):bY (vR o)=aa (gG o):=by
 obtain ⟨t,r,hl⟩:=vP o
 have el:=Cr h.p h.v
 have hne:mR o≠[]:=by rw [hl];simp
 have es:bY (spB (mR o))=32::aa (j6 o):=by rw [F4 hl,el]
 have hr:=(gu h.r).1
 unfold vR gG
 rw [eA Gc,Cs hr]
 split
 ·rw [eA cV,lB,es,eA nF,eA Aj,bY]
  simp only [bJ,GS,xE,tA,mp,xF,Jy,QC,List.append_assoc,List.cons_append,List.nil_append]
 split
 ·rw [eA nF,eA cV,es]
  simp only [bJ,GS,xE,tA,mp,xF,Jy,QD,List.append_assoc,List.cons_append,List.nil_append]
 split
 ·rename_i h3
  obtain ⟨m1,m2,m3,m4⟩:=sP (h.i h3)
  have hm:=(gu m1).1
  rw [eA cV,Lt hm]
  split
  ·rw [List.nil_append,eA nF,bY]
   simp only [bJ,GS,xE,tA,mp,M2,xF,List.append_assoc,List.cons_append,List.nil_append,List.append_nil]
  ·have em:=wz (o:=o) (s:=o.amt == -1) (pE (by omega) (by omega)) (by
    rcases Int.lt_or_le o.amt 0 with h0 | h0
    ·exact .inl (by
      have:o.amt = -1:=by omega
      rw [this];rfl)
    ·exact .inr ⟨h0,by omega⟩)
   rw [lB,em,eA nF,bY]
   simp only [bJ,GS,xE,tA,mp,M2,xF,List.append_assoc,List.cons_append,List.nil_append,List.append_nil]
 split
 ·rw [eA nF,bY]
  simp only [bJ,GS,xE,M2,xF,List.append_assoc,List.cons_append,List.nil_append,List.append_nil]
 ·rw [eA cV,lB,es,eA nF,bY]
  simp only [bJ,GS,xE,tA,mp,M2,xF,List.append_assoc,List.cons_append,List.nil_append,List.append_nil]
theorem LY {o:OpV} (h:Jd o):j8 (vR o):=by
 have hr:=(gu h.r).1
 have hl:=Gf (CF h.v)
 unfold vR
 refine bg (eD Gc) (bg (oS hr _) ?_)
 split
 ·exact bg (eD cV) (nH hl (bg (eD nF) (bg (eD Aj) gm)))
 split
 ·exact bg (eD nF) (bg (eD cV) hl)
 split
 ·rename_i h3
  obtain ⟨m1,m2,m3,m4⟩:=sP (h.i h3)
  refine bg (eD cV) (bg (oS (gu m1).1 _) (nH ?_ (bg (eD nF) gm)))
  split
  ·exact gm
  ·exact wV (pE (by omega) (by omega)) (by
    rcases Int.lt_or_le o.amt 0 with h0 | h0
    ·exact .inl (by
      have:o.amt = -1:=by omega
      rw [this];rfl)
    ·exact .inr ⟨h0,by omega⟩)
 split
 ·exact bg (eD nF) gm
 ·exact bg (eD cV) (nH hl (bg (eD nF) gm))
theorem Ki {p:Option Tok} {r:List (Bool×Tok)} (hr:∀ u,eF (some u) r) (o:OpV):eF p (vR o++r):=by
 have hek:∀ {r:List (Bool×Tok)},(∀ u,eF (some u) r)→∀ u,eF (some u) (sg dE::r):=fun h u=>eg nF (h _)
 have hb:∀ u,eF (some u) (sg rD::r):=fun u=>eg Aj (hr _)
 have hne:mR o≠[]:=by obtain ⟨t,r,hl⟩:=vP o;rw [hl];simp
 have low:∀ {q:Option Tok} {r:List (Bool×Tok)},(∀ u,eF (some u) r)→eF q (spB (mR o)++r):=fun h=>by
  rw [← Oq hne];exact FJ (p:=none) (Bf h o)
 unfold vR
 rw [List.cons_append,List.cons_append]
 refine eg Gc (jt Gc ?_)
 split
 ·rw [List.cons_append,List.append_assoc]
  exact eg cV (low (hek hb))
 split
 ·rw [List.cons_append,List.cons_append]
  exact eg nF (eg cV (low hr))
 split
 ·rw [List.cons_append,List.cons_append,List.append_assoc]
  refine eg cV (qa ?_)
  split
  ·exact hek hr _
  ·exact vx ⟨_,rfl⟩ (hek hr) o _
 split
 ·exact hek hr _
 ·rw [List.cons_append,List.append_assoc]
  exact eg cV (low (hek hr))
structure OpOk (o:OpV):Prop where
 ok:okO o
 chk:fi o=0
theorem OpOk.val {o:OpV} (h:OpOk o):ValOk o.val:=Mp h.ok (dz h.chk).2.1
theorem OpOk.mem {o:OpV} (h:OpOk o) (hm:eN o=true):Jd o:=by
 obtain ⟨h1,h2,h3⟩:=ng hm
 refine ⟨h1,h.val,(dz h.chk).2.1,fun h3'=>?_⟩
 rcases h3 with h | h | h | h
 ·omega
 ·omega
 ·omega
 ·exact h.2
theorem OpOk.n {o:OpV} (h:OpOk o) (hk:o.kind=4∨o.kind=6∨o.kind=7∨o.kind=8∨o.kind=9):(0≤o.n∧o.n≤jP o.kind):=by
 obtain ⟨-,hc⟩:=dr (dz h.chk).1
 rcases hc with ⟨k,-⟩ | ⟨k,-⟩ | k | ⟨-,n0,n1⟩ | ⟨k,-⟩
 ·omega
 ·omega
 ·omega
 ·exact ⟨n0,n1⟩
 ·omega
theorem OpOk.named {o:OpV} (h:OpOk o):(o.kind=4→(ay 2 o.n).2=0)∧(o.kind=6→(ay 6 o.n).2=0)∧(o.kind=7∨o.kind=8∨o.kind=9→0≤o.n∧o.n<100):=by
 refine ⟨fun k=>?_,fun k=>?_,fun k=>?_⟩
 ·obtain ⟨n0,n1⟩:=h.n (by omega)
  rw [k] at n1
  exact yi n0 n1
 ·obtain ⟨n0,n1⟩:=h.n (by omega)
  rw [k] at n1
  exact BG n0 n1
 ·obtain ⟨n0,n1⟩:=h.n (by omega)
  refine ⟨n0,?_⟩
  rcases k with k | k | k<;>rw [k] at n1
  ·have:jP 7=15:=rfl
   omega
  ·have:jP 8=31:=rfl
   omega
  ·have:jP 9=5:=rfl
   omega
theorem OpOk.amount {o:OpV} (h:OpOk o) (hk:o.kind=1∨o.kind=2):FY o∧0≤o.amt∧o.amt<100:=by
 obtain ⟨-,hc⟩:=dr (dz h.chk).1
 rcases hc with ⟨k,-,ha⟩ | ⟨k,ha⟩ | k | ⟨k,-⟩ | ⟨k,-⟩
 ·obtain ⟨⟨a,b⟩,c,d⟩:=pY ha
  exact ⟨pE a b,c,d⟩
 ·obtain ⟨⟨a,b⟩,c,d⟩:=pY ha
  exact ⟨pE a (by omega),c,d⟩
 ·omega
 ·omega
 ·omega
theorem OpOk.reg {o:OpV} (h:OpOk o) (hk:o.kind=1):iO o.r=true:=by
 obtain ⟨-,hc⟩:=dr (dz h.chk).1
 rcases hc with ⟨k,hr,ha⟩ | ⟨k,ha⟩ | k | ⟨k,-⟩ | ⟨k,-⟩
 ·exact hr
 all_goals omega
theorem OpOk.isMem {o:OpV} (h:OpOk o) (hk:¬o.kind=1∧¬o.kind=2∧¬o.kind=3∧¬o.kind=4∧¬o.kind=6∧¬o.kind=7∧¬o.kind=8∧¬o.kind=9):o.kind=5∧eN o=true:=by
 obtain ⟨-,hc⟩:=dr (dz h.chk).1
 rcases hc with ⟨k,-⟩ | ⟨k,-⟩ | k | ⟨k,-⟩ | ⟨k,hm⟩
 ·omega
 ·omega
 ·omega
 ·omega
 ·exact ⟨k,hm⟩
theorem tf {o:OpV} (h:OpOk o):bY (gX o)=aa (aT o):=by
 have hv:=h.val
 have hp:=(dz h.chk).2.1
 obtain ⟨n4,n6,n7⟩:=h.named
 have ev:bY (rm o.val)=aa (mh o):=Cv hp hv
 unfold gX aT
 split
 ·rename_i k
  obtain ⟨m,a⟩:=h.amount (.inl k)
  rw [Cs (gu (h.reg k)).1,wz m (.inr a),bJ]
 split
 ·rename_i k
  obtain ⟨m,a⟩:=h.amount (.inr k)
  rw [lB,Cr hp hv,wz m (.inr a),bJ]
 split
 ·split
  ·rw [eA gE,ev,bJ]
  ·exact ev
 split
 ·rename_i k;exact lZ (.inl rfl) (.inl (n4 k))
 split
 ·rename_i k;exact lZ (.inr (.inr (.inr (.inl rfl)))) (.inl (n6 k))
 split
 ·rename_i k;exact lZ (.inr (.inr (.inl rfl))) (.inr (n7 (.inl k)))
 split
 ·rename_i k;exact lZ (.inr (.inr (.inr (.inr (.inl rfl))))) (.inr (n7 (.inr (.inl k))))
 split
 ·rename_i k;exact lZ (.inr (.inr (.inr (.inr (.inr rfl))))) (.inr (n7 (.inr (.inr k))))
 ·rename_i h1 h2 h3 h4 h6 h7 h8 h9
  exact Ls (h.mem (h.isMem ⟨h1,h2,h3,h4,h6,h7,h8,h9⟩).2)
theorem tj {o:OpV} (h:OpOk o):j8 (gX o):=by
 have hv:=h.val
 obtain ⟨n4,n6,n7⟩:=h.named
 unfold gX
 split
 ·rename_i k
  obtain ⟨m,a⟩:=h.amount (.inl k)
  exact bg (oS (gu (h.reg k)).1 _) (wV m (.inr a))
 split
 ·rename_i k
  obtain ⟨m,a⟩:=h.amount (.inr k)
  exact nH (CF hv) (wV m (.inr a))
 split
 ·split
  ·exact bg (eD gE) (sm hv)
  ·exact sm hv
 split
 ·rename_i k;exact me (.inl rfl) (.inl (n4 k))
 split
 ·rename_i k;exact me (.inr (.inr (.inr (.inl rfl)))) (.inl (n6 k))
 split
 ·rename_i k;exact me (.inr (.inr (.inl rfl))) (.inr (n7 (.inl k)))
 split
 ·rename_i k;exact me (.inr (.inr (.inr (.inr (.inl rfl))))) (.inr (n7 (.inr (.inl k))))
 split
 ·rename_i k;exact me (.inr (.inr (.inr (.inr (.inr rfl))))) (.inr (n7 (.inr (.inr k))))
 ·rename_i h1 h2 h3 h4 h6 h7 h8 h9
  exact LY (h.mem (h.isMem ⟨h1,h2,h3,h4,h6,h7,h8,h9⟩).2)
theorem xW {p:Option Tok} (hp:∀ t,th p t=false) {r:List (Bool×Tok)} (hr:∀ u,eF (some u) r) (o:OpV):eF p (gX o++r):=by
 unfold gX
 split
 ·rw [List.cons_append]
  exact ⟨.inr (hp _),vx ⟨_,rfl⟩ hr o _⟩
 split
 ·rw [List.append_assoc]
  refine Bf (fun u=>vx ⟨_,rfl⟩ hr o _) o
 split
 ·split
  ·exact eg gE (px (fun t=>Ex.sgn_sep t gE.2) hr _)
  ·exact px hp hr _
 split
 ·exact lN hp hr _ _
 split
 ·exact lN hp hr _ _
 split
 ·exact lN hp hr _ _
 split
 ·exact lN hp hr _ _
 split
 ·exact lN hp hr _ _
 ·exact Ki hr o
def rb:List OpV→List (Bool×Tok)
 | []=>[]
 | [o]=>gX o
 | o::p::r=>gX o++sg aY::spB (rb (p::r))
theorem sw {o:OpV} (h:OpOk o):∃ t r,gX o=(false,t)::r:=by
 obtain ⟨tl,rl,hl⟩:=vP o
 have hv:∀ v:Val,∃ t r,rm v=(false,t)::r:=fun v=>by
  unfold rm valT
  split
  ·split
   ·exact ⟨_,_,rfl⟩
   ·exact ⟨_,_,rfl⟩
  ·exact ⟨_,_,rfl⟩
 have hn:∀ k n,∃ t r,gC k n=(false,t)::r:=fun k n=>by
  unfold gC
  split
  ·exact ⟨_,_,rfl⟩
  ·exact ⟨_,_,rfl⟩
 unfold gX
 split
 ·exact ⟨_,_,rfl⟩
 split
 ·exact ⟨tl,rl++rS o false,by rw [hl];rfl⟩
 split
 ·split
  ·exact ⟨_,_,rfl⟩
  ·exact hv _
 split
 ·exact hn _ _
 split
 ·exact hn _ _
 split
 ·exact hn _ _
 split
 ·exact hn _ _
 split
 ·exact hn _ _
 ·exact ⟨_,_,rfl⟩
theorem P1:∀ {p:OpV} {r:List OpV},OpOk p→∃ t x,rb (p::r)=(false,t)::x
 | p,[],h=>sw h
 | p,q::r,h=>by
  obtain ⟨t,x,e⟩:=sw h
  exact ⟨t,x++sg aY::spB (rb (q::r)),by rw [rb,e];rfl⟩
theorem join_cons (x y:ByteArray) (r:List ByteArray):mz (x::y::r)=x++gr++mz (y::r):=by
 show r.foldl _ (x++gr++y)=x++gr++r.foldl _ y
 have:∀ (r:List ByteArray) (a b:ByteArray),r.foldl (fun a y=>a++gr++y) (a++b)=a++r.foldl (fun a y=>a++gr++y) b:=by
  intro r
  induction r with
  | nil=>intro a b;rfl
  | cons z r ih =>
   intro a b
   rw [List.foldl_cons,List.foldl_cons,show a++b++gr++z=a++(b++gr++z) by simp only [ByteArray.append_assoc],ih]
 exact this r (x++gr) y
theorem Cu:∀ {l:List OpV},(∀ o∈l,OpOk o)→bY (rb l)=aa (mz (l.map aT))
 | [],_=>rfl
 | [o],h=>tf (h o (by simp))
 | o::p::r,h=>by
  obtain ⟨t,x,e⟩:=P1 (p:=p) (r:=r) (h p (by simp))
  have ih:=Cu (l:=p::r) fun q hq=>h q (List.mem_cons_of_mem _ hq)
  rw [rb,lB,tf (h o (by simp)),eA cV,F4 e,ih,show mz ((o::p::r).map aT)=aT o++gr++mz ((p::r).map aT) from join_cons _ _ _,bJ,bJ,tA,mp]
  simp
theorem CH:∀ {l:List OpV},(∀ o∈l,OpOk o)→j8 (rb l)
 | [],_=>gm
 | [o],h=>tj (h o (by simp))
 | o::p::r,h=>by
  rw [rb]
  exact nH (tj (h o (by simp))) (bg (eD cV) (Gf (CH fun q hq=>h q (List.mem_cons_of_mem _ hq))))
theorem Bg:∀ {l:List OpV} {p:Option Tok},(∀ t,th p t=false)→eF p (rb l)
 | [],_,_=>trivial
 | [o],p,hp=>by
  have:=xW hp (r:=[]) (fun u=>trivial) o
  rwa [List.append_nil] at this
 | o::q::r,p,hp=>by
  rw [rb]
  exact xW hp (fun u=>eg cV (FJ (p:=none) (Bg fun t=>rfl))) o
def txT (o:OpV):List Tok:=(gX o).map (·.2)
def pJ:List OpV→List Tok
 | []=>[]
 | [o]=>txT o
 | o::p::r=>txT o++aK aY::pJ (p::r)
theorem Cd:∀ l:List OpV,(rb l).map (·.2)=pJ l
 | []=>rfl
 | [o]=>rfl
 | o::p::r=>by
  rw [rb,pJ,List.map_append,List.map_cons,uM,Cd (p::r)];rfl
def lG (l:List (Bool×Tok)):Prop:=∀ u∈l,dH u.2=u.2
theorem fZ:lG []:=fun u hu=>by cases hu
theorem bd {x:Bool×Tok} {l:List (Bool×Tok)} (h:dH x.2=x.2) (hl:lG l):lG (x::l):=fun u hu=>by
 rcases List.mem_cons.1 hu with rfl | hu
 ·exact h
 ·exact hl u hu
theorem m6 {a b:List (Bool×Tok)} (ha:lG a) (hb:lG b):lG (a++b):=fun u hu=>(List.mem_append.1 hu).elim (ha u) (hb u)
theorem AJ {l:List (Bool×Tok)} (h:lG l):lG (spB l):=by
 cases l with
 | nil=>exact h
 | cons x l=>exact bd (h x (by simp)) fun u hu=>h u (by simp [hu])
theorem p6 (v:Val):lG (rm v):=fun u hu=>by
 obtain ⟨t,ht,rfl⟩:=List.mem_map.1 hu
 have e:=Ex.bare_valT v
 obtain ⟨i,hi,ei⟩:=List.mem_iff_getElem.1 ht
 have:((valT v).map dH)[i]? = (valT v)[i]?:=by rw [e]
 rw [List.getElem?_map,List.getElem?_eq_getElem hi] at this
 simp only [Option.map_some,Option.some.injEq] at this
 rw [← ei];exact this
theorem xG (o:OpV):lG (mR o):=by
 unfold mR
 split
 ·exact bd rfl (bd rfl (bd rfl (p6 _)))
 ·exact bd rfl (p6 _)
theorem sy (o:OpV) (s:Bool):lG (rS o s):=by
 unfold rS
 split
 ·exact fZ
 ·split
  ·exact bd rfl (bd rfl fZ)
  ·exact bd rfl (bd rfl (bd rfl (bd rfl fZ)))
theorem kE (k n:Int):lG (gC k n):=by
 unfold gC
 split
 ·exact bd rfl fZ
 ·exact bd rfl (bd rfl fZ)
theorem zzu9 (o:OpV):lG (gX o):=by
 have hl:=AJ (xG o)
 have hm:lG (vR o):=by
  unfold vR
  refine bd rfl (bd rfl ?_)
  split
  ·exact bd rfl (m6 hl (bd rfl (bd rfl fZ)))
  split
  ·exact bd rfl (bd rfl hl)
  split
  ·refine bd rfl (bd rfl (m6 ?_ (bd rfl fZ)))
   split
   ·exact fZ
   ·exact sy o _
  split
  ·exact bd rfl fZ
  ·exact bd rfl (m6 hl (bd rfl fZ))
 unfold gX
 split
 ·exact bd rfl (sy o _)
 split
 ·exact m6 (xG o) (sy o _)
 split
 ·split
  ·exact bd rfl (p6 _)
  ·exact p6 _
 split
 ·exact kE _ _
 split
 ·exact kE _ _
 split
 ·exact kE _ _
 split
 ·exact kE _ _
 split
 ·exact kE _ _
 ·exact hm
theorem AK:∀ l:List OpV,lG (rb l)
 | []=>fZ
 | [o]=>zzu9 o
 | o::p::r=>by
  rw [rb]
  exact m6 (zzu9 o) (bd rfl (AJ (AK (p::r))))
end
section
open Go.RowKit
open Ex (aK aZ valT ValOk)
theorem mY (s:ByteArray) (r:List Tok):atF (aK s::r) 4 0=s:=rfl
theorem at_sg1 (s:ByteArray) (r:List Tok):atF (aK s::r) 1 0=emp:=rfl
theorem Jv (s:ByteArray) (r:List Tok):atF (aZ s::r) 1 0=s:=rfl
theorem Jw (s:ByteArray) (r:List Tok):atF (aZ s::r) 4 0=emp:=rfl
theorem at_num (n:Int) (r:List Tok):atF (Ex.numT n::r) 1 0=emp:=rfl
theorem at_num4 (n:Int) (r:List Tok):atF (Ex.numT n::r) 4 0=emp:=rfl
theorem at_succ (t:Tok) (r:List Tok) (k:Int) (n:Nat):atF (t::r) k (n+1)=atF r k n:=rfl
theorem Do (k:Int) (n:Nat):atF [] k n=emp:=by unfold atF;simp
def Tail (r:List Tok):Prop:=r=[]∨∃ r',r=aK aY::r'∧¬(ap 3 3 (atF r' 1 0)).2=0
theorem vq (r:List Tok):Ex.Ends (aK aY::r) 0:=Ex.ends_sign fun k h1 h2=>Ex.sign_all (p:=fun s=>aY≠s) (by decide) (by decide) (by decide) (by decide) (by decide) (by decide) (by decide) (by decide) (by decide) (by decide) k h1 h2
theorem uy (r:List Tok):Ex.Ends (aK dE::r) 0:=Ex.ends_sign fun k h1 h2=>Ex.sign_all (p:=fun s=>dE≠s) (by decide) (by decide) (by decide) (by decide) (by decide) (by decide) (by decide) (by decide) (by decide) (by decide) k h1 h2
theorem Tail.ends {r:List Tok} (h:Tail r):Ex.Ends r 0:=by
 rcases h with rfl | ⟨r',rfl,-⟩
 ·exact Ex.ends_emp rfl
 ·exact vq r'
theorem Tail.four {r:List Tok} (h:Tail r):atF r 4 0=emp∨atF r 4 0=aY:=by
 rcases h with rfl | ⟨r',rfl,-⟩
 ·exact .inl (Do _ _)
 ·exact .inr rfl
theorem Tail.not {r:List Tok} (h:Tail r) {s:ByteArray} (h1:emp≠s) (h2:aY≠s):¬atF r 4 0=s:=fun e=>by
 rcases h.four with h | h
 ·exact h1 (h.symm.trans e)
 ·exact h2 (h.symm.trans e)
theorem nU {o:OpV} {most nn:Int} {r:List Tok} (h:Tail r):changedR o most nn r=.ok (o,r):=by
 unfold changedR
 rcases h with rfl | ⟨r',rfl,hn⟩
 ·rw [if_pos (.inl (by rw [Do];decide))]
 ·rw [if_pos (.inr (.inl hn))]
theorem xg {o:OpV} {most nn:Int} {s:ByteArray} {r:List Tok} (h:s≠aY):changedR o most nn (aK s::r)=.ok (o,aK s::r):=by
 unfold changedR
 rw [if_pos (.inl h)]
theorem im (s:ByteArray) (r:List Tok):mustR s (aK s::r)=.ok r:=by
 unfold mustR
 rw [if_pos (mY s r)]
 rfl
theorem IX {a:Int} (h0:0≤a) (h1:a≤9223372036854775807):ValOk ⟨a,emp,emp⟩:=⟨.inl rfl,.inl rfl,fun _=>rfl,by show -9223372036854775808≤a;omega,h1⟩
theorem yW {a:Int} (h0:0≤a) (h1:a≤9223372036854775807) {r:List Tok} (he:Ex.Ends r 0):valueR (Ex.numT a::r)=.ok (⟨a,emp,emp⟩,r):=by
 have e:valT ⟨a,emp,emp⟩=[Ex.numT a]:=by
  unfold Ex.valT
  rw [if_pos ⟨rfl,rfl⟩,if_neg (by show ¬a<0;omega)]
 have:=fQ (IX h0 h1) he
 rwa [e] at this
theorem G1 {a:Int} (h0:0≤a) (h1:a≤63) {r:List Tok} (he:Ex.Ends r 0):countR (aK bc::Ex.numT a::r)=.ok (a,r):=by
 unfold countR
 rw [im]
 simp only
 rw [yW h0 (by omega) he]
 exact if_pos ⟨⟨rfl,rfl⟩,h0,h1⟩
theorem pn {o:OpV} {most nn md:Int} {r:List Tok} (hm:(ay 3 md).2=0) (h5:5≤md) (hle:md≤most) (hr:¬atF r 4 0=bc) :
  changedR o most nn (aK aY::aZ (ay 3 md).1::r)=.ok ({ o with md:=md,amt:=nn },r):=by
 have e:ap 3 3 (atF (aK aY::aZ (ay 3 md).1::r) 1 1)=(md,0):=kO hm
 unfold changedR
 rw [e,if_neg (by rw [mY];simp;omega),if_neg]
 ·rfl
 ·rintro (h | h)
  ·simp only at h;omega
  ·exact hr h
theorem pm {o:OpV} {most nn md a:Int} {r:List Tok} (hm:(ay 3 md).2=0) (hle:md≤most) (h0:0≤a) (h1:a≤63) (he:Ex.Ends r 0) :
  changedR o most nn (aK aY::aZ (ay 3 md).1::aK bc::Ex.numT a::r)=.ok ({ o with md:=md,amt:=a },r):=by
 have e:ap 3 3 (atF (aK aY::aZ (ay 3 md).1::aK bc::Ex.numT a::r) 1 1)=(md,0):=kO hm
 unfold changedR
 rw [e,if_neg (by rw [mY];simp;omega),if_pos (.inr rfl)]
 show (match countR (aK bc::Ex.numT a::r) with | .error e=>_ | .ok (k,l')=>_)=_
 rw [G1 h0 h1 he]
theorem uK {r:hP} (h:iO r=true) (l:List Tok):gJ (aZ (dy r)::l)=(r,true):=by
 unfold gJ
 rw [Jv,(gu h).2.1]
 rfl
theorem EL {l:List Tok} (h:¬(fm 3 (atF l 1 0)).2=0):gJ l=(r0,false):=by
 unfold gJ
 rw [if_neg h]
theorem te (s:ByteArray) (l:List Tok):gJ (aK s::l)=(r0,false):=EL wt
theorem gj {o:OpV} (h:¬o.kind=3∧¬o.kind=7∧¬o.kind=8∧¬o.kind=9):aN o=o:=by
 unfold aN
 split
 ·rfl
 rw [if_neg h.1,if_neg h.2.1,if_neg h.2.2.1,if_neg h.2.2.2]
theorem uW {o:OpV} {m:Int} (h:dF o m=true):0≤o.md∧o.md≤m∧0≤o.amt∧o.amt≤63∧(0<o.md∨o.amt=0):=of_decide_eq_true h
theorem zL {o:OpV} (h0:0<o.md) (h1:o.md≤12):(ay 3 o.md).2=0:=(pE (o:=o) (by omega) h1).resolve_left (by omega)
def uj (o:OpV) (silent:Bool):List Tok:=if o.md=0 then [] else if silent=true then [aK aY,aZ (ay 3 o.md).1] else [aK aY,aZ (ay 3 o.md).1,aK bc,Ex.numT o.amt]
theorem zP (o:OpV) (s:Bool):(rS o s).map (·.2)=uj o s:=by
 unfold rS uj
 split
 ·rfl
 ·split<;>rfl
theorem nN (v:Val):(rm v).map (·.2)=valT v:=by
 unfold rm
 rw [List.map_map]
 exact List.map_id _
def pC (o:OpV):List Tok:=if o.lo=true then aK dO::aZ lR::aK dO::valT o.val else aK bc::valT o.val
theorem uD (o:OpV):(mR o).map (·.2)=pC o:=by
 unfold mR pC
 split
 ·rw [List.map_cons,List.map_cons,List.map_cons,nN];rfl
 ·rw [List.map_cons,nN];rfl
def ox (k n:Int):List Tok:=if (ay k n).2=0 then [aZ (ay k n).1] else [aK bc,Ex.numT n]
theorem nh (k n:Int):(gC k n).map (·.2)=ox k n:=by
 unfold gC ox
 split<;>rfl
theorem Ln {o:OpV} (h:OpOk o) (k:o.kind=1) {r:List Tok} (hr:Tail r):operR (txT o++r)=.ok (aN o,r):=by
 obtain ⟨hb,hc⟩:=dr (dz h.chk).1
 have ha:dF o 12=true:=by rcases hc with ⟨_,_,ha⟩ | ⟨k2,_⟩ | k2 | ⟨k2,_⟩ | ⟨k2,_⟩<;>first | exact ha | omega
 obtain ⟨a1,a2,a3,a4,a5⟩:=uW ha
 have hreg:=h.reg k
 have sh:(⟨1,o.r,r0,o.md,o.amt,0,0,emp,emp,false,0⟩:OpV)=o:=by
  have:=hb
  unfold fX at this
  rwa [if_pos k,k] at this
 have et:txT o=aZ (dy o.r)::uj o (decide (5≤o.md)&&decide (o.amt=0)):=by
  unfold txT gX
  rw [if_pos k,List.map_cons,zP]
 rw [gj (by omega),et,List.cons_append]
 unfold operR
 rw [uK hreg,if_pos rfl]
 show changedR ⟨1,o.r,r0,0,0,0,0,emp,emp,false,0⟩ 12 0 (uj o (decide (5≤o.md)&&decide (o.amt=0))++r)=_
 unfold uj
 by_cases m0:o.md=0
 ·rw [if_pos m0,List.nil_append,nU hr]
  have e0:o.amt=0:=by omega
  rw [m0,e0] at sh
  rw [sh]
 ·rw [if_neg m0]
  have hm:=zL (o:=o) (by omega) a2
  by_cases hs:(decide (5≤o.md)&&decide (o.amt=0))=true
  ·rw [if_pos hs]
   rw [Bool.and_eq_true,decide_eq_true_eq,decide_eq_true_eq] at hs
   rw [show [aK aY,aZ (ay 3 o.md).1]++r=aK aY::aZ (ay 3 o.md).1::r from rfl,pn hm hs.1 a2 (hr.not (by decide) (by decide))]
   rw [hs.2] at sh
   simp only [sh]
  ·rw [if_neg hs]
   rw [show [aK aY,aZ (ay 3 o.md).1,aK bc,Ex.numT o.amt]++r=aK aY::aZ (ay 3 o.md).1::aK bc::Ex.numT o.amt::r from rfl,pm hm a2 a3 a4 hr.ends]
   simp only [sh]
theorem FX {l:List Tok} (h:¬atF l 4 0=dO):loR l=.ok (false,l):=by
 unfold loR
 rw [if_pos h]
theorem KF (l:List Tok):loR (aK dO::aZ lR::aK dO::l)=.ok (true,l):=by
 unfold loR
 rw [if_neg (fun h=>h rfl),if_neg]
 ·rfl
 ·rintro (h | h)<;>exact h rfl
theorem ra (l:List Tok):operR (aK bc::l)=m9 l:=by
 unfold operR
 rw [te,if_neg (by simp),mY,if_neg (by decide),if_pos rfl]
 rfl
theorem x1 {v:Val} (hv:ValOk v) {r:List Tok} (hr:Tail r):m9 (valT v++r)=.ok (iI v false,r):=by
 unfold m9
 rw [fQ hv hr.ends]
 exact nU hr
theorem Lk {o:OpV} (h:OpOk o) (k:o.kind=2) {r:List Tok} (hr:Tail r):operR (txT o++r)=.ok (aN o,r):=by
 obtain ⟨hb,hc⟩:=dr (dz h.chk).1
 have ha:dF o 1=true:=by rcases hc with ⟨k2,_⟩ | ⟨_,ha⟩ | k2 | ⟨k2,_⟩ | ⟨k2,_⟩<;>first | exact ha | omega
 obtain ⟨a1,a2,a3,a4,a5⟩:=uW ha
 have et:txT o=pC o++uj o false:=by
  unfold txT gX
  rw [if_neg (by omega),if_pos k,List.map_append,uD,zP]
 rw [gj (by omega),et]
 cases hl:o.lo with
 | true =>
  have sh:(⟨2,r0,r0,0,0,0,o.add,o.plus,o.minus,true,0⟩:OpV)=o:=by
   have:=hb
   unfold fX at this
   rw [if_neg (by omega),if_pos k,if_pos hl,k] at this
   rw [hl] at this
   exact this
  have m0:o.md=0:=(congrArg OpV.md sh).symm
  have em:uj o false=[]:=by unfold uj;rw [if_pos m0]
  have el:pC o=aK dO::aZ lR::aK dO::valT o.val:=by unfold pC;rw [if_pos hl]
  rw [em,el,List.append_nil]
  unfold operR
  rw [show (aK dO::aZ lR::aK dO::valT o.val)++r=aK dO::aZ lR::aK dO::(valT o.val++r) from rfl,te,if_neg (by simp),mY,if_neg (by decide),if_neg (by decide),KF]
  simp only
  rw [fQ h.val hr.ends]
  simp only
  rw [show iI o.val true=o from sh]
 | false =>
  have sh:(⟨2,r0,r0,o.md,o.amt,0,o.add,o.plus,o.minus,false,0⟩:OpV)=o:=by
   have:=hb
   unfold fX at this
   rw [if_neg (by omega),if_pos k,if_neg (by rw [hl];simp),k] at this
   rw [hl] at this
   exact this
  have el:pC o=aK bc::valT o.val:=by unfold pC;rw [if_neg (by rw [hl];simp)]
  rw [el,List.cons_append,List.cons_append,ra,List.append_assoc]
  unfold uj
  by_cases m0:o.md=0
  ·rw [if_pos m0,List.nil_append,x1 h.val hr]
   have e0:o.amt=0:=by omega
   rw [m0,e0] at sh
   rw [show iI o.val false=o from sh]
  ·rw [if_neg m0,if_neg (by simp)]
   have hm:=zL (o:=o) (by omega) (by omega)
   unfold m9
   rw [show [aK aY,aZ (ay 3 o.md).1,aK bc,Ex.numT o.amt]++r=aK aY::aZ (ay 3 o.md).1::aK bc::Ex.numT o.amt::r from rfl,fQ h.val (vq _)]
   simp only
   rw [pm hm a2 a3 a4 hr.ends]
   rw [show ({ iI o.val false with md:=o.md,amt:=o.amt }:OpV)=o from sh]
theorem yV (v:Val):∃ t r,valT v=t::r∧(v.plus=emp∧v.minus=emp∨t=if v.plus=emp then Ex.numT 0 else aZ v.plus):=by
 unfold Ex.valT
 by_cases c:v.plus=emp∧v.minus=emp
 ·rw [if_pos c]
  by_cases n:v.add<0
  ·rw [if_pos n];exact ⟨_,_,rfl,.inl c⟩
  ·rw [if_neg n];exact ⟨_,_,rfl,.inl c⟩
 ·rw [if_neg c];exact ⟨_,_,rfl,.inr rfl⟩
theorem Ob {o:OpV} (h:OpOk o) (k:o.kind=3) {r:List Tok} (hr:Tail r):operR (txT o++r)=.ok (aN o,r):=by
 obtain ⟨hb,hc⟩:=dr (dz h.chk).1
 have hw:=(dz h.chk).2.2 k
 have sh:(⟨3,r0,r0,0,0,0,o.add,o.plus,o.minus,false,0⟩:OpV)=o:=by
  have:=hb
  unfold fX at this
  rwa [if_neg (by omega),if_neg (by omega),if_pos k,k] at this
 cases ha:kW o with
 | true =>
  have et:txT o=aK bc::valT o.val:=by
   unfold txT gX
   rw [if_neg (by omega),if_neg (by omega),if_pos k,if_pos ha,List.map_cons,nN];rfl
  have ep:aN o=iI o.val false:=by
   unfold aN
   rw [if_neg (not_not_intro h.chk),if_pos k,if_pos ha];rfl
  rw [ep,et,List.cons_append,ra,x1 h.val hr]
 | false =>
  have et:txT o=valT o.val:=by
   unfold txT gX
   rw [if_neg (by omega),if_neg (by omega),if_pos k,if_neg (by rw [ha];simp),nN]
  have ep:aN o=o:=by
   unfold aN
   rw [if_neg (not_not_intro h.chk),if_pos k,if_neg (by rw [ha];simp)]
  have hna:¬(o.plus=emp∧o.minus=emp):=fun e=>by
   unfold kW at ha
   rw [decide_eq_true e.1,decide_eq_true e.2] at ha
   cases ha
  obtain ⟨t,x,ev,hx⟩:=yV o.val
  have ht:t=if o.plus=emp then Ex.numT 0 else aZ o.plus:=hx.resolve_left hna
  have h4:atF (valT o.val++r) 4 0=emp:=by
   rw [ev,ht]
   split<;>rfl
  have h1:atF (valT o.val++r) 1 0=o.plus:=by
   rw [ev,ht]
   split
   ·rename_i e;rw [e];rfl
   ·rfl
  have hreg:¬(fm 3 o.plus).2=0:=by
   rcases hw with e | e
   ·rw [e];exact wt
   ·exact D7 e
  rw [ep,et]
  unfold operR
  rw [EL (by rw [h1];exact hreg),if_neg (by simp),h4,if_neg (by decide),if_neg (by decide),FX (by rw [h4];decide)]
  simp only
  rw [h1,if_neg (by
   rintro ⟨e1,e2⟩
   rcases hw with e | e
   ·exact e1 e
   ·rw [e] at e2;cases e2),fQ h.val hr.ends]
  simp only
  rw [if_neg (show ¬(o.val.plus=emp∧o.val.minus=emp) from hna),show toV o.val=o from sh]
theorem nl {s:ByteArray} {l:List Tok} (h1:¬s=emp) (h2:¬(fm 3 s).2=0) (h3:iE 3 s=true):operR (aZ s::l)=cJ s (aZ s::l):=by
 unfold operR
 rw [EL (by rw [Jv];exact h2),if_neg (by simp),Jw,if_neg (by decide),if_neg (by decide),FX (by rw [Jw];decide)]
 simp only
 rw [Jv,if_pos ⟨h1,h3⟩]
theorem kq {s:ByteArray} {kd k:Int} {r:List (Int×Int)} {n:Int} (h:ap 3 kd s=(n,0)):rsvdF s ((kd,k)::r)=some (ju k n):=by
 rw [rsvdF,h,if_pos rfl]
theorem fD {s:ByteArray} {kd k:Int} {r:List (Int×Int)} (h:¬(ap 3 kd s).2=0):rsvdF s ((kd,k)::r)=rsvdF s r:=by
 rw [rsvdF,if_neg h]
theorem nE {s:ByteArray} {l:List Tok} {o:OpV} {t:Tok} (h:rsvdF s jY=some o):cJ s (t::l)=.ok (o,l):=by
 unfold cJ
 rw [h];rfl
theorem wI {o:OpV} (h:OpOk o) (k:o.kind=4∨o.kind=6∨o.kind=7∨o.kind=8∨o.kind=9):ju o.kind o.n=o:=by
 have:=(dr (dz h.chk).1).1
 unfold fX at this
 rwa [if_neg (by omega),if_neg (by omega),if_neg (by omega),if_neg (by omega),if_pos k] at this
theorem yz:∀ j:Fin 6,(ay 8 (j.val:Int)).2=0:=by decide +kernel
theorem Iu {o:OpV} (h:OpOk o) (k:o.kind=4) {r:List Tok}:operR (txT o++r)=.ok (aN o,r):=by
 have hn:=h.named.1 k
 have f:=iU (.inl rfl) hn
 have et:txT o=[aZ (ay 2 o.n).1]:=by
  unfold txT gX
  rw [if_neg (by omega),if_neg (by omega),if_neg (by omega),if_pos k,nh]
  unfold ox
  rw [if_pos hn]
 have sh:=wI h (.inl k)
 rw [k] at sh
 rw [gj (by omega),et,List.singleton_append,nl (wX f.1) f.2.1 (rX (by decide) hn),nE (kq (kO hn)),sh]
theorem Lp {o:OpV} (h:OpOk o) (k:o.kind=6) {r:List Tok}:operR (txT o++r)=.ok (aN o,r):=by
 have hn:=h.named.2.1 k
 have f:=iU (.inr (.inr (.inr (.inl rfl)))) hn
 obtain ⟨f2,f4⟩:=f.2.2.2.2.1 rfl
 have et:txT o=[aZ (ay 6 o.n).1]:=by
  unfold txT gX
  rw [if_neg (by omega),if_neg (by omega),if_neg (by omega),if_neg (by omega),if_pos k,nh]
  unfold ox
  rw [if_pos hn]
 have sh:=wI h (.inr (.inl k))
 rw [k] at sh
 have hs:rsvdF (ay 6 o.n).1 jY=some (ju 6 o.n):=by
  show rsvdF _ ((2,4)::(4,7)::(6,6)::_)=_
  rw [fD f2,fD f4,kq (kO hn)]
 rw [gj (by omega),et,List.singleton_append,nl (wX f.1) f.2.1 (rX (by decide) hn),nE hs,sh]
theorem Bp {n:Int} (h0:0≤n) (h1:n<100) {r:List Tok} (hr:Tail r):operR ([aK bc,Ex.numT n]++r)=.ok (pF n,r):=by
 rw [show [aK bc,Ex.numT n]++r=aK bc::Ex.numT n::r from rfl,ra]
 unfold m9
 rw [yW h0 (by omega) hr.ends]
 exact nU hr
theorem Lh {o:OpV} (h:OpOk o) (k:o.kind=7) {r:List Tok} (hr:Tail r):operR (txT o++r)=.ok (aN o,r):=by
 have et:txT o=ox 4 o.n:=by
  unfold txT gX
  rw [if_neg (by omega),if_neg (by omega),if_neg (by omega),if_neg (by omega),if_neg (by omega),if_pos k,nh]
 have sh:=wI h (.inr (.inr (.inl k)))
 rw [k] at sh
 have ep:aN o=if ¬(ay 4 o.n).2=0 then pF o.n else o:=by
  unfold aN
  rw [if_neg (not_not_intro h.chk),if_neg (by omega),if_pos k]
 rw [et,ep]
 unfold ox
 by_cases hn:(ay 4 o.n).2=0
 ·have f:=iU (.inr (.inr (.inl rfl))) hn
  have hs:rsvdF (ay 4 o.n).1 jY=some (ju 7 o.n):=by
   show rsvdF _ ((2,4)::(4,7)::_)=_
   rw [fD (f.2.2.2.1 rfl),kq (kO hn)]
  rw [if_pos hn,if_neg (not_not_intro hn),List.singleton_append,nl (wX f.1) f.2.1 (rX (by decide) hn),nE hs,sh]
 ·obtain ⟨n0,n1⟩:=h.named.2.2 (.inl k)
  rw [if_neg hn,if_pos hn,Bp n0 n1 hr]
theorem Lm {o:OpV} (h:OpOk o) (k:o.kind=8) {r:List Tok} (hr:Tail r):operR (txT o++r)=.ok (aN o,r):=by
 have et:txT o=ox 7 o.n:=by
  unfold txT gX
  rw [if_neg (by omega),if_neg (by omega),if_neg (by omega),if_neg (by omega),if_neg (by omega),if_neg (by omega),if_pos k,nh]
 have sh:=wI h (.inr (.inr (.inr (.inl k))))
 rw [k] at sh
 have ep:aN o=if ¬(ay 7 o.n).2=0 then pF o.n else o:=by
  unfold aN
  rw [if_neg (not_not_intro h.chk),if_neg (by omega),if_neg (by omega),if_pos k]
 rw [et,ep]
 unfold ox
 by_cases hn:(ay 7 o.n).2=0
 ·have f:=iU (.inr (.inr (.inr (.inr (.inl rfl))))) hn
  obtain ⟨f2,f4,f6⟩:=f.2.2.2.2.2.1 rfl
  have hs:rsvdF (ay 7 o.n).1 jY=some (ju 8 o.n):=by
   show rsvdF _ ((2,4)::(4,7)::(6,6)::(7,8)::_)=_
   rw [fD f2,fD f4,fD f6,kq (kO hn)]
  rw [if_pos hn,if_neg (not_not_intro hn),List.singleton_append,nl (wX f.1) f.2.1 (rX (by decide) hn),nE hs,sh]
 ·obtain ⟨n0,n1⟩:=h.named.2.2 (.inr (.inl k))
  rw [if_neg hn,if_pos hn,Bp n0 n1 hr]
theorem Li {o:OpV} (h:OpOk o) (k:o.kind=9) {r:List Tok}:operR (txT o++r)=.ok (aN o,r):=by
 obtain ⟨n0,n1⟩:=h.n (.inr (.inr (.inr (.inr k))))
 rw [k] at n1
 have hn:(ay 8 o.n).2=0:=by
  obtain ⟨j,hj⟩:=Int.eq_ofNat_of_zero_le n0
  have:jP 9=5:=rfl
  rw [hj]
  exact yz ⟨j,by omega⟩
 have f:=iU (.inr (.inr (.inr (.inr (.inr rfl))))) hn
 obtain ⟨f2,f4,f7⟩:=f.2.2.2.2.2.2 rfl
 have et:txT o=[aZ (ay 8 o.n).1]:=by
  unfold txT gX
  rw [if_neg (by omega),if_neg (by omega),if_neg (by omega),if_neg (by omega),if_neg (by omega),if_neg (by omega),if_neg (by omega),if_pos k,nh]
  unfold ox
  rw [if_pos hn]
 have ex:aT o=(ay 8 o.n).1:=by
  unfold aT dU
  rw [if_neg (by omega),if_neg (by omega),if_neg (by omega),if_neg (by omega),if_neg (by omega),if_neg (by omega),if_neg (by omega),if_pos k,if_pos hn]
 have sh:=wI h (.inr (.inr (.inr (.inr k))))
 rw [k] at sh
 have ep:aN o=if (ap 3 6 (ay 8 o.n).1).2=0 then ju 6 (ap 3 6 (ay 8 o.n).1).1 else o:=by
  unfold aN
  rw [if_neg (not_not_intro h.chk),if_neg (by omega),if_neg (by omega),if_neg (by omega),if_pos k,ex]
  rfl
 rw [et,ep,List.singleton_append,nl (wX f.1) f.2.1 (rX (by decide) hn)]
 by_cases h6:(ap 3 6 (ay 8 o.n).1).2=0
 ·have hs:rsvdF (ay 8 o.n).1 jY=some (ju 6 (ap 3 6 (ay 8 o.n).1).1):=by
   show rsvdF _ ((2,4)::(4,7)::(6,6)::_)=_
   rw [fD f2,fD f4,kq (n:=(ap 3 6 (ay 8 o.n).1).1) (by rw [← h6])]
  rw [if_pos h6,nE hs]
 ·have hs:rsvdF (ay 8 o.n).1 jY=some (ju 9 o.n):=by
   show rsvdF _ ((2,4)::(4,7)::(6,6)::(7,8)::(8,9)::_)=_
   rw [fD f2,fD f4,fD h6,fD f7,kq (kO hn)]
  rw [if_neg h6,nE hs,sh]
end
end Go.Proofs.YthcoegkfpinlfaaGreatDoor
