import Derived.Test.YtpjlafmhoifkmaaGreatN17
set_option linter.unusedVariables false
set_option linter.unusedSimpArgs false
set_option maxRecDepth 100000
set_option maxHeartbeats 8000000
namespace Go.Proofs.YtpjlafmhoifkmaaGreat
section
open Go.RowKit
def D9 (n:Nat):List AV:=[iv n]
def szI:Nat→Int
 | 0=>2
 | 1=>4
 | 2=>8
 | 3=>16
 | 4=>32
 | 5=>64
 | _=>128
def H9:List D→Option (Prop×List (List AV))
 | [.pd [.v (.int .i64 w)]]=>some (w=32∨w=64,(cJ w.toNat).map D9)
 | _=>none
def szT (l:Nat) (w:Int) (i:Nat):St:=⟨0,[(0,ip l),(1,.s (.l (.d (.pd [.v (.int .i64 w)])))),(3,iv (szI i))],[]⟩
theorem sI0:szI 0=2:=rfl
theorem sI1:szI 1=4:=rfl
theorem sI2:szI 2=8:=rfl
theorem sI3:szI 3=16:=rfl
theorem sI4:szI 4=32:=rfl
theorem sI5:szI 5=64:=rfl
theorem sI6:szI 6=128:=rfl
theorem sW2:IntKind.i64.wrap (2*2)=4:=by decide
theorem sW4:IntKind.i64.wrap (4*2)=8:=by decide
theorem sW8:IntKind.i64.wrap (8*2)=16:=by decide
theorem LI:IntKind.i64.wrap (16*2)=32:=by decide
theorem Li:IntKind.i64.wrap (32*2)=64:=by decide
theorem Ma:IntKind.i64.wrap (64*2)=128:=by decide
theorem t32:Int.toNat 32=32:=rfl
theorem t64:Int.toNat 64=64:=rfl
theorem HM:(cJ 32).length=5:=rfl
theorem H5:(cJ 64).length=6:=rfl
theorem ya (l:Nat) (w:Int) (h:w=32∨w=64):SWy Tryz.prog l ((cJ w.toNat).map D9) ⟨none,0⟩ Tryz.f169.ntmps (Tryz.f169.body.getD .skip) ⟨0,ag 0 [ip l,.s (.l (.d (.pd [.v (.int .i64 w)])))],[]⟩ (0,true) (itQ ((cJ w.toNat).map D9)):=by
 refine eX (ctx:=[]) 4000 ?_
 rw [Tryz.ntmps169]
 simp only [Tryz.f169,Option.getD_some,ag]
 simp only [go_sem,ip]
 rcases h with rfl | rfl
 ·refine oy (ι:=Nat) (fun i=>i≤5) (szT l 32) (fun i=>(i,true)) (fun i=>5-i) 0 (Nat.zero_le _) rfl (fun i _ b k hk=>by cases hk) (Wk.renL [] (by simp) (by simp) (by simp) rfl rfl) ?_
  intro i hi
  refine eX (ctx:=[]) 4000 ?_
  have:i=0∨i=1∨i=2∨i=3∨i=4∨i=5:=by omega
  rcases this with rfl | rfl | rfl | rfl | rfl | rfl
  all_goals simp only [go_sem,szT,sI0,sI1,sI2,sI3,sI4,sI5,sI6,sW2,sW4,sW8,LI,Li,Ma,ip,t32,t64,HM,H5,List.length_map]
  ·exact ⟨rfl,1,by decide,by decide,rfl,Wk.renL [] (by simp) (by simp) (by simp) rfl rfl⟩
  ·exact ⟨rfl,2,by decide,by decide,rfl,Wk.renL [] (by simp) (by simp) (by simp) rfl rfl⟩
  ·exact ⟨rfl,3,by decide,by decide,rfl,Wk.renL [] (by simp) (by simp) (by simp) rfl rfl⟩
  ·exact ⟨rfl,4,by decide,by decide,rfl,Wk.renL [] (by simp) (by simp) (by simp) rfl rfl⟩
  ·exact ⟨rfl,5,by decide,by decide,rfl,Wk.renL [] (by simp) (by simp) (by simp) rfl rfl⟩
 ·refine oy (ι:=Nat) (fun i=>i≤6) (szT l 64) (fun i=>(i,true)) (fun i=>6-i) 0 (Nat.zero_le _) rfl (fun i _ b k hk=>by cases hk) (Wk.renL [] (by simp) (by simp) (by simp) rfl rfl) ?_
  intro i hi
  refine eX (ctx:=[]) 4000 ?_
  have:i=0∨i=1∨i=2∨i=3∨i=4∨i=5∨i=6:=by omega
  rcases this with rfl | rfl | rfl | rfl | rfl | rfl | rfl
  all_goals simp only [go_sem,szT,sI0,sI1,sI2,sI3,sI4,sI5,sI6,sW2,sW4,sW8,LI,Li,Ma,ip,t32,t64,HM,H5,List.length_map]
  ·exact ⟨rfl,1,by decide,by decide,rfl,Wk.renL [] (by simp) (by simp) (by simp) rfl rfl⟩
  ·exact ⟨rfl,2,by decide,by decide,rfl,Wk.renL [] (by simp) (by simp) (by simp) rfl rfl⟩
  ·exact ⟨rfl,3,by decide,by decide,rfl,Wk.renL [] (by simp) (by simp) (by simp) rfl rfl⟩
  ·exact ⟨rfl,4,by decide,by decide,rfl,Wk.renL [] (by simp) (by simp) (by simp) rfl rfl⟩
  ·exact ⟨rfl,5,by decide,by decide,rfl,Wk.renL [] (by simp) (by simp) (by simp) rfl rfl⟩
  ·exact ⟨rfl,6,by decide,by decide,rfl,Wk.renL [] (by simp) (by simp) (by simp) rfl rfl⟩
noncomputable def w9:It Tryz.prog 169 :=
 Nj _ _ _ Tryz.func169 rfl rfl (fun _ _=>by go_simp) H9 (by
  intro ds q L hd hq l
  unfold H9 at hd
  split at hd
  case h_2=>cases hd
  rename_i k
  injection hd with hd
  injection hd with h1 hd
  subst h1
  subst hd
  exact ⟨by rw [Tryz.ntmps169];show 1+1≤14;decide,ya l k hq⟩)
theorem zZ {w:Int}:w9.dec [.pd [.v (.int .i64 w)]]=some (w=32∨w=64,(cJ w.toNat).map D9):=rfl
def sg:aQ Tryz.prog 151 :=
 mk1 _ _ _ Tryz.func151 rfl (fun _ _=>by go_simp) (ar .i64) ((fun _=>True)) ((fun w=>.ret (.fn 169 [] [.d (.pd [.v (.int .i64 w)])]))) (by rw [Tryz.ntmps151];decide) (fun w _=>by
 refine aa (ctx:=[]) 4000 ?_
 rw [Tryz.ntmps151,Tryz.results151]
 simp only [Tryz.f151,Option.getD_some,ag]
 simp only [go_sem])
theorem pY {id:Nat} {h:ah} {args:List AV}:(sg).run id h args=bm (av (ar .i64) ((fun _=>True))) ((fun w=>.ret (.fn 169 [] [.d (.pd [.v (.int .i64 w)])]))) h args:=rfl
theorem pS {id:Nat} {h:ah} {args:List AV}:(sg).pan id h args=bt (av (ar .i64) ((fun _=>True))) ((fun w=>.ret (.fn 169 [] [.d (.pd [.v (.int .i64 w)])]))) h args:=rfl
end
section
open Go.RowKit
theorem s6 {P:Program} {b:Frame} {a:Act} {k:List Item} {cs:List Frame} {w:World} {c:Code}:step P (lone (b.atR a (.code (.scope c)::k)) cs w)=.next (lone (b.atR a (.code c::.inScope c::k)) cs w) :=
 step_lone_go (by simp [stepG,stepG.exec,Frame.atR])
theorem pL {P:Program} {b:Frame} {a:Act} {k:List Item} {cs:List Frame} {w:World} {c:Code}:step P (lone (b.atR a (.inScope c::k)) cs w)=.next (lone (b.atR a k) cs w) :=
 step_lone_go (by simp [stepG,stepG.exec,Frame.atR])
def nU (Q:Exit→St→Prop):Exit→St→Prop
 | .goto _,_=>False
 | e,s=>Q e s
theorem BU {P:Program} {ro:Cf} {n:Nat} {c:Code} {s:St} {Q:Exit→St→Prop} (h:SW P ro n c s (nU Q)):SW P ro n (.scope c) s Q:=by
 intro B w0 ρ al a w hpl H b k cs hro hb hr
 obtain ⟨e,a₁,w₁,⟨ρ',al',s',H',q⟩,harr⟩:=h B w0 ρ al a w hpl H b (.inScope c::k) cs hro hb hr
 have h0:StepsIn (Machine.fenced P (Fw ro)) P (lone (b.atR a (.code (.scope c)::k)) cs w) (lone (b.atR a (.code c::.inScope c::k)) cs w):=dA s6
 cases e with
 | normal=>exact ⟨.normal,a₁,w₁,⟨ρ',al',s',H',q⟩,h0.trans (StepsIn.trans harr (dA pL))⟩
 | exit id =>
  have hx:exitTo id (.inScope c::k)=exitTo id k:=by simp [exitTo]
  exact ⟨.exit id,a₁,w₁,⟨ρ',al',s',H',q⟩,fun k' hk=>h0.trans (harr.1 k' (by rw [hx];exact hk)),
    fun hr' hk=>let ⟨k₁,h1,h2⟩:=harr.2 hr' (by rw [hx];exact hk);⟨k₁,h1,h0.trans h2⟩⟩
 | goto l=>exact q.elim
 | ret=>exact ⟨_,a₁,w₁,⟨ρ',al',s',H',q⟩,.of_steps h0 harr⟩
 | panic ch=>exact ⟨_,a₁,w₁,⟨ρ',al',s',H',q⟩,.of_steps h0 harr⟩
 | outgrown=>exact ⟨_,a₁,w₁,⟨ρ',al',s',H',q⟩,.of_steps h0 harr⟩
theorem D2 {Q:Exit→St→Prop} {s:St}:nU Q .normal s=Q .normal s:=rfl
theorem dG {Q:Exit→St→Prop} {s:St}:nU Q .ret s=Q .ret s:=rfl
theorem Fj {Q:Exit→St→Prop} {i:Nat} {s:St}:nU Q (.exit i) s=Q (.exit i) s:=rfl
def i8:Code→Code
 | .seq x y=>match i8 x with
  | .skip=>i8 y
  | z=>z
 | .block _ x=>i8 x
 | .scope x=>i8 x
 | .rangeFunc x ps as' bo=>.rangeFunc x ps as' bo
 | _=>.skip
def io (a b c:Int):Blk:=⟨true,91,3,[[.v (.int .i64 a),.v (.int .i64 b),.v (.int .i64 c)]]⟩
def iU (n:Int):Blk:=⟨true,28,1,[[.v (.int .i64 n)]]⟩
def nw (v:Nat):Blk:=⟨true,24,1,[[.v (.int .u64 (v:Int))]]⟩
def nA (v:Int):Blk:=⟨true,3,1,[[.v (.int .i64 v)]]⟩
def fdT (w:Nat):dg:=[(2,.s (.l (.p 0 0 0))),(3,.s (.l (.p 1 0 0))),(4,.s (.l (.p 2 0 0))),(5,.s (.l (.p 3 0 0))),(23,.s (.l (.d (.fn 169 [] [.pd [.v (.int .i64 (w:Int))]]))))]
def fdH (v w:Nat):ah:=[(0,some (nw v)),(1,some (nA w)),(2,some (io 0 0 0)),(3,some (iU 0))]
def fd1 (v w s:Nat) (x:Nat×Nat):St:=⟨4,[(6,iv s),(7,uv (dN s)),(8,uv (v &&& dN s)),(9,iv x.2),(2,.s (.l (.p 0 0 0))),(3,.s (.l (.p 1 0 0))),(4,.s (.l (.p 2 0 0))),(5,.s (.l (.p 3 0 0)))],fdH v w⟩
def fd2 (v w s o:Nat) (x:Nat×Nat):St:=⟨5,[(6,iv s),(10,.s (.l (.p 4 0 0))),(2,.s (.l (.p 0 0 0))),(3,.s (.l (.p 1 0 0))),(4,.s (.l (.p 2 0 0))),(5,.s (.l (.p 3 0 0)))],[(4,some (io s o x.2)),(0,some (nw v)),(1,some (nA w)),(2,some (io 0 0 0)),(3,some (iU 0))]⟩
def iK:Option (Nat×Nat×Nat)→AV
 | some (s,o,t)=>.tup [.agg [.v (.int .i64 (s:Int)),.v (.int .i64 (o:Int)),.v (.int .i64 (t:Int))],.l (.v (.int .i64 0))]
 | none=>.tup [.agg [.v (.int .i64 0),.v (.int .i64 0),.v (.int .i64 0)],.l (.v (.int .i64 20))]
theorem xc {p:Nat→Bool}:∀ {l:List Nat} {i s:Nat},(∀ j r,j<i→l[j]? = some r→p r=false)→l[i]? = some s→p s=true→l.find? p=some s
 | [],_,_,_,h,_=>by simp at h
 | a::l,0,s,_,h,hs=>by
  simp only [List.getElem?_cons_zero,Option.some.injEq] at h
  subst h
  simp [hs]
 | a::l,i+1,s,h0,h,hs=>by
  have ha:p a=false:=h0 0 a (Nat.succ_pos _) rfl
  rw [List.find?_cons,ha]
  exact xc (i:=i) (fun j r hj hr=>h0 (j+1) r (by omega) (by simpa using hr)) (by simpa using h) hs
theorem FC {p:Nat→Bool} {l:List Nat} (h:∀ j r,j<l.length→l[j]? = some r→p r=false):l.find? p=none:=by
 rw [List.find?_eq_none]
 intro x hx
 obtain ⟨j,hj,rfl⟩:=List.mem_iff_getElem.1 hx
 rw [h j l[j] hj (List.getElem?_eq_getElem hj)]
 simp
theorem mg {w s:Nat} (hw:w=32∨w=64) (h:s∈cJ w):2≤s∧s≤w:=by
 rcases hw with rfl | rfl<;>simp only [cJ,List.mem_cons,List.not_mem_nil,or_false] at h<;>omega
theorem Iw (b:Nat) (j:Nat) (hj:j<4):([0,1,2,3,b]:List Nat)[j]? = some j:=by
 have:j=0∨j=1∨j=2∨j=3:=by omega
 rcases this with rfl | rfl | rfl | rfl<;>rfl
theorem Eo (v w:Nat) (hv:v<18446744073709551616) (hw:w=32∨w=64):SW Tryz.prog ⟨none,0⟩ Tryz.f93.ntmps (Tryz.f93.body.getD .skip) ⟨0,ag 0 [tU.enc (v:Int),(ar .i64).enc (w:Int)],[]⟩ (aH Tryz.prog Tryz.f93.results.toList (.ret (iK (cN v w)))):=by
 refine aa (ctx:=[⟨_,rY⟩,⟨_,sg⟩]) 4000 ?_
 rw [Tryz.ntmps93,Tryz.results93]
 simp only [Tryz.f93,Option.getD_some,ag]
 have t:∀ n:Nat,Int.toNat (n:Int)=n:=fun _=>rfl
 have hwI:(w:Int)=32∨(w:Int)=64:=by omega
 have nf:¬(w=32∧4294967296≤v)→∀ (Q:Exit→St→Prop),(∀ nx h s o t',cN v w=some (s,o,t')→hget h 2=some (io s o t')→hget h 3=some (iU 0)→Q .ret ⟨nx,fdT w,h⟩) →
   (∀ nx h,cN v w=none→hget h 2=some (io 0 0 0)→hget h 3=some (iU 0)→Q (.exit 0) ⟨nx,fdT w,h⟩)→(cN v w=none→Q .normal ⟨4,fdT w,fdH v w⟩) →
   SW Tryz.prog ⟨none,0⟩ 70 (i8 (Tryz.f93.body.getD .skip)) ⟨4,fdT w,fdH v w⟩ Q:=by
  intro hnot Q hret hexit hdone
  have hlF:cN v w=match pt v w with
   | none=>none
   | some size=>(iQ v size (pop (v &&& dN size)) w 64 0).map fun t=>(size,pop (v &&& dN size),t):=by unfold cN;rw [if_neg hnot];rfl
  have hrr:∃ a b,i8 (Tryz.f93.body.getD .skip)=.rangeFunc (.tmp 23) #[24] a b:=⟨_,_,rfl⟩
  refine Da (K':=4) (by decide) (fun j hj=>?_) ?_
  ·have hj':j=0∨j=1∨j=2∨j=3:=by omega
   rcases hj' with rfl | rfl | rfl | rfl<;>exact ⟨_,rfl⟩
  refine By (ι:=Unit) (mv:=[(6,24)]) (t:=fdT w) (fun i _=>∀ (j r:Nat),j<i→(cJ w)[j]? = some r→sI v r w 64 r=false) (fun _=>fdH v w) (fun _=>4)
   (fun c s=>js s.h=true∧((c=.ret∧∃ a o t',cN v w=some (a,o,t')∧hget s.h 2=some (io a o t')∧hget s.h 3=some (iU 0))∨(c=.exit 0∧cN v w=none∧hget s.h 2=some (io 0 0 0)∧hget s.h 3=some (iU 0))))
   w9 zZ hwI rfl rfl (by decide) (by decide) (fun As hA=>?_) (xk rfl) (fun i x _=>iS rfl) (fun c s h=>iS h.1) () (fun j r hj=>absurd hj (Nat.not_lt_zero j)) (fun l i x As hinv hA=>?_) (fun x hinv=>?_) (fun c s h=>?_)
  ·obtain ⟨r,_,rfl⟩:=List.mem_map.1 hA
   rfl
  ·rw [List.getElem?_map,Option.map_eq_some_iff] at hA
   obtain ⟨s,hs,rfl⟩:=hA
   rw [t] at hs
   obtain ⟨s2,sw⟩:=mg hw (List.mem_of_getElem? hs)
   have s64:s≤64:=by omega
   refine aa (ctx:=[⟨_,FP⟩]) 4000 ?_
   have m1:IntKind.i64.wrap (64-(s:Int))=((64-s:Nat):Int):=by rw [IntKind.wrap_i64];omega
   have m0:(0:Int)≤((64-s:Nat):Int):=Int.natCast_nonneg _
   have m2:Int.fdiv 18446744073709551615 (2 ^ min (64-s) 64)=((dN s:Nat):Int):=sA 18446744073709551615 (64-s) (by omega)
   have hM:dN s<18446744073709551616:=Nat.lt_of_le_of_lt (Nat.div_le_self _ _) (by decide)
   have m3:=li v (dN s) hv hM
   simp only [go_sem,p7,jn,D9,fdT,fdH,nw,nA,io,iU,List.zip_cons_cons,List.zip_nil_left,List.foldl_cons,List.foldl_nil,m0,m1,m2,m3,t]
   refine cM (ι:=Nat×Nat) (fun x=>sI v s w x.1 x.2=sI v s w 64 s∧x.1≤64∧2*(64-x.1)≤x.2∧x.2≤200) (fd1 v w s) (fun x=>200-x.2) (64,s) ⟨rfl,Nat.le_refl 64,by simp only;omega,by simp only;omega⟩ (Wk.renL [0,1,2,3] (Ey 4) (Nat.le_refl 4) (by decide) rfl rfl) ?_
   rintro ⟨f,at_⟩ ⟨i1,i2,i3,i4⟩
   simp only at i1 i2 i3 i4
   refine aa (ctx:=[⟨_,FP⟩]) 4000 ?_
   have h0:(0:Int)≤(at_:Int):=Int.natCast_nonneg _
   by_cases hlt:at_<w
   ·obtain ⟨f',rfl⟩:∃ f',f=f'+1:=⟨f-1,by omega⟩
    rw [sI,if_pos hlt] at i1
    have hltI:(at_:Int)<w:=by omega
    have q1:=sA v at_ (by omega)
    have q2:=li (v / 2 ^ at_) (dN s) (Nat.lt_of_le_of_lt (Nat.div_le_self _ _) hv) hM
    have q3:IntKind.i64.wrap ((at_:Int)+s)=((at_+s:Nat):Int):=by rw [IntKind.wrap_i64];omega
    by_cases hq:(v / 2 ^ at_ &&& dN s)=(v &&& dN s)
    ·have hb:(((v / 2 ^ at_ &&& dN s:Nat):Int) !=((v &&& dN s:Nat):Int))=false:=by rw [hq];simp
     have hb2:((v / 2 ^ at_ &&& dN s)==(v &&& dN s))=true:=by rw [hq];simp
     rw [hb2,Bool.true_and] at i1
     simp only [go_sem,fd1,fdH,nw,nA,io,iU,hltI,q1,q2,q3,t,hb,h0]
     exact ⟨(f',at_+s),⟨i1,by simp only;omega,by simp only;omega,by simp only;omega⟩,by simp only;omega,Wk.renL [0,1,2,3] (Ey 4) (Nat.le_refl 4) (by decide) rfl rfl⟩
    ·have hb:(((v / 2 ^ at_ &&& dN s:Nat):Int) !=((v &&& dN s:Nat):Int))=true:=by
      simp only [bne_iff_ne,ne_eq]
      exact fun h=>hq (Int.ofNat.inj h)
     have hb2:((v / 2 ^ at_ &&& dN s)==(v &&& dN s))=false:=by simpa using hq
     rw [hb2,Bool.false_and] at i1
     simp only [go_sem,fd1,fdH,nw,nA,io,iU,hltI,q1,q2,q3,t,hb,h0]
     refine ⟨fun j r hj hr=>?_,Wk.renL [0,1,2,3] (Ey 4) (Nat.le_refl 4) (by decide) rfl rfl⟩
     by_cases e:j=i
     ·subst e
      rw [hs] at hr
      injection hr with hr
      rw [← hr]
      exact i1.symm
     ·exact hinv j r (by omega) hr
   ·have hltI:¬(at_:Int)<w:=by omega
    have hper:sI v s w 64 s=true:=by
     rw [← i1]
     cases f
     ·rfl
     ·rw [sI,if_neg hlt]
    have hfirst:pt v w=some s:=xc hinv hs hper
    have he:(v &&& dN s)<18446744073709551616:=Nat.lt_of_le_of_lt Nat.and_le_left hv
    have heI:(0:Int)≤((v &&& dN s:Nat):Int)∧((v &&& dN s:Nat):Int)<18446744073709551616:=by omega
    obtain ⟨o,ho⟩:∃ o,pop (v &&& dN s)=o:=⟨_,rfl⟩
    have hlF':cN v w=(iQ v s o w 64 0).map fun t=>(s,o,t):=by rw [hlF,hfirst];simp only [ho]
    simp only [go_sem,fd1,fdH,nw,nA,io,iU,hltI,E3,Em,tU,heI,t,ho]
    refine cM (ι:=Nat×Nat) (fun x=>iQ v s o w x.1 x.2=iQ v s o w 64 0∧x.1+x.2=64) (fd2 v w s o) (fun x=>64-x.2) (64,0) ⟨rfl,rfl⟩ (Wk.renL [0,1,2,3,116] (Iw _) (Nat.le_refl 5) (by decide) rfl rfl) ?_
    rintro ⟨f2,tu⟩ ⟨j1,j2⟩
    simp only at j1 j2
    refine aa (ctx:=[]) 4000 ?_
    have u0:(0:Int)≤(tu:Int):=Int.natCast_nonneg _
    by_cases hlt2:tu<s
    ·obtain ⟨f',rfl⟩:∃ f',f2=f'+1:=⟨f2-1,by omega⟩
     rw [iQ,if_pos hlt2] at j1
     have hltI2:(tu:Int)<s:=by omega
     have u3:IntKind.i64.wrap ((tu:Int)+1)=((tu+1:Nat):Int):=by rw [IntKind.wrap_i64];omega
     have swI:(s:Int)≤w:=by omega
     have s2I:(2:Int)≤s:=by omega
     by_cases hm:1≤o∧o<s
     ·have hmay:sq ⟨s,o,tu⟩ w=true:=by
       unfold sq
       simp only [decide_eq_true_eq]
       omega
      have hvq:DL ⟨s,o,tu⟩ w:=by
       unfold DL
       simp only
       omega
      by_cases heq:kO s o tu w=v
      ·rw [if_pos ⟨hm,heq⟩] at j1
       have hF:cN v w=some (s,o,tu):=by rw [hlF',← j1];rfl
       have hbq:(((kO s o tu w:Nat):Int)==(v:Int))=true:=by rw [heq];simp
       simp only [go_sem,fd2,nw,nA,io,iU,hltI2]
       refine aI (ctx:=[⟨_,A5⟩,⟨_,pm⟩]) ax [] (by kernel_rfl) ?_
       simp only [go_sem,eN,qV,ri,pV,ql,hmay,hvq,t,hbq]
       exact .inl ⟨s,o,tu,hF,rfl⟩
      ·rw [if_neg (fun h=>heq h.2)] at j1
       have hbq:(((kO s o tu w:Nat):Int)==(v:Int))=false:=by
        simp only [beq_eq_false_iff_ne,ne_eq]
        exact fun h=>heq (Int.ofNat.inj h)
       simp only [go_sem,fd2,nw,nA,io,iU,hltI2]
       refine aI (ctx:=[⟨_,A5⟩,⟨_,pm⟩]) ax [] (by kernel_rfl) ?_
       simp only [go_sem,eN,qV,ri,pV,ql,hmay,hvq,t,hbq,u3]
       exact ⟨(f',tu+1),⟨j1,by simp only;omega⟩,by simp only;omega,Wk.renL [0,1,2,3,4] (Iw _) (Nat.le_refl 5) (by decide) rfl rfl⟩
     ·rw [if_neg (fun h=>hm h.1)] at j1
      have hmay:sq ⟨s,o,tu⟩ w=false:=by
       unfold sq
       simp only [decide_eq_false_iff_not]
       omega
      simp only [go_sem,fd2,nw,nA,io,iU,hltI2]
      refine aI (ctx:=[⟨_,A5⟩,⟨_,pm⟩]) ax [] (by kernel_rfl) ?_
      simp only [go_sem,eN,qV,ri,hmay,t,u3]
      exact ⟨(f',tu+1),⟨j1,by simp only;omega⟩,by simp only;omega,Wk.renL [0,1,2,3,4] (Iw _) (Nat.le_refl 5) (by decide) rfl rfl⟩
    ·have hltI2:¬(tu:Int)<s:=by omega
     have hT:iQ v s o w 64 0=none:=by
      rw [← j1]
      cases f2
      ·rfl
      ·rw [iQ,if_neg hlt2]
     have hF:cN v w=none:=by rw [hlF',hT];rfl
     simp only [go_sem,fd2,nw,nA,io,iU,hltI2]
     exact .inr hF
  ·have hn:cN v w=none:=by
    rw [hlF,show pt v w=none from FC fun j r hj hr=>hinv j r (by rw [List.length_map,t];exact hj) hr]
   exact hdone hn
  ·obtain ⟨nx,t0,h0⟩:=s
   obtain ⟨h1,h2⟩:=h
   rcases h2 with ⟨rfl,a,o,t',g1,g2,g3⟩ | ⟨rfl,g1,g2,g3⟩
   ·exact Ez (hret nx h0 a o t' g1 g2 g3)
   ·exact B2 (hexit nx h0 g1 g2 g3)
 simp only [go_sem,tU]
 refine BU ?_
 refine aa (ctx:=[⟨_,rY⟩,⟨_,sg⟩]) 4000 ?_
 have hwk:∀ {nx t h},Wk ⟨none,0⟩ ⟨nx,(23,.s (.l (.d (.fn 169 [] [.pd [.v (.int .i64 (w:Int))]]))))::t,h⟩ ⟨4,fdT w,fdH v w⟩→cR t 23=.fn 169 [] [.d (.pd [.v (.int .i64 (w:Int))])]→Wk ⟨none,0⟩ ⟨nx,t,h⟩ ⟨4,fdT w,fdH v w⟩:=fun h1 h2=>(Wk.fnD (s:=⟨_,_,_⟩) 23 h2 rfl rfl).trans h1
 have hwd:decide ((w:Int)=32∨(w:Int)=64)=true:=decide_eq_true hwI
 by_cases hbig:w=32∧4294967296≤v
 ·obtain ⟨rfl,hbig⟩:=hbig
  have hI:(4294967296:Int)≤v:=by omega
  have hF:cN v 32=none:=by unfold cN;rw [if_pos ⟨rfl,hbig⟩]
  simp only [go_sem,dG,ma,mH,hwd,hI,hF,iK]
 ·have hb:((w:Int)==32)=false∨((w:Int)==32)=true∧¬(4294967296:Int)≤v:=by
   rcases hw with rfl | rfl
   ·exact .inr ⟨rfl,by omega⟩
   ·exact .inl rfl
  rcases hb with hb | ⟨hb,hb2⟩
  ·simp only [go_sem,dG,ma,mH,hwd,hb,pY,pS]
   refine SW.wk (nf hbig _ (fun nx h s o t' hF g2 g3=>?_) (fun nx h hF g2 g3=>?_) (fun hF=>?_)) (hwk (Wk.renL [0,16,32,48] (by simp) (Nat.le_refl 4) (by decide) rfl rfl) rfl)
   ·simp only [go_sem,dG,fdT,g2,g3,hF,iK,io,iU]
   ·simp only [go_sem,dG,fdT,g2,g3,hF,iK,io,iU]
   ·simp only [go_sem,dG,fdT,fdH,nw,nA,hF,iK,io,iU]
  ·simp only [go_sem,dG,ma,mH,hwd,hb,hb2,pY,pS]
   refine SW.wk (nf hbig _ (fun nx h s o t' hF g2 g3=>?_) (fun nx h hF g2 g3=>?_) (fun hF=>?_)) (hwk (Wk.renL [0,16,32,48] (by simp) (Nat.le_refl 4) (by decide) rfl rfl) rfl)
   ·simp only [go_sem,dG,fdT,g2,g3,hF,iK,io,iU]
   ·simp only [go_sem,dG,fdT,g2,g3,hF,iK,io,iU]
   ·simp only [go_sem,dG,fdT,fdH,nw,nA,hF,iK,io,iU]
end
end Go.Proofs.YtpjlafmhoifkmaaGreat
