import Derived.Test.YtpjlafmhoifkmaaGreatN20
import Derived.Test.YtpjlafmhoifkmaaGreatN18
import Derived.Test.YtpjlafmhoifkmaaGreatN19
set_option linter.unusedVariables false
set_option linter.unusedSimpArgs false
set_option maxRecDepth 100000
set_option maxHeartbeats 8000000
namespace Go.Proofs.YtpjlafmhoifkmaaGreat
section
open Go.RowKit
abbrev mM:Ty (List Lim):=tSl 3 jv
def gW (x:Ins):AV:=.s (.agg (aw x))
def eT (x:Ins):Blk:=⟨true,27,10,[aw x]⟩
def fq (f:Int):Prop:=f=1∨f=2∨f=3∨f=4∨f=5∨f=6∨f=7∨f=8∨f=9
def ur:aQ Tryz.prog 158 :=
 mk1 _ _ _ Tryz.func158 rfl (fun _ _=>by go_simp) (ez) ((fun _=>True)) ((fun q=>.ret (iv (an q)))) (by rw [Tryz.ntmps158];decide) (fun q _=>by
 refine aa (ctx:=[]) 4000 ?_
 rw [Tryz.ntmps158,Tryz.results158]
 simp only [Tryz.f158,Option.getD_some,ag]
 cases q<;>simp only [go_sem,an])
theorem zt {id:Nat} {h:ah} {args:List AV}:(ur).run id h args=bm (av (ez) ((fun _=>True))) ((fun q=>.ret (iv (an q)))) h args:=rfl
theorem yv {id:Nat} {h:ah} {args:List AV}:(ur).pan id h args=bt (av (ez) ((fun _=>True))) ((fun q=>.ret (iv (an q)))) h args:=rfl
theorem sub1:IntKind.i64.wrap (1-1)=0:=by decide
theorem sub2:IntKind.i64.wrap (2-1)=1:=by decide
theorem sub3:IntKind.i64.wrap (3-1)=2:=by decide
theorem sub4:IntKind.i64.wrap (4-1)=3:=by decide
theorem sub5:IntKind.i64.wrap (5-1)=4:=by decide
theorem sub6:IntKind.i64.wrap (6-1)=5:=by decide
theorem sub7:IntKind.i64.wrap (7-1)=6:=by decide
theorem sub8:IntKind.i64.wrap (8-1)=7:=by decide
theorem sub9:IntKind.i64.wrap (9-1)=8:=by decide
theorem Hz (x:Ins):cO x 1=an x.x:=rfl
theorem Ie (x:Ins):cO x 2=an x.s:=rfl
theorem HT (x:Ins):cO x 3=x.rd:=rfl
theorem HV (x:Ins):cO x 4=x.rn:=rfl
theorem Hn (x:Ins):cO x 5=x.rm:=rfl
theorem Hs (x:Ins):cO x 6=x.ra:=rfl
theorem HZ (x:Ins):cO x 7=x.a:=rfl
theorem Ih (x:Ins):cO x 8=x.b:=rfl
theorem HN (x:Ins):cO x 9=x.c:=rfl
theorem HO (x:Ins) (v:Int):jL x 1 v={ x with x:=decide (v=1) }:=rfl
theorem HA (x:Ins) (v:Int):jL x 2 v={ x with s:=decide (v=1) }:=rfl
theorem H7 (x:Ins) (v:Int):jL x 3 v={ x with rd:=v }:=rfl
theorem Hy (x:Ins) (v:Int):jL x 4 v={ x with rn:=v }:=rfl
theorem Ib (x:Ins) (v:Int):jL x 5 v={ x with rm:=v }:=rfl
theorem HE (x:Ins) (v:Int):jL x 6 v={ x with ra:=v }:=rfl
theorem HL (x:Ins) (v:Int):jL x 7 v={ x with a:=v }:=rfl
theorem Ij (x:Ins) (v:Int):jL x 8 v={ x with b:=v }:=rfl
theorem If (x:Ins) (v:Int):jL x 9 v={ x with c:=v }:=rfl
def ki (n:Int):AV:=.tup [.l (.v (.int .i64 n)),.l (.v (.int .i64 0))]
def Ha:aQ Tryz.prog 96 :=
 mk2 _ _ _ Tryz.func96 rfl (fun _ _=>by go_simp) (am ae) (ar .i64) ((fun _ f=>fq f)) ((fun x f=>.ret (ki (cO x f)))) (by rw [Tryz.ntmps96];decide) (fun x f h=>by
 refine aa (ctx:=[]) 4000 ?_
 rw [Tryz.ntmps96,Tryz.results96]
 simp only [Tryz.f96,Option.getD_some,ag]
 simp only [go_sem,ae]
 refine aI (ctx:=[⟨_,ur⟩]) ax [20] (by kernel_rfl) ?_
 rcases h with rfl | rfl | rfl | rfl | rfl | rfl | rfl | rfl | rfl
 all_goals simp only [go_sem,zt,yv,ki,sub1,sub2,sub3,sub4,sub5,sub6,sub7,sub8,sub9,Hz,Ie,HT,HV,Hn,Hs,HZ,Ih,HN])
theorem nP {id:Nat} {h:ah} {args:List AV}:(Ha).run id h args=bm (cq (am ae) (ar .i64) ((fun _ f=>fq f))) (fun x=>((fun x f=>.ret (ki (cO x f)))) x.1 x.2) h args:=rfl
theorem nF {id:Nat} {h:ah} {args:List AV}:(Ha).pan id h args=bt (cq (am ae) (ar .i64) ((fun _ f=>fq f))) (fun x=>((fun x f=>.ret (ki (cO x f)))) x.1 x.2) h args:=rfl
theorem Nu (v:Int):(v==1)=decide (v=1):=by by_cases h:v=1<;>simp [h]
def JC:aQ Tryz.prog 160 :=
 mk3 _ _ _ Tryz.func160 rfl (fun _ _=>by go_simp) (am ae) (ar .i64) (ar .i64) ((fun _ f _=>fq f)) ((fun x f v=>.ret (gW (jL x f v)))) (by rw [Tryz.ntmps160];decide) (fun x f v h=>by
 refine aa (ctx:=[]) 4000 ?_
 rw [Tryz.ntmps160,Tryz.results160]
 simp only [Tryz.f160,Option.getD_some,ag]
 rcases h with rfl | rfl | rfl | rfl | rfl | rfl | rfl | rfl | rfl
 all_goals simp only [go_sem,ae,gW,aw,Nu,HO,HA,H7,Hy,Ib,HE,HL,Ij,If])
theorem E5 {id:Nat} {h:ah} {args:List AV}:(JC).run id h args=bm (gp (am ae) (ar .i64) (ar .i64) ((fun _ f _=>fq f))) (fun x=>((fun x f v=>.ret (gW (jL x f v)))) x.1 x.2.1 x.2.2) h args:=rfl
theorem GG {id:Nat} {h:ah} {args:List AV}:(JC).pan id h args=bt (gp (am ae) (ar .i64) (ar .i64) ((fun _ f _=>fq f))) (fun x=>((fun x f v=>.ret (gW (jL x f v)))) x.1 x.2.1 x.2.2) h args:=rfl
def C5 (f:Lim):List AV:=[cD f]
def gP (l:List Lim):D:=.sd 3 (l.map jv.enc)
def nT:List D→Option (Prop×List (List AV))
 | [.pd [.sd 3 els]]=>match eQ jv.dec els with
  | some ts=>some (ts.length≤1000,ts.map C5)
  | none=>none
 | _=>none
theorem CS (l:Nat) (ts:List Lim) (hz:ts.length≤1000):SWy Tryz.prog l (ts.map C5) ⟨none,0⟩ Tryz.f192.ntmps (Tryz.f192.body.getD .skip) ⟨0,ag 0 [ip l,.s (.l (.d (.pd [gP ts])))],[]⟩ (0,true) (itQ (ts.map C5)):=by
 refine eX (ctx:=[]) 4000 ?_
 rw [Tryz.ntmps192]
 simp only [Tryz.f192,Option.getD_some,ag]
 simp only [go_sem,ip,gP]
 refine oy (ι:=Nat) (fun i=>i≤ts.length) (fun i=>⟨0,[(0,ip l),(5,mM.enc ts),(6,iv ts.length),(7,iv i)],[]⟩) (fun i=>(i,true)) (fun i=>ts.length-i) 0 (Nat.zero_le _) rfl (fun i _ b k hk=>by cases hk) (Wk.renL [] (by simp) (by simp) (by simp) rfl rfl) ?_
 intro i hi
 refine eX (ctx:=[]) 4000 ?_
 rcases Nat.lt_or_ge i ts.length with hlt | hge
 ·have hltI:(i:Int)<ts.length:=by omega
  obtain ⟨t,ht⟩:∃ t,ts[i]? = some t:=⟨_,List.getElem?_eq_getElem hlt⟩
  have ei:IntKind.i64.wrap ((i:Int)+1)=((i+1:Nat):Int):=by rw [IntKind.wrap_i64];omega
  simp only [go_sem,ip,hltI,ht,jv,ei]
  exact ⟨rfl,i+1,by omega,by omega,rfl,Wk.renL [] (by simp) (by simp) (by simp) rfl rfl⟩
 ·obtain rfl:i=ts.length:=by omega
  have hI:¬(ts.length:Int)<ts.length:=by omega
  simp only [go_sem,ip,hI]
noncomputable def vF:It Tryz.prog 192 :=
 Nj _ _ _ Tryz.func192 rfl rfl (fun _ _=>by go_simp) nT (by
  intro ds q L hd hq l
  unfold nT at hd
  split at hd
  case h_2=>cases hd
  rename_i els
  split at hd
  case h_2=>cases hd
  rename_i ts hts
  injection hd with hd
  injection hd with h1 hd
  subst h1
  subst hd
  have he:=hH jv hts
  subst he
  exact ⟨by rw [Tryz.ntmps192];show 1+1≤16;decide,CS l ts hq⟩)
theorem Dw {ts:List Lim}:vF.dec [.pd [gP ts]]=some (ts.length≤1000,ts.map C5):=by
 have e:vF.dec=nT:=rfl
 rw [e]
 unfold nT gP
 simp only [jX]
def C9:aQ Tryz.prog 181 :=
 mk1 _ _ _ Tryz.func181 rfl (fun _ _=>by go_simp) (mM) ((fun _=>True)) ((fun l=>.ret (.fn 192 [] [.d (.pd [gP l])]))) (by rw [Tryz.ntmps181];decide) (fun l _=>by
 refine aa (ctx:=[]) 4000 ?_
 rw [Tryz.ntmps181,Tryz.results181]
 simp only [Tryz.f181,Option.getD_some,ag]
 simp only [go_sem,gP])
theorem D8 {id:Nat} {h:ah} {args:List AV}:(C9).run id h args=bm (av (mM) ((fun _=>True))) ((fun l=>.ret (.fn 192 [] [.d (.pd [gP l])]))) h args:=rfl
theorem CT {id:Nat} {h:ah} {args:List AV}:(C9).pan id h args=bt (av (mM) ((fun _=>True))) ((fun l=>.ret (.fn 192 [] [.d (.pd [gP l])]))) h args:=rfl
def pk:aQ Tryz.prog 159 :=
 mk1 _ _ _ Tryz.func159 rfl (fun _ _=>by go_simp) (ar .i64) (opQ) ((fun op=>.ret (.fn 192 [] [.d (.pd [gP (ac op)])]))) (by rw [Tryz.ntmps159];decide) (fun op h=>by
 refine aa (ctx:=[⟨_,lj⟩,⟨_,C9⟩]) 4000 ?_
 rw [Tryz.ntmps159,Tryz.results159]
 simp only [Tryz.f159,Option.getD_some,ag]
 have e:bV op=bq (ac op):=by unfold bV;exact if_pos h
 simp only [go_sem,k6,kG,e,bq,D8,CT,gP])
theorem tP {id:Nat} {h:ah} {args:List AV}:(pk).run id h args=bm (av (ar .i64) (opQ)) ((fun op=>.ret (.fn 192 [] [.d (.pd [gP (ac op)])]))) h args:=rfl
theorem tQ {id:Nat} {h:ah} {args:List AV}:(pk).pan id h args=bt (av (ar .i64) (opQ)) ((fun op=>.ret (.fn 192 [] [.d (.pd [gP (ac op)])]))) h args:=rfl
end
section
open Go.RowKit
theorem op_cases {op:Int} (h:opQ op):op=1∨op=2∨op=3∨op=4∨op=5∨op=6∨op=7∨op=8∨op=9∨op=10∨op=11∨op=12∨op=13∨op=14∨op=15∨op=16∨op=17∨op=18∨op=19∨op=20∨op=21∨op=22∨op=23∨op=24∨op=25∨op=26∨op=27∨op=28∨op=29∨op=30∨op=31∨op=32:=by
 unfold opQ at h
 omega
theorem nK {op:Int} (h:opQ op):∀ f∈ac op,fq f.1:=by
 rcases op_cases h with rfl | rfl | rfl | rfl | rfl | rfl | rfl | rfl | rfl | rfl | rfl | rfl | rfl | rfl | rfl | rfl | rfl | rfl | rfl | rfl | rfl | rfl | rfl | rfl | rfl | rfl | rfl | rfl | rfl | rfl | rfl | rfl<;>(unfold fq;decide)
theorem lI {op:Int} (h:opQ op):(ac op).length≤10∧(ac op).isEmpty=false:=by
 rcases op_cases h with rfl | rfl | rfl | rfl | rfl | rfl | rfl | rfl | rfl | rfl | rfl | rfl | rfl | rfl | rfl | rfl | rfl | rfl | rfl | rfl | rfl | rfl | rfl | rfl | rfl | rfl | rfl | rfl | rfl | rfl | rfl | rfl<;>decide
theorem sj {op:Int} (h:¬opQ op):ac op=[]:=by
 unfold opQ at h
 unfold ac
 split
 ·obtain ⟨n,rfl⟩:=Int.eq_ofNat_of_zero_le (show 0≤op by omega)
  have hn:33≤n:=by omega
  obtain ⟨k,rfl⟩:∃ k,n=k+33:=⟨n-33,by omega⟩
  rfl
 ·rfl
def CC:List AV→List LV
 | [A]=>(cellsOf A).getD []
 | _=>[]
def cnT (op:Int):dg:=[(1,.s (.l (.p 0 0 0))),(2,.s (.l (.p 1 0 0))),(3,.s (.l (.p 2 0 0))),(12,.s (.l (.d (.fn 192 [] [.pd [gP (ac op)]]))))]
def cnH (x o:Ins):ah:=[(0,some (eT x)),(1,some (eT (bW 0))),(2,some (eT o))]
def cnE (x:Ins) (o:Ins) (As:List AV):St:=⟨4,(4,.s (.l (.p 3 0 0)))::jn ([13].zip As) (cnT x.op),(3,some ⟨true,75,3,[CC As]⟩)::cnH x o⟩
theorem nb {x:Ins} {l:List Lim} {i:Nat} {f:Lim} (h:l[i]? = some f) (o:Ins):jh x (l.take (i+1)) o=jL (jh x (l.take i) o) f.1 (cO x f.1):=by
 rw [List.take_add_one,h]
 simp [jh]
theorem Cx (x:Ins) (h:opQ x.op):SW Tryz.prog ⟨none,0⟩ Tryz.f97.ntmps (Tryz.f97.body.getD .skip) ⟨0,ag 0 [(am ae).enc x],[]⟩ (aH Tryz.prog Tryz.f97.results.toList (.ret (gW (bN x)))):=by
 refine aa (ctx:=[⟨_,pk⟩]) 4000 ?_
 rw [Tryz.ntmps97,Tryz.results97]
 simp only [Tryz.f97,Option.getD_some,ag]
 have nf:∀ (Q:Exit→St→Prop),Q .normal ⟨3,cnT x.op,cnH x (bN x)⟩→SW Tryz.prog ⟨none,0⟩ 27 (i8 (Tryz.f97.body.getD .skip)) ⟨3,cnT x.op,cnH x (bW x.op)⟩ Q:=by
  intro Q hdone
  refine Da (K':=3) (by decide) (fun j hj=>?_) ?_
  ·have hj':j=0∨j=1∨j=2:=by omega
   rcases hj' with rfl | rfl | rfl<;>exact ⟨_,rfl⟩
  refine qj (ι:=Ins) (t:=cnT x.op) (cnE x) (fun i o=>o=jh x ((ac x.op).take i) (bW x.op)) (cnH x) (fun _=>3) (fun _ _=>False) vF Dw (Nat.le_trans (lI h).1 (by decide)) rfl (fun o As hA=>?_) (by decide) (fun As hA=>?_) (xk rfl) (fun i o _=>iS rfl) (fun c s h=>h.elim) (bW x.op) rfl (fun l i o As hinv hA=>?_) (fun o hinv=>?_) (fun c s h=>h.elim)
  ·obtain ⟨r,_,rfl⟩:=List.mem_map.1 hA
   exact Fy (T:=75) (tb:=4) (tp:=13) rfl (by decide) (xs:=dx r) rfl wR Il rfl
  ·obtain ⟨r,_,rfl⟩:=List.mem_map.1 hA
   rfl
  ·rw [List.getElem?_map,Option.map_eq_some_iff] at hA
   obtain ⟨f,hf,rfl⟩:=hA
   have hfq:=nK h f (List.mem_of_getElem? hf)
   have hnx:=nb (x:=x) hf (bW x.op)
   rw [← hinv] at hnx
   refine aa (ctx:=[⟨_,Ha⟩,⟨_,JC⟩]) 4000 ?_
   simp only [go_sem,cnE,cnT,cnH,eT,aw,C5,cD,dx,CC,jn,List.zip_cons_cons,List.zip_nil_left,List.foldl_cons,List.foldl_nil,ae,nP,nF,ki,E5,GG,hfq,gW]
   rw [hnx]
   exact Wk.renL [0,1,2] (Ey 3) (Nat.le_refl 3) (by decide) rfl rfl
  ·rw [List.length_map] at hinv
   rw [hinv,List.take_length]
   exact hdone
 have hwk:∀ {nx t h},Wk ⟨none,0⟩ ⟨nx,(12,.s (.l (.d (.fn 192 [] [.pd [gP (ac x.op)]]))))::t,h⟩ ⟨3,cnT x.op,cnH x (bW x.op)⟩→cR t 12=.fn 192 [] [.d (.pd [gP (ac x.op)])]→Wk ⟨none,0⟩ ⟨nx,t,h⟩ ⟨3,cnT x.op,cnH x (bW x.op)⟩:=fun h1 h2=>(Wk.fnD (s:=⟨_,_,_⟩) 12 h2 rfl rfl).trans h1
 simp only [go_sem,ae,tP,tQ,h]
 refine SW.wk (nf _ ?_) (hwk (Wk.renL [0,16,80] (by simp) (Nat.le_refl 3) (by decide) rfl rfl) rfl)
 simp only [go_sem,cnT,cnH,eT,gW,aw]
def u4:aQ Tryz.prog 97 :=
 mk1 _ _ _ Tryz.func97 rfl (fun _ _=>by go_simp) (am ae) ((fun x=>opQ x.op)) ((fun x=>.ret (gW (bN x)))) (by rw [Tryz.ntmps97];decide) (fun x h=>Cx x h)
theorem Ah {id:Nat} {h:ah} {args:List AV}:(u4).run id h args=bm (av (am ae) ((fun x=>opQ x.op))) ((fun x=>.ret (gW (bN x)))) h args:=rfl
theorem zH {id:Nat} {h:ah} {args:List AV}:(u4).pan id h args=bt (av (am ae) ((fun x=>opQ x.op))) ((fun x=>.ret (gW (bN x)))) h args:=rfl
theorem xm (y x:Ins):decide (y=x)=(decide (y.op=x.op)&&(decide (y.x=x.x)&&(decide (y.s=x.s)&&(decide (y.rd=x.rd)&&(decide (y.rn=x.rn)&&(decide (y.rm=x.rm)&&(decide (y.ra=x.ra)&&(decide (y.a=x.a)&&(decide (y.b=x.b)&&decide (y.c=x.c)))))))))):=by
 obtain ⟨a1,a2,a3,a4,a5,a6,a7,a8,a9,a10⟩:=y
 obtain ⟨b1,b2,b3,b4,b5,b6,b7,b8,b9,b10⟩:=x
 rw [Bool.eq_iff_iff]
 simp only [Ins.mk.injEq,Bool.and_eq_true,decide_eq_true_eq]
theorem oC:sP Tryz.prog 27=some [1,2,2,1,1,1,1,1,1,1]:=by kernel_rfl
def wiI (x:Ins) (l:List Lim) (i:Nat):St:=⟨1,[(1,.s (.l (.p 0 0 0))),(3,mM.enc l),(11,mM.enc l),(12,iv l.length),(13,iv i)],[(0,some (eT x))]⟩
theorem uM (x:Ins) (h:opQ x.op):SW Tryz.prog ⟨none,0⟩ Tryz.f42.ntmps (Tryz.f42.body.getD .skip) ⟨0,ag 0 [(am ae).enc x],[]⟩ (aH Tryz.prog Tryz.f42.results.toList (.ret (bv (aP x)))):=by
 refine aa (ctx:=[⟨_,lj⟩]) 4000 ?_
 rw [Tryz.ntmps42,Tryz.results42]
 simp only [Tryz.f42,Option.getD_some,ag]
 have hlen:=lI h
 have hfq:=nK h
 have hlo:bV x.op=bq (ac x.op):=by unfold bV;exact if_pos h
 simp only [go_sem,ae,k6,kG,hlo,bq]
 obtain ⟨l,hl⟩:∃ l,ac x.op=l:=⟨_,rfl⟩
 rw [hl] at hlen hfq ⊢
 refine cM (ι:=Nat) (fun i=>i≤l.length∧∀ j f,j<i→l[j]? = some f→bY x f=true) (wiI x l) (fun i=>l.length-i) 0 ⟨Nat.zero_le _,fun j f hj=>absurd hj (Nat.not_lt_zero _)⟩ (Wk.renL [0] (by simp) (Nat.le_refl 1) (by decide) rfl rfl) ?_
 rintro i ⟨hi,hinv⟩
 refine aa (ctx:=[⟨_,Ha⟩]) 4000 ?_
 by_cases hlt:i<l.length
 ·have hltI:(i:Int)<l.length:=by omega
  obtain ⟨f,hf⟩:∃ f,l[i]? = some f:=⟨_,List.getElem?_eq_getElem hlt⟩
  have hq:=hfq f (List.mem_of_getElem? hf)
  have ei:IntKind.i64.wrap ((i:Int)+1)=((i+1:Nat):Int):=by rw [IntKind.wrap_i64];omega
  obtain ⟨v,hv⟩:∃ v,cO x f.1=v:=⟨_,rfl⟩
  have hbad:(v<f.2.1∨f.2.2<v)→aP x=false:=by
   intro hb
   have:bY x f=false:=by
    unfold bY
    rw [hv,Bool.and_eq_false_iff]
    rcases hb with hb | hb
    ·exact .inl (decide_eq_false (by omega))
    ·exact .inr (decide_eq_false (by omega))
   have ha:(ac x.op).all (bY x)=false:=by
    rw [hl,List.all_eq_false]
    exact ⟨f,List.mem_of_getElem? hf,by rw [this];simp⟩
   unfold aP
   rw [ha]
   rfl
  by_cases h1:v<f.2.1
  ·have hw:=hbad (.inl h1)
   simp only [go_sem,wiI,eT,aw,hltI,hf,jv,ae,nP,nF,ki,hq,hv,h1,hw]
  ·by_cases h2:f.2.2<v
   ·have hw:=hbad (.inr h2)
    simp only [go_sem,wiI,eT,aw,hltI,hf,jv,ae,nP,nF,ki,hq,hv,h1,h2,hw]
   ·have hgood:bY x f=true:=by
     unfold bY
     rw [hv,Bool.and_eq_true]
     exact ⟨decide_eq_true (by omega),decide_eq_true (by omega)⟩
    simp only [go_sem,wiI,eT,aw,hltI,hf,jv,ae,nP,nF,ki,hq,hv,h1,h2,ei]
    refine ⟨i+1,⟨by omega,fun j f' hj hj'=>?_⟩,by omega,Wk.renL [0] (by simp) (Nat.le_refl 1) (by decide) rfl rfl⟩
    by_cases e:j=i
    ·subst e
     rw [hf] at hj'
     injection hj' with hj'
     rw [← hj']
     exact hgood
    ·exact hinv j f' (by omega) hj'
 ·obtain rfl:i=l.length:=by omega
  have hltI:¬(l.length:Int)<l.length:=by omega
  simp only [go_sem,wiI,eT,aw,hltI]
  refine aI (ctx:=[⟨_,u4⟩]) ax [] (by kernel_rfl) ?_
  obtain ⟨y,hy⟩:∃ y,bN x=y:=⟨_,rfl⟩
  simp only [go_sem,ae,Ah,zH,h,gW,aw,hy,iu,mu,kM,oC,fK]
  have hW:aP x=decide (y=x):=by
   have ha:(ac x.op).all (bY x)=true:=by
    rw [hl,List.all_eq_true]
    intro f hf
    obtain ⟨j,hj,rfl⟩:=List.mem_iff_getElem.1 hf
    exact hinv j _ hj (List.getElem?_eq_getElem hj)
   unfold aP
   rw [ha,hl,hlen.2,hy]
   simp
  rw [hW,xm]
  refine ⟨fun e=>?_,rfl⟩
  have h0:l=[]:=by simpa using e
  have:=hlen.2
  rw [h0] at this
  cases this
theorem tz {x:Operand}:jO Tryz.prog (do eqGuard .neq 70 x (.const (.slice none 0 0)) (.slice none 0 0) (.slice none 0 0);binOp .neq 70 (.slice none 0 0) (.slice none 0 0))=some (.bool false):=by
  refine lZ fun w=>?_
  go_simp
def wiN (x:Ins):St:=⟨1,[(1,.s (.l (.p 0 0 0))),(3,fQ),(11,fQ),(12,iv 0),(13,iv 0)],[(0,some (eT x))]⟩
theorem yE (x:Ins) (h:¬opQ x.op):SW Tryz.prog ⟨none,0⟩ Tryz.f42.ntmps (Tryz.f42.body.getD .skip) ⟨0,ag 0 [(am ae).enc x],[]⟩ (aH Tryz.prog Tryz.f42.results.toList (.ret (bv false))):=by
 refine aa (ctx:=[⟨_,lj⟩]) 4000 ?_
 rw [Tryz.ntmps42,Tryz.results42]
 simp only [Tryz.f42,Option.getD_some,ag]
 have hlo:bV x.op=fQ:=by unfold bV;exact if_neg h
 simp only [go_sem,ae,k6,kG,hlo,fQ]
 refine cM (ι:=Unit) (fun _=>True) (fun _=>wiN x) (fun _=>0) () trivial (Wk.renL [0] (by simp) (Nat.le_refl 1) (by decide) rfl rfl) ?_
 intro _ _
 refine aa (ctx:=[]) 4000 ?_
 simp only [go_sem,wiN,eT,aw,fQ]
 refine aI (ctx:=[]) ax [] (by kernel_rfl) ?_
 simp only [go_sem,fQ,↓tz]
theorem yA (x:Ins):SW Tryz.prog ⟨none,0⟩ Tryz.f42.ntmps (Tryz.f42.body.getD .skip) ⟨0,ag 0 [(am ae).enc x],[]⟩ (aH Tryz.prog Tryz.f42.results.toList (.ret (bv (aP x)))):=by
 by_cases h:opQ x.op
 ·exact uM x h
 ·have e:aP x=false:=by unfold aP;rw [sj h];simp
  rw [e]
  exact yE x h
def rO:aQ Tryz.prog 42 :=
 mk1 _ _ _ Tryz.func42 rfl (fun _ _=>by go_simp) (am ae) ((fun _=>True)) ((fun x=>.ret (bv (aP x)))) (by rw [Tryz.ntmps42];decide) (fun x _=>yA x)
theorem kY {id:Nat} {h:ah} {args:List AV}:(rO).run id h args=bm (av (am ae) ((fun _=>True))) ((fun x=>.ret (bv (aP x)))) h args:=rfl
theorem kX {id:Nat} {h:ah} {args:List AV}:(rO).pan id h args=bt (av (am ae) ((fun _=>True))) ((fun x=>.ret (bv (aP x)))) h args:=rfl
theorem rJ (a:Int):IntKind.u64.wrap a=((dB a:Nat):Int):=by
 rw [o7]
 unfold dB
 omega
theorem nV (a:Int):dB a<18446744073709551616:=by unfold dB;omega
def oZ:aQ Tryz.prog 98 :=
 mk1 _ _ _ Tryz.func98 rfl (fun _ _=>by go_simp) (am ae) ((fun _=>True)) ((fun x=>.ret (bv (ct x)))) (by rw [Tryz.ntmps98];decide) (fun x _=>by
 refine aa (ctx:=[⟨_,re⟩]) 4000 ?_
 rw [Tryz.ntmps98,Tryz.results98]
 simp only [Tryz.f98,Option.getD_some,ag]
 have t:∀ n:Nat,Int.toNat (n:Int)=n:=fun _=>rfl
 have e1:=rJ x.a
 have l1:=nV x.a
 have b0:(0:Int)≤((dB x.a:Nat):Int)∧((dB x.a:Nat):Int)<18446744073709551616:=by omega
 obtain ⟨w,hw⟩:∃ w,wN x.x=w:=⟨_,rfl⟩
 have hfe:=qJ (dB x.a) w
 obtain ⟨A,hA⟩:∃ A,(ey (j0 (dB x.a) w)).1=A:=⟨_,rfl⟩
 have hwi:(if x.x then 64 else 32)=w:=hw
 by_cases h3:(cN (dB x.a) w).isSome=true
 ·have hF:ey (j0 (dB x.a) w)=(A,0):=by rw [← hA];exact Prod.ext rfl (by rw [hfe,if_pos h3])
  cases hx:x.x
  ·have hw2:w=32:=by rw [← hw,hx];rfl
   subst hw2
   have hL:ct x=decide (0≤x.a):=by unfold ct;rw [hwi,h3,hx];simp
   rw [hL]
   by_cases h4:0≤x.a
   ·simp only [go_sem,ae,hx,e1,tU,dW,dU,b0.1,b0.2,true_or,or_true,t,t32,hF,de,h4]
   ·simp only [go_sem,ae,hx,e1,tU,dW,dU,b0.1,b0.2,true_or,or_true,t,t32,hF,de,h4]
  ·have hw2:w=64:=by rw [← hw,hx];rfl
   subst hw2
   have hL:ct x=true:=by unfold ct;rw [hwi,h3,hx];simp
   simp only [go_sem,ae,hx,e1,tU,dW,dU,b0.1,b0.2,true_or,or_true,t,t64,hF,de,hL]
 ·have hF:ey (j0 (dB x.a) w)=(A,20):=by rw [← hA];exact Prod.ext rfl (by rw [hfe,if_neg h3])
  have hL:ct x=false:=by unfold ct;rw [hwi];simp at h3;simp [h3]
  cases hx:x.x
  ·have hw2:w=32:=by rw [← hw,hx];rfl
   subst hw2
   simp only [go_sem,ae,hx,e1,tU,dW,dU,b0.1,b0.2,true_or,or_true,t,t32,hF,de,hL]
  ·have hw2:w=64:=by rw [← hw,hx];rfl
   subst hw2
   simp only [go_sem,ae,hx,e1,tU,dW,dU,b0.1,b0.2,true_or,or_true,t,t64,hF,de,hL])
theorem tv {id:Nat} {h:ah} {args:List AV}:(oZ).run id h args=bm (av (am ae) ((fun _=>True))) ((fun x=>.ret (bv (ct x)))) h args:=rfl
theorem sN {id:Nat} {h:ah} {args:List AV}:(oZ).pan id h args=bt (av (am ae) ((fun _=>True))) ((fun x=>.ret (bv (ct x)))) h args:=rfl
end
end Go.Proofs.YtpjlafmhoifkmaaGreat
