import Derived.Test.YtpjlafmhoifkmaaGreatM20
import Derived.Test.YtpjlafmhoifkmaaGreatM18
import Derived.Test.YtpjlafmhoifkmaaGreatM19
set_option linter.unusedVariables false
set_option linter.unusedSimpArgs false
set_option maxRecDepth 100000
set_option maxHeartbeats 8000000
namespace Go.Proofs.YtpjlafmhoifkmaaGreat
section
open Go.RowKit
abbrev qd:Ty (List Lim):=tSl 3 lY
def j7 (x:Ins):AV:=.s (.agg (az x))
def il (x:Ins):Blk:=⟨true,27,10,[az x]⟩
def fq (f:Int):Prop:=f=1∨f=2∨f=3∨f=4∨f=5∨f=6∨f=7∨f=8∨f=9
def xW:aJ Tryz.prog 158 :=
 mk1 _ _ _ Tryz.func158 rfl (fun _ _=>by go_simp) (cW) ((fun _=>True)) ((fun q=>.ret (iv (aU q)))) (by rw [Tryz.ntmps158];decide) (fun q _=>by
 refine aa (ctx:=[]) 4000 ?_
 rw [Tryz.ntmps158,Tryz.results158]
 simp only [Tryz.f158,Option.getD_some,ag]
 cases q<;>simp only [go_sem,aU])
theorem AU {id:Nat} {h:am} {args:List AV}:(xW).run id h args=aY (au (cW) ((fun _=>True))) ((fun q=>.ret (iv (aU q)))) h args:=rfl
theorem Bu {id:Nat} {h:am} {args:List AV}:(xW).pan id h args=aZ (au (cW) ((fun _=>True))) ((fun q=>.ret (iv (aU q)))) h args:=rfl
theorem sub1:IntKind.i64.wrap (1-1)=0:=by decide
theorem sub2:IntKind.i64.wrap (2-1)=1:=by decide
theorem sub3:IntKind.i64.wrap (3-1)=2:=by decide
theorem sub4:IntKind.i64.wrap (4-1)=3:=by decide
theorem sub5:IntKind.i64.wrap (5-1)=4:=by decide
theorem sub6:IntKind.i64.wrap (6-1)=5:=by decide
theorem sub7:IntKind.i64.wrap (7-1)=6:=by decide
theorem sub8:IntKind.i64.wrap (8-1)=7:=by decide
theorem sub9:IntKind.i64.wrap (9-1)=8:=by decide
theorem Kt (x:Ins):jm x 1=aU x.x:=rfl
theorem KM (x:Ins):jm x 2=aU x.s:=rfl
theorem KB (x:Ins):jm x 3=x.rd:=rfl
theorem KO (x:Ins):jm x 4=x.rn:=rfl
theorem Kz (x:Ins):jm x 5=x.rm:=rfl
theorem KP (x:Ins):jm x 6=x.ra:=rfl
theorem KI (x:Ins):jm x 7=x.a:=rfl
theorem KS (x:Ins):jm x 8=x.b:=rfl
theorem KJ (x:Ins):jm x 9=x.c:=rfl
theorem Kq (x:Ins) (v:Int):mG x 1 v={ x with x:=decide (v=1) }:=rfl
theorem KR (x:Ins) (v:Int):mG x 2 v={ x with s:=decide (v=1) }:=rfl
theorem KT (x:Ins) (v:Int):mG x 3 v={ x with rd:=v }:=rfl
theorem KK (x:Ins) (v:Int):mG x 4 v={ x with rn:=v }:=rfl
theorem KH (x:Ins) (v:Int):mG x 5 v={ x with rm:=v }:=rfl
theorem KL (x:Ins) (v:Int):mG x 6 v={ x with ra:=v }:=rfl
theorem KN (x:Ins) (v:Int):mG x 7 v={ x with a:=v }:=rfl
theorem KY (x:Ins) (v:Int):mG x 8 v={ x with b:=v }:=rfl
theorem KF (x:Ins) (v:Int):mG x 9 v={ x with c:=v }:=rfl
def m8 (n:Int):AV:=.tup [.l (.v (.int .i64 n)),.l (.v (.int .i64 0))]
def Iz:aJ Tryz.prog 96 :=
 mk2 _ _ _ Tryz.func96 rfl (fun _ _=>by go_simp) (ai ac) (ao .i64) ((fun _ f=>fq f)) ((fun x f=>.ret (m8 (jm x f)))) (by rw [Tryz.ntmps96];decide) (fun x f h=>by
 refine aa (ctx:=[]) 4000 ?_
 rw [Tryz.ntmps96,Tryz.results96]
 simp only [Tryz.f96,Option.getD_some,ag]
 simp only [go_sem,ac]
 refine aP (ctx:=[⟨_,xW⟩]) ak [20] (by kernel_rfl) ?_
 rcases h with rfl | rfl | rfl | rfl | rfl | rfl | rfl | rfl | rfl
 all_goals simp only [go_sem,AU,Bu,m8,sub1,sub2,sub3,sub4,sub5,sub6,sub7,sub8,sub9,Kt,KM,KB,KO,Kz,KP,KI,KS,KJ])
theorem qD {id:Nat} {h:am} {args:List AV}:(Iz).run id h args=aY (bT (ai ac) (ao .i64) ((fun _ f=>fq f))) (fun x=>((fun x f=>.ret (m8 (jm x f)))) x.1 x.2) h args:=rfl
theorem qo {id:Nat} {h:am} {args:List AV}:(Iz).pan id h args=aZ (bT (ai ac) (ao .i64) ((fun _ f=>fq f))) (fun x=>((fun x f=>.ret (m8 (jm x f)))) x.1 x.2) h args:=rfl
theorem Oj (v:Int):(v==1)=decide (v=1):=by by_cases h:v=1<;>simp [h]
def Nu:aJ Tryz.prog 160 :=
 mk3 _ _ _ Tryz.func160 rfl (fun _ _=>by go_simp) (ai ac) (ao .i64) (ao .i64) ((fun _ f _=>fq f)) ((fun x f v=>.ret (j7 (mG x f v)))) (by rw [Tryz.ntmps160];decide) (fun x f v h=>by
 refine aa (ctx:=[]) 4000 ?_
 rw [Tryz.ntmps160,Tryz.results160]
 simp only [Tryz.f160,Option.getD_some,ag]
 rcases h with rfl | rfl | rfl | rfl | rfl | rfl | rfl | rfl | rfl
 all_goals simp only [go_sem,ac,j7,az,Oj,Kq,KR,KT,KK,KH,KL,KN,KY,KF])
theorem HT {id:Nat} {h:am} {args:List AV}:(Nu).run id h args=aY (gj (ai ac) (ao .i64) (ao .i64) ((fun _ f _=>fq f))) (fun x=>((fun x f v=>.ret (j7 (mG x f v)))) x.1 x.2.1 x.2.2) h args:=rfl
theorem Jd {id:Nat} {h:am} {args:List AV}:(Nu).pan id h args=aZ (gj (ai ac) (ao .i64) (ao .i64) ((fun _ f _=>fq f))) (fun x=>((fun x f v=>.ret (j7 (mG x f v)))) x.1 x.2.1 x.2.2) h args:=rfl
def Fi (f:Lim):List AV:=[dx f]
def jX (l:List Lim):D:=.sd 3 (l.map lY.enc)
def qu:List D→Option (Prop×List (List AV))
 | [.pd [.sd 3 els]]=>match gZ lY.dec els with
  | some ts=>some (ts.length≤1000,ts.map Fi)
  | none=>none
 | _=>none
theorem Ek (l:Nat) (ts:List Lim) (hz:ts.length≤1000):SWy Tryz.prog l (ts.map Fi) ⟨none,0⟩ Tryz.f192.ntmps (Tryz.f192.body.getD .skip) ⟨0,ag 0 [kB l,.s (.l (.d (.pd [jX ts])))],[]⟩ (0,true) (itQ (ts.map Fi)):=by
 refine ic (ctx:=[]) 4000 ?_
 rw [Tryz.ntmps192]
 simp only [Tryz.f192,Option.getD_some,ag]
 simp only [go_sem,kB,jX]
 refine sh (ι:=Nat) (fun i=>i≤ts.length) (fun i=>⟨0,[(0,kB l),(5,qd.enc ts),(6,iv ts.length),(7,iv i)],[]⟩) (fun i=>(i,true)) (fun i=>ts.length-i) 0 (Nat.zero_le _) rfl (fun i _ b k hk=>by cases hk) (Wk.renL [] (by simp) (by simp) (by simp) rfl rfl) ?_
 intro i hi
 refine ic (ctx:=[]) 4000 ?_
 rcases Nat.lt_or_ge i ts.length with hlt | hge
 ·have hltI:(i:Int)<ts.length:=by omega
  obtain ⟨t,ht⟩:∃ t,ts[i]? = some t:=⟨_,List.getElem?_eq_getElem hlt⟩
  have ei:IntKind.i64.wrap ((i:Int)+1)=((i+1:Nat):Int):=by rw [IntKind.wrap_i64];omega
  simp only [go_sem,kB,hltI,ht,lY,ei]
  exact ⟨rfl,i+1,by omega,by omega,rfl,Wk.renL [] (by simp) (by simp) (by simp) rfl rfl⟩
 ·obtain rfl:i=ts.length:=by omega
  have hI:¬(ts.length:Int)<ts.length:=by omega
  simp only [go_sem,kB,hI]
noncomputable def xK:It Tryz.prog 192 :=
 Pu _ _ _ Tryz.func192 rfl rfl (fun _ _=>by go_simp) qu (by
  intro ds q L hd hq l
  unfold qu at hd
  split at hd
  case h_2=>cases hd
  rename_i els
  split at hd
  case h_2=>cases hd
  rename_i ts hts
  injection hd with hd
  injection hd with h1 hd
  subst h1
  subst hd
  have he:=km lY hts
  subst he
  exact ⟨by rw [Tryz.ntmps192];show 1+1≤16;decide,Ek l ts hq⟩)
theorem Ff {ts:List Lim}:xK.dec [.pd [jX ts]]=some (ts.length≤1000,ts.map Fi):=by
 have e:xK.dec=qu:=rfl
 rw [e]
 unfold qu jX
 simp only [mb]
def GD:aJ Tryz.prog 181 :=
 mk1 _ _ _ Tryz.func181 rfl (fun _ _=>by go_simp) (qd) ((fun _=>True)) ((fun l=>.ret (.fn 192 [] [.d (.pd [jX l])]))) (by rw [Tryz.ntmps181];decide) (fun l _=>by
 refine aa (ctx:=[]) 4000 ?_
 rw [Tryz.ntmps181,Tryz.results181]
 simp only [Tryz.f181,Option.getD_some,ag]
 simp only [go_sem,jX])
theorem FZ {id:Nat} {h:am} {args:List AV}:(GD).run id h args=aY (au (qd) ((fun _=>True))) ((fun l=>.ret (.fn 192 [] [.d (.pd [jX l])]))) h args:=rfl
theorem EU {id:Nat} {h:am} {args:List AV}:(GD).pan id h args=aZ (au (qd) ((fun _=>True))) ((fun l=>.ret (.fn 192 [] [.d (.pd [jX l])]))) h args:=rfl
def rZ:aJ Tryz.prog 159 :=
 mk1 _ _ _ Tryz.func159 rfl (fun _ _=>by go_simp) (ao .i64) (opQ) ((fun op=>.ret (.fn 192 [] [.d (.pd [jX (an op)])]))) (by rw [Tryz.ntmps159];decide) (fun op h=>by
 refine aa (ctx:=[⟨_,oQ⟩,⟨_,GD⟩]) 4000 ?_
 rw [Tryz.ntmps159,Tryz.results159]
 simp only [Tryz.f159,Option.getD_some,ag]
 have e:cD op=bK (an op):=by unfold cD;exact if_pos h
 simp only [go_sem,nP,nW,e,bK,FZ,EU,jX])
theorem vF {id:Nat} {h:am} {args:List AV}:(rZ).run id h args=aY (au (ao .i64) (opQ)) ((fun op=>.ret (.fn 192 [] [.d (.pd [jX (an op)])]))) h args:=rfl
theorem vw {id:Nat} {h:am} {args:List AV}:(rZ).pan id h args=aZ (au (ao .i64) (opQ)) ((fun op=>.ret (.fn 192 [] [.d (.pd [jX (an op)])]))) h args:=rfl
end
section
open Go.RowKit
theorem op_cases {op:Int} (h:opQ op):op=1∨op=2∨op=3∨op=4∨op=5∨op=6∨op=7∨op=8∨op=9∨op=10∨op=11∨op=12∨op=13∨op=14∨op=15∨op=16∨op=17∨op=18∨op=19∨op=20∨op=21∨op=22∨op=23∨op=24∨op=25∨op=26∨op=27∨op=28∨op=29∨op=30∨op=31∨op=32:=by
 unfold opQ at h
 omega
theorem qp {op:Int} (h:opQ op):∀ f∈an op,fq f.1:=by
 rcases op_cases h with rfl | rfl | rfl | rfl | rfl | rfl | rfl | rfl | rfl | rfl | rfl | rfl | rfl | rfl | rfl | rfl | rfl | rfl | rfl | rfl | rfl | rfl | rfl | rfl | rfl | rfl | rfl | rfl | rfl | rfl | rfl | rfl<;>(unfold fq;decide)
theorem oF {op:Int} (h:opQ op):(an op).length≤10∧(an op).isEmpty=false:=by
 rcases op_cases h with rfl | rfl | rfl | rfl | rfl | rfl | rfl | rfl | rfl | rfl | rfl | rfl | rfl | rfl | rfl | rfl | rfl | rfl | rfl | rfl | rfl | rfl | rfl | rfl | rfl | rfl | rfl | rfl | rfl | rfl | rfl | rfl<;>decide
theorem ud {op:Int} (h:¬opQ op):an op=[]:=by
 unfold opQ at h
 unfold an
 split
 ·obtain ⟨n,rfl⟩:=Int.eq_ofNat_of_zero_le (show 0≤op by omega)
  have hn:33≤n:=by omega
  obtain ⟨k,rfl⟩:∃ k,n=k+33:=⟨n-33,by omega⟩
  rfl
 ·rfl
def G4:List AV→List LV
 | [A]=>(cellsOf A).getD []
 | _=>[]
def cnT (op:Int):eu:=[(1,.s (.l (.p 0 0 0))),(2,.s (.l (.p 1 0 0))),(3,.s (.l (.p 2 0 0))),(12,.s (.l (.d (.fn 192 [] [.pd [jX (an op)]]))))]
def cnH (x o:Ins):am:=[(0,some (il x)),(1,some (il (dC 0))),(2,some (il o))]
def cnE (x:Ins) (o:Ins) (As:List AV):St:=⟨4,(4,.s (.l (.p 3 0 0)))::lJ ([13].zip As) (cnT x.op),(3,some ⟨true,75,3,[G4 As]⟩)::cnH x o⟩
theorem p4 {x:Ins} {l:List Lim} {i:Nat} {f:Lim} (h:l[i]? = some f) (o:Ins):ll x (l.take (i+1)) o=mG (ll x (l.take i) o) f.1 (jm x f.1):=by
 rw [List.take_add_one,h]
 simp [ll]
theorem DZ (x:Ins) (h:opQ x.op):SW Tryz.prog ⟨none,0⟩ Tryz.f97.ntmps (Tryz.f97.body.getD .skip) ⟨0,ag 0 [(ai ac).enc x],[]⟩ (ax Tryz.prog Tryz.f97.results.toList (.ret (j7 (iY x)))):=by
 refine aa (ctx:=[⟨_,rZ⟩]) 4000 ?_
 rw [Tryz.ntmps97,Tryz.results97]
 simp only [Tryz.f97,Option.getD_some,ag]
 have nf:∀ (Q:Exit→St→Prop),Q .normal ⟨3,cnT x.op,cnH x (iY x)⟩→SW Tryz.prog ⟨none,0⟩ 27 (lv (Tryz.f97.body.getD .skip)) ⟨3,cnT x.op,cnH x (dC x.op)⟩ Q:=by
  intro Q hdone
  refine Da (K':=3) (by decide) (fun j hj=>?_) ?_
  ·have hj':j=0∨j=1∨j=2:=by omega
   rcases hj' with rfl | rfl | rfl<;>exact ⟨_,rfl⟩
  refine s6 (ι:=Ins) (t:=cnT x.op) (cnE x) (fun i o=>o=ll x ((an x.op).take i) (dC x.op)) (cnH x) (fun _=>3) (fun _ _=>False) xK Ff (Nat.le_trans (oF h).1 (by decide)) rfl (fun o As hA=>?_) (by decide) (fun As hA=>?_) (Ad rfl) (fun i o _=>kS rfl) (fun c s h=>h.elim) (dC x.op) rfl (fun l i o As hinv hA=>?_) (fun o hinv=>?_) (fun c s h=>h.elim)
  ·obtain ⟨r,_,rfl⟩:=List.mem_map.1 hA
   exact Jp (T:=75) (tb:=4) (tp:=13) rfl (by decide) (xs:=eJ r) rfl zR KD rfl
  ·obtain ⟨r,_,rfl⟩:=List.mem_map.1 hA
   rfl
  ·rw [List.getElem?_map,Option.map_eq_some_iff] at hA
   obtain ⟨f,hf,rfl⟩:=hA
   have hfq:=qp h f (List.mem_of_getElem? hf)
   have hnx:=p4 (x:=x) hf (dC x.op)
   rw [← hinv] at hnx
   refine aa (ctx:=[⟨_,Iz⟩,⟨_,Nu⟩]) 4000 ?_
   simp only [go_sem,cnE,cnT,cnH,il,az,Fi,dx,eJ,G4,lJ,List.zip_cons_cons,List.zip_nil_left,List.foldl_cons,List.foldl_nil,ac,qD,qo,m8,HT,Jd,hfq,j7]
   rw [hnx]
   exact Wk.renL [0,1,2] (Hh 3) (Nat.le_refl 3) (by decide) rfl rfl
  ·rw [List.length_map] at hinv
   rw [hinv,List.take_length]
   exact hdone
 have hwk:∀ {nx t h},Wk ⟨none,0⟩ ⟨nx,(12,.s (.l (.d (.fn 192 [] [.pd [jX (an x.op)]]))))::t,h⟩ ⟨3,cnT x.op,cnH x (dC x.op)⟩→dD t 12=.fn 192 [] [.d (.pd [jX (an x.op)])]→Wk ⟨none,0⟩ ⟨nx,t,h⟩ ⟨3,cnT x.op,cnH x (dC x.op)⟩:=fun h1 h2=>(Wk.fnD (s:=⟨_,_,_⟩) 12 h2 rfl rfl).trans h1
 simp only [go_sem,ac,vF,vw,h]
 refine SW.wk (nf _ ?_) (hwk (Wk.renL [0,16,80] (by simp) (Nat.le_refl 3) (by decide) rfl rfl) rfl)
 simp only [go_sem,cnT,cnH,il,j7,az]
def zN:aJ Tryz.prog 97 :=
 mk1 _ _ _ Tryz.func97 rfl (fun _ _=>by go_simp) (ai ac) ((fun x=>opQ x.op)) ((fun x=>.ret (j7 (iY x)))) (by rw [Tryz.ntmps97];decide) (fun x h=>DZ x h)
theorem Bs {id:Nat} {h:am} {args:List AV}:(zN).run id h args=aY (au (ai ac) ((fun x=>opQ x.op))) ((fun x=>.ret (j7 (iY x)))) h args:=rfl
theorem BO {id:Nat} {h:am} {args:List AV}:(zN).pan id h args=aZ (au (ai ac) ((fun x=>opQ x.op))) ((fun x=>.ret (j7 (iY x)))) h args:=rfl
theorem Ab (y x:Ins):decide (y=x)=(decide (y.op=x.op)&&(decide (y.x=x.x)&&(decide (y.s=x.s)&&(decide (y.rd=x.rd)&&(decide (y.rn=x.rn)&&(decide (y.rm=x.rm)&&(decide (y.ra=x.ra)&&(decide (y.a=x.a)&&(decide (y.b=x.b)&&decide (y.c=x.c)))))))))):=by
 obtain ⟨a1,a2,a3,a4,a5,a6,a7,a8,a9,a10⟩:=y
 obtain ⟨b1,b2,b3,b4,b5,b6,b7,b8,b9,b10⟩:=x
 rw [Bool.eq_iff_iff]
 simp only [Ins.mk.injEq,Bool.and_eq_true,decide_eq_true_eq]
theorem wh:wz Tryz.prog 27=some [1,2,2,1,1,1,1,1,1,1]:=by kernel_rfl
def wiI (x:Ins) (l:List Lim) (i:Nat):St:=⟨1,[(1,.s (.l (.p 0 0 0))),(3,qd.enc l),(11,qd.enc l),(12,iv l.length),(13,iv i)],[(0,some (il x))]⟩
theorem yR (x:Ins) (h:opQ x.op):SW Tryz.prog ⟨none,0⟩ Tryz.f42.ntmps (Tryz.f42.body.getD .skip) ⟨0,ag 0 [(ai ac).enc x],[]⟩ (ax Tryz.prog Tryz.f42.results.toList (.ret (bv (cr x)))):=by
 refine aa (ctx:=[⟨_,oQ⟩]) 4000 ?_
 rw [Tryz.ntmps42,Tryz.results42]
 simp only [Tryz.f42,Option.getD_some,ag]
 have hlen:=oF h
 have hfq:=qp h
 have hlo:cD x.op=bK (an x.op):=by unfold cD;exact if_pos h
 simp only [go_sem,ac,nP,nW,hlo,bK]
 obtain ⟨l,hl⟩:∃ l,an x.op=l:=⟨_,rfl⟩
 rw [hl] at hlen hfq ⊢
 refine cM (ι:=Nat) (fun i=>i≤l.length∧∀ j f,j<i→l[j]? = some f→gv x f=true) (wiI x l) (fun i=>l.length-i) 0 ⟨Nat.zero_le _,fun j f hj=>absurd hj (Nat.not_lt_zero _)⟩ (Wk.renL [0] (by simp) (Nat.le_refl 1) (by decide) rfl rfl) ?_
 rintro i ⟨hi,hinv⟩
 refine aa (ctx:=[⟨_,Iz⟩]) 4000 ?_
 by_cases hlt:i<l.length
 ·have hltI:(i:Int)<l.length:=by omega
  obtain ⟨f,hf⟩:∃ f,l[i]? = some f:=⟨_,List.getElem?_eq_getElem hlt⟩
  have hq:=hfq f (List.mem_of_getElem? hf)
  have ei:IntKind.i64.wrap ((i:Int)+1)=((i+1:Nat):Int):=by rw [IntKind.wrap_i64];omega
  obtain ⟨v,hv⟩:∃ v,jm x f.1=v:=⟨_,rfl⟩
  have hbad:(v<f.2.1∨f.2.2<v)→cr x=false:=by
   intro hb
   have:gv x f=false:=by
    unfold gv
    rw [hv,Bool.and_eq_false_iff]
    rcases hb with hb | hb
    ·exact .inl (decide_eq_false (by omega))
    ·exact .inr (decide_eq_false (by omega))
   have ha:(an x.op).all (gv x)=false:=by
    rw [hl,List.all_eq_false]
    exact ⟨f,List.mem_of_getElem? hf,by rw [this];simp⟩
   unfold cr
   rw [ha]
   rfl
  by_cases h1:v<f.2.1
  ·have hw:=hbad (.inl h1)
   simp only [go_sem,wiI,il,az,hltI,hf,lY,ac,qD,qo,m8,hq,hv,h1,hw]
  ·by_cases h2:f.2.2<v
   ·have hw:=hbad (.inr h2)
    simp only [go_sem,wiI,il,az,hltI,hf,lY,ac,qD,qo,m8,hq,hv,h1,h2,hw]
   ·have hgood:gv x f=true:=by
     unfold gv
     rw [hv,Bool.and_eq_true]
     exact ⟨decide_eq_true (by omega),decide_eq_true (by omega)⟩
    simp only [go_sem,wiI,il,az,hltI,hf,lY,ac,qD,qo,m8,hq,hv,h1,h2,ei]
    refine ⟨i+1,⟨by omega,fun j f' hj hj'=>?_⟩,by omega,Wk.renL [0] (by simp) (Nat.le_refl 1) (by decide) rfl rfl⟩
    by_cases e:j=i
    ·subst e
     rw [hf] at hj'
     injection hj' with hj'
     rw [← hj']
     exact hgood
    ·exact hinv j f' (by omega) hj'
 ·obtain rfl:i=l.length:=by omega
  have hltI:¬(l.length:Int)<l.length:=by omega
  simp only [go_sem,wiI,il,az,hltI]
  refine aP (ctx:=[⟨_,zN⟩]) ak [] (by kernel_rfl) ?_
  obtain ⟨y,hy⟩:∃ y,iY x=y:=⟨_,rfl⟩
  simp only [go_sem,ac,Bs,BO,h,j7,az,hy,nj,sR,pj,wh,iU]
  have hW:cr x=decide (y=x):=by
   have ha:(an x.op).all (gv x)=true:=by
    rw [hl,List.all_eq_true]
    intro f hf
    obtain ⟨j,hj,rfl⟩:=List.mem_iff_getElem.1 hf
    exact hinv j _ hj (List.getElem?_eq_getElem hj)
   unfold cr
   rw [ha,hl,hlen.2,hy]
   simp
  rw [hW,Ab]
  refine ⟨fun e=>?_,rfl⟩
  have h0:l=[]:=by simpa using e
  have:=hlen.2
  rw [h0] at this
  cases this
theorem wH {x:Operand}:mp Tryz.prog (do eqGuard .neq 70 x (.const (.slice none 0 0)) (.slice none 0 0) (.slice none 0 0);binOp .neq 70 (.slice none 0 0) (.slice none 0 0))=some (.bool false):=by
  refine ou fun w=>?_
  go_simp
def wiN (x:Ins):St:=⟨1,[(1,.s (.l (.p 0 0 0))),(3,jb),(11,jb),(12,iv 0),(13,iv 0)],[(0,some (il x))]⟩
theorem CO (x:Ins) (h:¬opQ x.op):SW Tryz.prog ⟨none,0⟩ Tryz.f42.ntmps (Tryz.f42.body.getD .skip) ⟨0,ag 0 [(ai ac).enc x],[]⟩ (ax Tryz.prog Tryz.f42.results.toList (.ret (bv false))):=by
 refine aa (ctx:=[⟨_,oQ⟩]) 4000 ?_
 rw [Tryz.ntmps42,Tryz.results42]
 simp only [Tryz.f42,Option.getD_some,ag]
 have hlo:cD x.op=jb:=by unfold cD;exact if_neg h
 simp only [go_sem,ac,nP,nW,hlo,jb]
 refine cM (ι:=Unit) (fun _=>True) (fun _=>wiN x) (fun _=>0) () trivial (Wk.renL [0] (by simp) (Nat.le_refl 1) (by decide) rfl rfl) ?_
 intro _ _
 refine aa (ctx:=[]) 4000 ?_
 simp only [go_sem,wiN,il,az,jb]
 refine aP (ctx:=[]) ak [] (by kernel_rfl) ?_
 simp only [go_sem,jb,↓wH]
theorem BD (x:Ins):SW Tryz.prog ⟨none,0⟩ Tryz.f42.ntmps (Tryz.f42.body.getD .skip) ⟨0,ag 0 [(ai ac).enc x],[]⟩ (ax Tryz.prog Tryz.f42.results.toList (.ret (bv (cr x)))):=by
 by_cases h:opQ x.op
 ·exact yR x h
 ·have e:cr x=false:=by unfold cr;rw [ud h];simp
  rw [e]
  exact CO x h
def uD:aJ Tryz.prog 42 :=
 mk1 _ _ _ Tryz.func42 rfl (fun _ _=>by go_simp) (ai ac) ((fun _=>True)) ((fun x=>.ret (bv (cr x)))) (by rw [Tryz.ntmps42];decide) (fun x _=>BD x)
theorem nu {id:Nat} {h:am} {args:List AV}:(uD).run id h args=aY (au (ai ac) ((fun _=>True))) ((fun x=>.ret (bv (cr x)))) h args:=rfl
theorem nX {id:Nat} {h:am} {args:List AV}:(uD).pan id h args=aZ (au (ai ac) ((fun _=>True))) ((fun x=>.ret (bv (cr x)))) h args:=rfl
theorem lp (a:Int):IntKind.u64.wrap a=((dg a:Nat):Int):=by
 rw [lN]
 unfold dg
 omega
theorem jA (a:Int):dg a<18446744073709551616:=by unfold dg;omega
def rJ:aJ Tryz.prog 98 :=
 mk1 _ _ _ Tryz.func98 rfl (fun _ _=>by go_simp) (ai ac) ((fun _=>True)) ((fun x=>.ret (bv (df x)))) (by rw [Tryz.ntmps98];decide) (fun x _=>by
 refine aa (ctx:=[⟨_,uX⟩]) 4000 ?_
 rw [Tryz.ntmps98,Tryz.results98]
 simp only [Tryz.f98,Option.getD_some,ag]
 have t:∀ n:Nat,Int.toNat (n:Int)=n:=fun _=>rfl
 have e1:=lp x.a
 have l1:=jA x.a
 have b0:(0:Int)≤((dg x.a:Nat):Int)∧((dg x.a:Nat):Int)<18446744073709551616:=by omega
 obtain ⟨w,hw⟩:∃ w,wN x.x=w:=⟨_,rfl⟩
 have hfe:=tO (dg x.a) w
 obtain ⟨A,hA⟩:∃ A,(gw (mq (dg x.a) w)).1=A:=⟨_,rfl⟩
 have hwi:(if x.x then 64 else 32)=w:=hw
 by_cases h3:(dF (dg x.a) w).isSome=true
 ·have hF:gw (mq (dg x.a) w)=(A,0):=by rw [← hA];exact Prod.ext rfl (by rw [hfe,if_pos h3])
  cases hx:x.x
  ·have hw2:w=32:=by rw [← hw,hx];rfl
   subst hw2
   have hL:df x=decide (0≤x.a):=by unfold df;rw [hwi,h3,hx];simp
   rw [hL]
   by_cases h4:0≤x.a
   ·simp only [go_sem,ac,hx,e1,tU,fz,fB,b0.1,b0.2,true_or,or_true,t,t32,hF,cP,h4]
   ·simp only [go_sem,ac,hx,e1,tU,fz,fB,b0.1,b0.2,true_or,or_true,t,t32,hF,cP,h4]
  ·have hw2:w=64:=by rw [← hw,hx];rfl
   subst hw2
   have hL:df x=true:=by unfold df;rw [hwi,h3,hx];simp
   simp only [go_sem,ac,hx,e1,tU,fz,fB,b0.1,b0.2,true_or,or_true,t,t64,hF,cP,hL]
 ·have hF:gw (mq (dg x.a) w)=(A,20):=by rw [← hA];exact Prod.ext rfl (by rw [hfe,if_neg h3])
  have hL:df x=false:=by unfold df;rw [hwi];simp at h3;simp [h3]
  cases hx:x.x
  ·have hw2:w=32:=by rw [← hw,hx];rfl
   subst hw2
   simp only [go_sem,ac,hx,e1,tU,fz,fB,b0.1,b0.2,true_or,or_true,t,t32,hF,cP,hL]
  ·have hw2:w=64:=by rw [← hw,hx];rfl
   subst hw2
   simp only [go_sem,ac,hx,e1,tU,fz,fB,b0.1,b0.2,true_or,or_true,t,t64,hF,cP,hL])
theorem wi {id:Nat} {h:am} {args:List AV}:(rJ).run id h args=aY (au (ai ac) ((fun _=>True))) ((fun x=>.ret (bv (df x)))) h args:=rfl
theorem ws {id:Nat} {h:am} {args:List AV}:(rJ).pan id h args=aZ (au (ai ac) ((fun _=>True))) ((fun x=>.ret (bv (df x)))) h args:=rfl
end
end Go.Proofs.YtpjlafmhoifkmaaGreat
