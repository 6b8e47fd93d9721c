import Derived.Test.YtpjlafmhoifkmaaGreatM16
import Derived.Test.YtpjlafmhoifkmaaGreatM10
import Derived.Test.YtpjlafmhoifkmaaGreatM25
import Derived.Test.YtpjlafmhoifkmaaGreatM23
import Derived.Test.YtpjlafmhoifkmaaGreatM29
set_option linter.unusedVariables false
set_option linter.unusedSimpArgs false
set_option maxRecDepth 100000
set_option maxHeartbeats 8000000
namespace Go.Proofs.YtpjlafmhoifkmaaGreat
section
open Go.RowKit
def aB:aJ Tryz.prog 84 :=
 mk2 _ _ _ Tryz.func84 rfl (fun _ _=>by go_simp) (ao .i64) (cW) ((fun _ _=>True)) ((fun n x=>.ret (opV (ah n x)))) (by rw [Tryz.ntmps84];decide) (fun n x _=>by
 refine aa (ctx:=[]) 4000 ?_
 rw [Tryz.ntmps84,Tryz.results84]
 simp only [Tryz.f84,Option.getD_some,ag]
 simp only [go_sem,opV,ah,op0,r0,opR,opE,emp])
theorem dX {id:Nat} {h:am} {args:List AV}:(aB).run id h args=aY (bT (ao .i64) (cW) ((fun _ _=>True))) (fun x=>((fun n x=>.ret (opV (ah n x)))) x.1 x.2) h args:=rfl
theorem d7 {id:Nat} {h:am} {args:List AV}:(aB).pan id h args=aZ (bT (ao .i64) (cW) ((fun _ _=>True))) (fun x=>((fun n x=>.ret (opV (ah n x)))) x.1 x.2) h args:=rfl
def ct:aJ Tryz.prog 83 :=
 mk2 _ _ _ Tryz.func83 rfl (fun _ _=>by go_simp) (ao .i64) (cW) ((fun _ _=>True)) ((fun n x=>.ret (opV (oSP n x)))) (by rw [Tryz.ntmps83];decide) (fun n x _=>by
 refine aa (ctx:=[]) 4000 ?_
 rw [Tryz.ntmps83,Tryz.results83]
 simp only [Tryz.f83,Option.getD_some,ag]
 simp only [go_sem,opV,oSP,op0,r0,opR,opE,emp])
theorem dQ {id:Nat} {h:am} {args:List AV}:(ct).run id h args=aY (bT (ao .i64) (cW) ((fun _ _=>True))) (fun x=>((fun n x=>.ret (opV (oSP n x)))) x.1 x.2) h args:=rfl
theorem dR {id:Nat} {h:am} {args:List AV}:(ct).pan id h args=aZ (bT (ao .i64) (cW) ((fun _ _=>True))) (fun x=>((fun n x=>.ret (opV (oSP n x)))) x.1 x.2) h args:=rfl
def spF (is:Bool) (n:Int) (x:Bool):OpV:=if is then oSP n x else ah n x
def dl:aJ Tryz.prog 91 :=
 mk3 _ _ _ Tryz.func91 rfl (fun _ _=>by go_simp) (cW) (ao .i64) (cW) ((fun _ _ _=>True)) ((fun b n x=>.ret (opV (spF b n x)))) (by rw [Tryz.ntmps91];decide) (fun b n x _=>by
 refine aa (ctx:=[⟨_,aB⟩,⟨_,ct⟩]) 4000 ?_
 rw [Tryz.ntmps91,Tryz.results91]
 simp only [Tryz.f91,Option.getD_some,ag]
 cases b<;>simp only [go_sem,dX,d7,dQ,dR,spF,opV,ah,oSP,op0,r0,opR,opE,emp])
theorem eV {id:Nat} {h:am} {args:List AV}:(dl).run id h args=aY (gj (cW) (ao .i64) (cW) ((fun _ _ _=>True))) (fun x=>((fun b n x=>.ret (opV (spF b n x)))) x.1 x.2.1 x.2.2) h args:=rfl
theorem eT {id:Nat} {h:am} {args:List AV}:(dl).pan id h args=aZ (gj (cW) (ao .i64) (cW) ((fun _ _ _=>True))) (fun x=>((fun b n x=>.ret (opV (spF b n x)))) x.1 x.2.1 x.2.2) h args:=rfl
def bN:aJ Tryz.prog 80 :=
 mk1 _ _ _ Tryz.func80 rfl (fun _ _=>by go_simp) (ao .i64) ((fun _=>True)) ((fun v=>.ret (opV (aw v)))) (by rw [Tryz.ntmps80];decide) (fun v _=>by
 refine aa (ctx:=[]) 4000 ?_
 rw [Tryz.ntmps80,Tryz.results80]
 simp only [Tryz.f80,Option.getD_some,ag]
 simp only [go_sem,opV,aw,op0,r0,opR,opE,emp])
theorem fS {id:Nat} {h:am} {args:List AV}:(bN).run id h args=aY (au (ao .i64) ((fun _=>True))) ((fun v=>.ret (opV (aw v)))) h args:=rfl
theorem gb {id:Nat} {h:am} {args:List AV}:(bN).pan id h args=aZ (au (ao .i64) ((fun _=>True))) ((fun v=>.ret (opV (aw v)))) h args:=rfl
def cU:aJ Tryz.prog 141 :=
 mk1 _ _ _ Tryz.func141 rfl (fun _ _=>by go_simp) (ao .i64) ((fun _=>True)) ((fun v=>.ret (opV (oTo v)))) (by rw [Tryz.ntmps141];decide) (fun v _=>by
 refine aa (ctx:=[]) 4000 ?_
 rw [Tryz.ntmps141,Tryz.results141]
 simp only [Tryz.f141,Option.getD_some,ag]
 simp only [go_sem,opV,oTo,op0,r0,opR,opE,emp])
theorem gW {id:Nat} {h:am} {args:List AV}:(cU).run id h args=aY (au (ao .i64) ((fun _=>True))) ((fun v=>.ret (opV (oTo v)))) h args:=rfl
theorem gT {id:Nat} {h:am} {args:List AV}:(cU).pan id h args=aZ (au (ao .i64) ((fun _=>True))) ((fun v=>.ret (opV (oTo v)))) h args:=rfl
def bC:aJ Tryz.prog 92 :=
 mk2 _ _ _ Tryz.func92 rfl (fun _ _=>by go_simp) (ao .i64) (ao .i64) ((fun _ _=>True)) ((fun k n=>.ret (opV (oOf k n)))) (by rw [Tryz.ntmps92];decide) (fun k n _=>by
 refine aa (ctx:=[]) 4000 ?_
 rw [Tryz.ntmps92,Tryz.results92]
 simp only [Tryz.f92,Option.getD_some,ag]
 simp only [go_sem,opV,oOf,op0,r0,opR,opE,emp])
theorem gV {id:Nat} {h:am} {args:List AV}:(bC).run id h args=aY (bT (ao .i64) (ao .i64) ((fun _ _=>True))) (fun x=>((fun k n=>.ret (opV (oOf k n)))) x.1 x.2) h args:=rfl
theorem gY {id:Nat} {h:am} {args:List AV}:(bC).pan id h args=aZ (bT (ao .i64) (ao .i64) ((fun _ _=>True))) (fun x=>((fun k n=>.ret (opV (oOf k n)))) x.1 x.2) h args:=rfl
def fG:aJ Tryz.prog 81 :=
 mk3 _ _ _ Tryz.func81 rfl (fun _ _=>by go_simp) (ai opR) (ao .i64) (ao .i64) ((fun _ _ _=>True)) ((fun o m a=>.ret (opV (cw o m a)))) (by rw [Tryz.ntmps81];decide) (fun o m a _=>by
 refine aa (ctx:=[]) 4000 ?_
 rw [Tryz.ntmps81,Tryz.results81]
 simp only [Tryz.f81,Option.getD_some,ag]
 simp only [go_sem,opV,cw,opR,opE])
theorem eD {id:Nat} {h:am} {args:List AV}:(fG).run id h args=aY (gj (ai opR) (ao .i64) (ao .i64) ((fun _ _ _=>True))) (fun x=>((fun o m a=>.ret (opV (cw o m a)))) x.1 x.2.1 x.2.2) h args:=rfl
theorem eB {id:Nat} {h:am} {args:List AV}:(fG).pan id h args=aZ (gj (ai opR) (ao .i64) (ao .i64) ((fun _ _ _=>True))) (fun x=>((fun o m a=>.ret (opV (cw o m a)))) x.1 x.2.1 x.2.2) h args:=rfl
def bA:aJ Tryz.prog 142 :=
 mk3 _ _ _ Tryz.func142 rfl (fun _ _=>by go_simp) (ao .i64) (ao .i64) (ao .i64) ((fun _ _ _=>True)) ((fun n m v=>.ret (opV (be n m v)))) (by rw [Tryz.ntmps142];decide) (fun n m v _=>by
 refine aa (ctx:=[]) 4000 ?_
 rw [Tryz.ntmps142,Tryz.results142]
 simp only [Tryz.f142,Option.getD_some,ag]
 simp only [go_sem,opV,be,op0,r0,opR,opE,emp])
theorem fZ {id:Nat} {h:am} {args:List AV}:(bA).run id h args=aY (gj (ao .i64) (ao .i64) (ao .i64) ((fun _ _ _=>True))) (fun x=>((fun n m v=>.ret (opV (be n m v)))) x.1 x.2.1 x.2.2) h args:=rfl
theorem fW {id:Nat} {h:am} {args:List AV}:(bA).pan id h args=aZ (gj (ao .i64) (ao .i64) (ao .i64) ((fun _ _ _=>True))) (fun x=>((fun n m v=>.ret (opV (be n m v)))) x.1 x.2.1 x.2.2) h args:=rfl
def cJ (s:ByteArray) (q:Bool) (t:ByteArray):ByteArray:=if q then s++t else s
def bO:aJ Tryz.prog 89 :=
 mk3 _ _ _ Tryz.func89 rfl (fun _ _=>by go_simp) (lH) (cW) (lH) ((fun s _ t=>s.size≤1000∧t.size≤1000)) ((fun s q t=>.ret (sv (cJ s q t)))) (by rw [Tryz.ntmps89];decide) (fun s q t h=>by
 refine aa (ctx:=[]) 4000 ?_
 rw [Tryz.ntmps89,Tryz.results89]
 simp only [Tryz.f89,Option.getD_some,ag]
 have hm:s.size+t.size≤maxLen:=by unfold maxLen;omega
 cases q<;>simp only [go_sem,cJ,hm])
theorem ek {id:Nat} {h:am} {args:List AV}:(bO).run id h args=aY (gj (lH) (cW) (lH) ((fun s _ t=>s.size≤1000∧t.size≤1000))) (fun x=>((fun s q t=>.ret (sv (cJ s q t)))) x.1 x.2.1 x.2.2) h args:=rfl
theorem eh {id:Nat} {h:am} {args:List AV}:(bO).pan id h args=aZ (gj (lH) (cW) (lH) ((fun s _ t=>s.size≤1000∧t.size≤1000))) (fun x=>((fun s q t=>.ret (sv (cJ s q t)))) x.1 x.2.1 x.2.2) h args:=rfl
def aG:aJ Tryz.prog 144 :=
 mk1 _ _ _ Tryz.func144 rfl (fun _ _=>by go_simp) (cW) ((fun _=>True)) ((fun q=>.ret (iv (aU q)))) (by rw [Tryz.ntmps144];decide) (fun q _=>by
 refine aa (ctx:=[]) 4000 ?_
 rw [Tryz.ntmps144,Tryz.results144]
 simp only [Tryz.f144,Option.getD_some,ag]
 cases q<;>simp only [go_sem,aU])
theorem dp {id:Nat} {h:am} {args:List AV}:(aG).run id h args=aY (au (cW) ((fun _=>True))) ((fun q=>.ret (iv (aU q)))) h args:=rfl
theorem dq {id:Nat} {h:am} {args:List AV}:(aG).pan id h args=aZ (au (cW) ((fun _=>True))) ((fun q=>.ret (iv (aU q)))) h args:=rfl
theorem Df (n:Int) (l:List ByteArray):SW Tryz.prog ⟨none,0⟩ Tryz.f32.ntmps (Tryz.f32.body.getD .skip) ⟨1,ag 0 [.s (.l (.v (.int .i64 n))),.s (.l (.sl 0 0 l.length))],cX 0 [ig l]⟩ (jq Tryz.prog Tryz.f32.results.toList 0 (bm (n,l))):=by
 refine aa (ctx:=[]) 4000 ?_
 rw [Tryz.ntmps32,Tryz.results32]
 simp only [Tryz.f32,Option.getD_some,ag]
 by_cases h0:n<0
 ·have e:ae n l=emp:=by unfold ae;rw [if_pos (.inl h0)]
  simp only [go_sem,ig,h0,bm,e,emp]
  exact tA rfl
 by_cases h1:(l.length:Int)≤n
 ·have e:ae n l=emp:=by unfold ae;rw [if_pos (.inr h1)]
  simp only [go_sem,ig,h0,h1,bm,e,emp]
  exact tA rfl
 ·obtain ⟨i,rfl⟩:=Int.eq_ofNat_of_zero_le (Int.not_lt.1 h0)
  have hi:i<l.length:=by omega
  obtain ⟨s,hs⟩:∃ s,l[i]? = some s:=⟨_,List.getElem?_eq_getElem hi⟩
  have e:ae (i:Int) l=s:=by
   unfold ae
   rw [if_neg (by omega)]
   show l.getD i emp=s
   rw [List.getD_eq_getElem?_getD,hs]
   rfl
  simp only [go_sem,ig,tP,h0,h1,bm,e,hi,hs]
  exact ⟨by omega,tA rfl⟩
def aA:aJ Tryz.prog 32 :=
 mkR 0 1 (by decide) _ _ _ Tryz.func32 rfl (fun _ _=>by go_simp) bu (fun x=>[.s (.l (.v (.int .i64 x.1))),.s (.l (.sl 0 0 x.2.length))]) (fun x=>[ig x.2]) bm (fun hs hd=>rL hs hd)
  (by
   intro h zs q' bs x hd hq
   obtain ⟨n,l⟩:=x
   obtain ⟨b,rfl,rfl,hb,rfl⟩:=vJ hd
   refine ⟨by rw [Tryz.ntmps32];show 2≤17;decide,rfl,rfl,by simp,fun d=>⟨?_,?_⟩⟩
   ·intro j b' k hj hk
    match j,hj,hk with
    | 0,hj,hk =>
     simp at hj hk
     subst hj
     subst hk
     exact ⟨rfl,by rw [hb,rU]⟩
   ·intro ρ al vals hA
    match vals,hA with
    | [v,w],⟨a,b,_⟩=>exact ⟨a,b,trivial⟩)
  (by
   intro h zs q' bs x hd hq
   exact Df x.1 x.2)
theorem dJ {id:Nat} {h:am} {args:List AV}:aA.run id h args=bU 0 bu bm id h args:=rfl
theorem dI {id:Nat} {h:am} {args:List AV}:aA.pan id h args=bW bu bm h args:=rfl
def fN (h:am):List AV→Option (Prop×List Nat×cE)
 | [.s (.l (.v (.string s))),.s (.l (.sl b 0 m))]=>match hget h b with
  | some ⟨true,T,15,rows⟩=>match aH cy rows with
   | some l=>if T=40∧m=l.length then some (True,[b],(s,l)) else none
   | none=>none
  | _=>none
 | _=>none
theorem CY {h:am} {zs:List AV} {q:Prop} {bs:List Nat} {s:ByteArray} {l:List OpV} (hd:fN h zs=some (q,bs,s,l)) :
  ∃ b,zs=[sv s,.s (.l (.sl b 0 l.length))]∧bs=[b]∧hget h b=some (aD l)∧q=True:=by
 unfold fN at hd
 split at hd
 case h_2=>cases hd
 rename_i s' b m
 split at hd
 case h_2=>cases hd
 rename_i T rows hb
 split at hd
 case h_2=>cases hd
 rename_i l' hl
 split at hd
 case isFalse=>cases hd
 rename_i hc
 obtain ⟨rfl,rfl⟩:=hc
 simp only [Option.some.injEq,Prod.mk.injEq] at hd
 obtain ⟨rfl,rfl,rfl,rfl⟩:=hd
 exact ⟨b,rfl,rfl,by rw [hb,aD,fM (d:=cy) (e:=opL) (fun c x hc=>qL hc) hl],rfl⟩
theorem vm {h h':am} (hs:∀ b k,hget h b=some k→hget h' b=some k) {zs:List AV} {r:Prop×List Nat×cE} (hd:fN h zs=some r):fN h' zs=some r:=by
 unfold fN at hd ⊢
 split at hd
 case h_2=>cases hd
 split at hd
 case h_2=>cases hd
 rename_i hb
 simp only [hs _ _ hb]
 exact hd
def gL (x:cE):RO:=.ret (.s (.agg [.v (.string x.1),.sl 0 0 x.2.length])) [] [aD x.2]
theorem Eu (s:ByteArray) (l:List OpV):SW Tryz.prog ⟨none,0⟩ Tryz.f82.ntmps (Tryz.f82.body.getD .skip) ⟨1,ag 0 [sv s,.s (.l (.sl 0 0 l.length))],cX 0 [aD l]⟩ (iC Tryz.prog Tryz.f82.results.toList 0 (gL (s,l))):=by
 refine aa (ctx:=[]) 4000 ?_
 rw [Tryz.ntmps82,Tryz.results82]
 simp only [Tryz.f82,Option.getD_some,ag]
 simp only [go_sem,eZ,dm,gL]
 exact ⟨_,_,_,rfl,rfl,by simp,by simp,by simp [aD],Wk.renL [0] (by simp) (Nat.le_refl _) (by simp) rfl (by simp [eL,cX,hget,fj])⟩
def ap:aJ Tryz.prog 82 :=
 mkQ 0 1 (by decide) _ _ _ Tryz.func82 rfl (fun _ _=>by go_simp) fN (fun x=>[sv x.1,.s (.l (.sl 0 0 x.2.length))]) (fun x=>[aD x.2]) gL (by rw [Tryz.ntmps82];decide) (fun hs hd=>vm hs hd)
  (by
   intro h zs q' bs x hd hq
   obtain ⟨n,l⟩:=x
   obtain ⟨b,rfl,rfl,hb,rfl⟩:=CY hd
   refine ⟨by rw [Tryz.ntmps82];show 2≤8;decide,rfl,rfl,by simp,fun d=>⟨?_,?_⟩⟩
   ·intro j b' k hj hk
    match j,hj,hk with
    | 0,hj,hk =>
     simp at hj hk
     subst hj
     subst hk
     exact ⟨rfl,by rw [hb,fj]⟩
   ·intro ρ al vals hA
    match vals,hA with
    | [v,w],⟨a,b,_⟩=>exact ⟨a,b,trivial⟩)
  (by
   intro h zs q' bs x hd hq
   exact Eu x.1 x.2)
theorem eX {id:Nat} {h:am} {args:List AV}:ap.run id h args=co 0 fN gL id h args:=rfl
theorem eS {id:Nat} {h:am} {args:List AV}:ap.pan id h args=none:=rfl
end
section
open Go.RowKit
def uZ:aJ Tryz.prog 148 :=
 mk1 _ _ _ Tryz.func148 rfl (fun _ _=>by go_simp) (ao .i64) ((fun k=>k=2)) ((fun _=>.ret (jE eP))) (by rw [Tryz.ntmps148];decide) (fun k h=>by
 subst h
 refine aa (ctx:=[]) 4000 ?_
 rw [Tryz.ntmps148,Tryz.results148]
 simp only [Tryz.f148,Option.getD_some,ag]
 simp only [go_sem,true_or,or_true,or_false,false_or,eP,i8]
 rfl)
theorem yE {id:Nat} {h:am} {args:List AV}:(uZ).run id h args=aY (au (ao .i64) ((fun k=>k=2))) ((fun _=>.ret (jE eP))) h args:=rfl
theorem yw {id:Nat} {h:am} {args:List AV}:(uZ).pan id h args=aZ (au (ao .i64) ((fun k=>k=2))) ((fun _=>.ret (jE eP))) h args:=rfl
def Pi (n:Int) (i:Nat):St:=⟨0,[(0,iv 2),(1,iv n),(6,jE eP),(7,iv i)],[]⟩
theorem Fh (n:Int):SW Tryz.prog ⟨none,0⟩ Tryz.f87.ntmps (Tryz.f87.body.getD .skip) ⟨0,ag 0 [(ao .i64).enc 2,(ao .i64).enc n],[]⟩ (ax Tryz.prog Tryz.f87.results.toList (.ret (cf (cV 2 n)))):=by
 refine aa (ctx:=[⟨_,uZ⟩]) 4000 ?_
 rw [Tryz.ntmps87,Tryz.results87]
 simp only [Tryz.f87,Option.getD_some,ag]
 simp only [go_sem,yE,yw,List.length_map,mS,eP]
 refine cM (ι:=Nat) (fun i=>i≤16∧∀ (j:Nat) (r:ByteArray×Int),j<i→eP[j]? = some r→¬r.2=n) (Pi n) (fun i=>16-i) 0 ⟨Nat.zero_le _,fun j r hj=>absurd hj (Nat.not_lt_zero j)⟩ (Wk.renL [] (by simp) (by simp) (by simp) rfl rfl) ?_
 rintro i ⟨hi,hn⟩
 refine aa (ctx:=[]) 4000 ?_
 obtain ⟨l,hl⟩:∃ l,eP=l:=⟨_,rfl⟩
 have hlen:l.length=16:=by rw [← hl];rfl
 unfold Pi
 rw [hl] at hn ⊢
 rcases Nat.lt_or_ge i 16 with hlt | hge
 ·have hltI:(i:Int)<16:=by omega
  obtain ⟨r,hr⟩:∃ r,l[i]? = some r:=⟨_,List.getElem?_eq_getElem (by omega)⟩
  have ei:IntKind.i64.wrap ((i:Int)+1)=((i+1:Nat):Int):=by rw [IntKind.wrap_i64];omega
  by_cases hrn:r.2=n
  ·have er:cV 2 n=(r.1,0):=by
    have:=mM (by rw [← hl] at hn;exact hn) (by rw [← hl] at hr;exact hr) hrn
    unfold cV sE
    rw [if_neg (by decide),if_pos rfl,this]
   have hb:(r.2==n)=true:=by simpa using hrn
   simp only [go_sem,hltI,hr,i8,hb,er,cf,hlen,List.length_map,List.getElem?_map]
  ·have hb:(r.2==n)=false:=by simpa using hrn
   simp only [go_sem,hltI,hr,i8,hb,ei,hlen,List.length_map,List.getElem?_map]
   refine ⟨i+1,⟨hlt,fun j r' hj hr'=>?_⟩,by omega,Wk.renL [] (by simp) (by simp) (by simp) rfl rfl⟩
   by_cases e2:j=i
   ·subst e2
    rw [hr] at hr'
    injection hr' with hr'
    rw [← hr']
    exact hrn
   ·exact hn j r' (by omega) hr'
 ·obtain rfl:i=16:=by omega
  have er:cV 2 n=(emp,30):=by
   have:=kt (by rw [← hl,mS] at *;exact hn)
   unfold cV sE
   rw [if_neg (by decide),if_pos rfl,this]
   rfl
  simp only [go_sem,hlen,List.length_map,er,cf,emp]
def zC:aJ Tryz.prog 87 :=
 mk2 _ _ _ Tryz.func87 rfl (fun _ _=>by go_simp) (ao .i64) (ao .i64) ((fun k _=>k=2)) ((fun k n=>.ret (cf (cV 2 n)))) (by rw [Tryz.ntmps87];decide) (fun k n h=>by
 subst h
 exact Fh n)
theorem BU {id:Nat} {h:am} {args:List AV}:(zC).run id h args=aY (bT (ao .i64) (ao .i64) ((fun k _=>k=2))) (fun x=>((fun k n=>.ret (cf (cV 2 n)))) x.1 x.2) h args:=rfl
theorem BJ {id:Nat} {h:am} {args:List AV}:(zC).pan id h args=aZ (bT (ao .i64) (ao .i64) ((fun k _=>k=2))) (fun x=>((fun k n=>.ret (cf (cV 2 n)))) x.1 x.2) h args:=rfl
theorem uA (s o:Int):SW Tryz.prog ⟨none,0⟩ Tryz.f14.ntmps (Tryz.f14.body.getD .skip) ⟨0,ag 0 [(ao .i64).enc s,(ao .i64).enc o],[]⟩ (ax Tryz.prog Tryz.f14.results.toList (.ret (bB (bx s o)))):=by
 refine aa (ctx:=[⟨_,aA⟩]) 4000 ?_
 rw [Tryz.ntmps14,Tryz.results14]
 simp only [Tryz.f14,Option.getD_some,ag]
 have m1:∀ n,3+(ae n [(⟨#[98]⟩:ByteArray),(⟨#[104]⟩:ByteArray),(⟨#[]⟩:ByteArray),(⟨#[]⟩:ByteArray)]).size≤maxLen:=fun n=>by have:(ae n [(⟨#[98]⟩:ByteArray),(⟨#[104]⟩:ByteArray),(⟨#[]⟩:ByteArray),(⟨#[]⟩:ByteArray)]).size≤1:=av (by decide);unfold maxLen;omega
 have m2:∀ n,4+(ae n [(⟨#[98]⟩:ByteArray),(⟨#[104]⟩:ByteArray),(⟨#[119]⟩:ByteArray)]).size≤maxLen:=fun n=>by have:(ae n [(⟨#[98]⟩:ByteArray),(⟨#[104]⟩:ByteArray),(⟨#[119]⟩:ByteArray)]).size≤1:=av (by decide);unfold maxLen;omega
 have m3:∀ n,4+(ae n [(⟨#[98]⟩:ByteArray),(⟨#[104]⟩:ByteArray)]).size≤maxLen:=fun n=>by have:(ae n [(⟨#[98]⟩:ByteArray),(⟨#[104]⟩:ByteArray)]).size≤1:=av (by decide);unfold maxLen;omega
 have z1:((⟨#[115,116,114]⟩:ByteArray)).size=3:=rfl
 have z2:((⟨#[108,100,114]⟩:ByteArray)).size=3:=rfl
 have z3:((⟨#[108,100,114,115]⟩:ByteArray)).size=4:=rfl
 by_cases h1:s<0
 ·have e:bx s o=(emp,false,false):=by unfold bx;rw [if_pos (.inl h1)]
  simp only [go_sem,h1,e,bB,emp]
 by_cases h2:3<s
 ·have e:bx s o=(emp,false,false):=by unfold bx;rw [if_pos (.inr h2)]
  simp only [go_sem,h1,h2,e,bB,emp]
 have h12:¬(s<0∨3<s):=by omega
 by_cases o0:o=0
 ·subst o0
  have e:bx s 0=((⟨#[115,116,114]⟩:ByteArray)++ae s [(⟨#[98]⟩:ByteArray),(⟨#[104]⟩:ByteArray),emp,emp],false,decide (s=3)):=by unfold bx;rw [if_neg h12,if_pos rfl]
  rw [e]
  by_cases s3:s=3<;>simp only [go_sem,h1,h2,dJ,dI,bU,bW,bu,aC,aH,bm,emp,z1,m1,bB,s3,bH]
 by_cases o1:o=1
 ·subst o1
  have e:bx s 1=((⟨#[108,100,114]⟩:ByteArray)++ae s [(⟨#[98]⟩:ByteArray),(⟨#[104]⟩:ByteArray),emp,emp],true,decide (s=3)):=by unfold bx;rw [if_neg h12,if_neg (by decide),if_pos rfl]
  rw [e]
  by_cases s3:s=3<;>simp only [go_sem,h1,h2,dJ,dI,bU,bW,bu,aC,aH,bm,emp,z2,m1,bB,s3,bH]
 by_cases o2:o=2
 ·subst o2
  by_cases s3:s=3
  ·have e:bx s 2=((⟨#[112,114,102,109]⟩:ByteArray),true,true):=by unfold bx;rw [if_neg h12,if_neg (by decide),if_neg (by decide),if_pos ⟨rfl,s3⟩]
   have b3:(s==3)=true:=by simpa using s3
   simp only [go_sem,h1,h2,b3,e,bB]
  ·have e:bx s 2=((⟨#[108,100,114,115]⟩:ByteArray)++ae s [(⟨#[98]⟩:ByteArray),(⟨#[104]⟩:ByteArray),(⟨#[119]⟩:ByteArray)],true,true):=by unfold bx;rw [if_neg h12,if_neg (by decide),if_neg (by decide),if_neg (fun h=>s3 h.2),if_pos rfl]
   have b3:(s==3)=false:=by simpa using s3
   simp only [go_sem,h1,h2,b3,dJ,dI,bU,bW,bu,aC,aH,bm,z3,m2,e,bB]
 by_cases o3:o=3
 ·subst o3
  by_cases s2:s<2
  ·have e:bx s 3=((⟨#[108,100,114,115]⟩:ByteArray)++ae s [(⟨#[98]⟩:ByteArray),(⟨#[104]⟩:ByteArray)],true,false):=by unfold bx;rw [if_neg h12,if_neg (by decide),if_neg (by decide),if_neg (fun h=>absurd h.1 (by decide)),if_neg (by decide),if_pos ⟨rfl,s2⟩]
   simp only [go_sem,h1,h2,s2,dJ,dI,bU,bW,bu,aC,aH,bm,z3,m3,e,bB]
  ·have e:bx s 3=(emp,false,false):=by unfold bx;rw [if_neg h12,if_neg (by decide),if_neg (by decide),if_neg (fun h=>absurd h.1 (by decide)),if_neg (by decide),if_neg (fun h=>s2 h.2)]
   simp only [go_sem,h1,h2,s2,e,bB,emp]
 ·have e:bx s o=(emp,false,false):=by unfold bx;rw [if_neg h12,if_neg o0,if_neg o1,if_neg (fun h=>o2 h.1),if_neg o2,if_neg (fun h=>o3 h.1)]
  have c0:(o==0)=false:=by simpa using o0
  have c1:(o==1)=false:=by simpa using o1
  have c2:(o==2)=false:=by simpa using o2
  have c3:(o==3)=false:=by simpa using o3
  simp only [go_sem,h1,h2,c0,c1,c2,c3,e,bB,emp]
def bq:aJ Tryz.prog 14 :=
 mk2 _ _ _ Tryz.func14 rfl (fun _ _=>by go_simp) (ao .i64) (ao .i64) ((fun _ _=>True)) ((fun s o=>.ret (bB (bx s o)))) (by rw [Tryz.ntmps14];decide) (fun s o _=>uA s o)
theorem aQ {id:Nat} {h:am} {args:List AV}:(bq).run id h args=aY (bT (ao .i64) (ao .i64) ((fun _ _=>True))) (fun x=>((fun s o=>.ret (bB (bx s o)))) x.1 x.2) h args:=rfl
theorem aR {id:Nat} {h:am} {args:List AV}:(bq).pan id h args=aZ (bT (ao .i64) (ao .i64) ((fun _ _=>True))) (fun x=>((fun s o=>.ret (bB (bx s o)))) x.1 x.2) h args:=rfl
def lq (n r:ByteArray):ByteArray:=if n=(⟨#[112,114,102,109]⟩:ByteArray) then (⟨#[112,114,102]⟩:ByteArray)++r.extract 0 (r.size-1)++(⟨#[109]⟩:ByteArray) else n.extract 0 2++r++n.extract 3 n.size
def nq:aJ Tryz.prog 143 :=
 mk2 _ _ _ Tryz.func143 rfl (fun _ _=>by go_simp) (lH) (lH) ((fun n r=>(3≤n.size∧n.size≤5)∧r.size=2)) ((fun n r=>.ret (sv (lq n r)))) (by rw [Tryz.ntmps143];decide) (fun n r h=>by
 refine aa (ctx:=[]) 4000 ?_
 rw [Tryz.ntmps143,Tryz.results143]
 simp only [Tryz.f143,Option.getD_some,ag]
 obtain ⟨⟨h3,h5⟩,hr⟩:=h
 by_cases hp:n=(⟨#[112,114,102,109]⟩:ByteArray)
 ·have e:lq n r=(⟨#[112,114,102]⟩:ByteArray)++r.extract 0 1++(⟨#[109]⟩:ByteArray):=by unfold lq;rw [if_pos hp,hr]
  have z0:(r.extract 0 1).size=1:=by rw [ByteArray.size_extract];omega
  have z1:((⟨#[112,114,102]⟩:ByteArray)).size=3:=rfl
  have z2:((⟨#[109]⟩:ByteArray)).size=1:=rfl
  have m1:3+1≤maxLen:=by unfold maxLen;omega
  have m2:3+1+1≤maxLen:=by unfold maxLen;omega
  have w1:IntKind.i64.wrap ((2:Int)-1)=1:=by decide
  have w2:IntKind.i64.wrap 1=1:=by decide
  have i1:((2:Nat):Int)=2:=rfl
  simp only [go_sem,eq_true hp,e,hr,i1,w1,w2,ByteArray.size_append,z0,z1,z2,m1,m2]
 ·have e:lq n r=n.extract 0 2++r++n.extract 3 n.size:=by unfold lq;rw [if_neg hp]
  have i2:(2:Int)≤(n.size:Int):=by omega
  have i3:(3:Int)≤(n.size:Int):=by omega
  have n2:2≤n.size:=by omega
  have z2:(n.extract 0 2).size=2:=by rw [ByteArray.size_extract];omega
  have z4:(n.extract 3 n.size).size=n.size-3:=by rw [ByteArray.size_extract];omega
  have m3:2+2≤maxLen:=by unfold maxLen;omega
  have m4:2+2+(n.size-3)≤maxLen:=by unfold maxLen;omega
  simp only [go_sem,hp]
  refine aP (ctx:=[]) ak [] (by kernel_rfl) ?_
  simp only [go_sem,e,i2,i3,n2,h3,hr,ByteArray.size_append,z2,z4,m3,m4])
theorem jp {id:Nat} {h:am} {args:List AV}:(nq).run id h args=aY (bT (lH) (lH) ((fun n r=>(3≤n.size∧n.size≤5)∧r.size=2))) (fun x=>((fun n r=>.ret (sv (lq n r)))) x.1 x.2) h args:=rfl
theorem jo {id:Nat} {h:am} {args:List AV}:(nq).pan id h args=aZ (bT (lH) (lH) ((fun n r=>(3≤n.size∧n.size≤5)∧r.size=2))) (fun x=>((fun n r=>.ret (sv (lq n r)))) x.1 x.2) h args:=rfl
def shF (x:Ins):OpV:=if ¬x.a=0∨¬x.c=0 then cw (ah x.rm x.x) (1+x.c) x.a else ah x.rm x.x
def iW:aJ Tryz.prog 88 :=
 mk1 _ _ _ Tryz.func88 rfl (fun _ _=>by go_simp) (ai ac) ((fun x=>0≤x.c∧x.c≤7)) ((fun x=>.ret (opV (shF x)))) (by rw [Tryz.ntmps88];decide) (fun x h=>by
 refine aa (ctx:=[⟨_,aB⟩,⟨_,fG⟩]) 4000 ?_
 rw [Tryz.ntmps88,Tryz.results88]
 simp only [Tryz.f88,Option.getD_some,ag]
 have w:IntKind.i64.wrap (1+x.c)=1+x.c:=by rw [IntKind.wrap_i64];omega
 by_cases ha:x.a=0
 ·have b1:(x.a !=0)=false:=by simpa using ha
  by_cases hc:x.c=0
  ·have b2:(x.c !=0)=false:=by simpa using hc
   have e:shF x=ah x.rm x.x:=by unfold shF;rw [if_neg (by omega)]
   simp only [go_sem,ac,b1,b2,e,dX,d7,opV,opR,opE,ah,op0,r0,emp]
  ·have b2:(x.c !=0)=true:=by simpa using hc
   have e:shF x=cw (ah x.rm x.x) (1+x.c) x.a:=by unfold shF;rw [if_pos (by omega)]
   simp only [go_sem,ac,b1,b2,e,w,dX,d7,eD,eB,opV,opR,opE,ah,cw,op0,r0,emp]
 ·have b1:(x.a !=0)=true:=by simpa using ha
  have e:shF x=cw (ah x.rm x.x) (1+x.c) x.a:=by unfold shF;rw [if_pos (by omega)]
  simp only [go_sem,ac,b1,e,w,dX,d7,eD,eB,opV,opR,opE,ah,cw,op0,r0,emp])
theorem iA {id:Nat} {h:am} {args:List AV}:(iW).run id h args=aY (au (ai ac) ((fun x=>0≤x.c∧x.c≤7))) ((fun x=>.ret (opV (shF x)))) h args:=rfl
theorem iD {id:Nat} {h:am} {args:List AV}:(iW).pan id h args=aZ (au (ai ac) ((fun x=>0≤x.c∧x.c≤7))) ((fun x=>.ret (opV (shF x)))) h args:=rfl
def iZ:aJ Tryz.prog 90 :=
 mk1 _ _ _ Tryz.func90 rfl (fun _ _=>by go_simp) (ai ac) ((fun x=>0≤x.c∧x.c≤7)) ((fun x=>.ret (opV (dK x)))) (by rw [Tryz.ntmps90];decide) (fun x h=>by
 refine aa (ctx:=[⟨_,aB⟩,⟨_,fG⟩]) 4000 ?_
 rw [Tryz.ntmps90,Tryz.results90]
 simp only [Tryz.f90,Option.getD_some,ag]
 have w:IntKind.i64.wrap (5+x.c)=5+x.c:=by rw [IntKind.wrap_i64];omega
 have t4:x.c.tmod 4=x.c % 4:=Int.tmod_eq_emod_of_nonneg h.1
 have e2:=bH (x.c % 4) 3
 simp only [go_sem,ac]
 refine aP (ctx:=[⟨_,aB⟩,⟨_,fG⟩]) ak [13] (by kernel_rfl) ?_
 simp only [go_sem,ac,w,t4,e2,dX,d7,eD,eB,opV,dK,opR,opE,ah,cw,op0,r0,emp])
theorem jf {id:Nat} {h:am} {args:List AV}:(iZ).run id h args=aY (au (ai ac) ((fun x=>0≤x.c∧x.c≤7))) ((fun x=>.ret (opV (dK x)))) h args:=rfl
theorem jg {id:Nat} {h:am} {args:List AV}:(iZ).pan id h args=aZ (au (ai ac) ((fun x=>0≤x.c∧x.c≤7))) ((fun x=>.ret (opV (dK x)))) h args:=rfl
def Jj:Ty Unit where
 dec:=fun | .s (.l (.v (.slice none 0 0)))=>some () | _=>none
 enc:=fun _=>.s (.l (.v (.slice none 0 0)))
 ok:=by
  intro A x h ρ al v hr
  split at h
  ·exact hr
  ·cases h
def u4:aJ Tryz.prog 82 :=
 mk2 _ _ _ Tryz.func82 rfl (fun _ _=>by go_simp) (lH) (Jj) ((fun _ _=>True)) ((fun s _=>.ret (aj (s,[])))) (by rw [Tryz.ntmps82];decide) (fun s _ _=>by
 refine SW.wk ?_ (Wk.nilD (s:=⟨_,_,_⟩) 1 15 rfl)
 refine aa (ctx:=[]) 4000 ?_
 rw [Tryz.ntmps82,Tryz.results82]
 simp only [Tryz.f82,Option.getD_some,ag]
 simp only [go_sem,aj])
theorem zM {id:Nat} {h:am} {args:List AV}:(u4).run id h args=aY (bT (lH) (Jj) ((fun _ _=>True))) (fun x=>((fun s _=>.ret (aj (s,[])))) x.1 x.2) h args:=rfl
theorem xL {id:Nat} {h:am} {args:List AV}:(u4).pan id h args=aZ (bT (lH) (Jj) ((fun _ _=>True))) (fun x=>((fun s _=>.ret (aj (s,[])))) x.1 x.2) h args:=rfl
end
end Go.Proofs.YtpjlafmhoifkmaaGreat
