import Derived.Test.YthcoegkfpinlfaaGreatDoorJ14
set_option linter.unusedVariables false
set_option linter.unusedSimpArgs false
set_option maxRecDepth 100000
set_option maxHeartbeats 8000000
namespace Go.Proofs.YthcoegkfpinlfaaGreatDoor
open Go.RowKit
def su:bq Tryz.prog 116 :=
 KP _ (fun _ _=>by go_simp) (bA .i64) (fun n=>0≤n∧n<1000) (fun n=>sv (dK n)) (fun _=>rfl) (fun n hn M w v _ hv=>by
  have hv':v=.int .i64 n:=hv
  subst hv'
  exact (Mg n w hn).mono fun e w' h=>⟨⟨_,h.1,rfl⟩,h.2⟩)
theorem nL {id:Nat} {h:ag} {args:List AV}:su.run id h args=bV (aI (bA .i64) (fun n=>0≤n∧n<1000)) (fun n=>.ret (sv (dK n))) h args:=rfl
theorem nK {id:Nat} {h:ag} {args:List AV}:su.pan id h args=ca (aI (bA .i64) (fun n=>0≤n∧n<1000)) (fun n=>.ret (sv (dK n))) h args:=rfl
def tens:ByteArray:=⟨#[48,49,50,51,52,53,54,55,56,57]⟩
theorem Qz:tens.size=10:=rfl
def JY:bq Tryz.prog 126 :=
 mk2 _ _ _ Tryz.func126 rfl (fun _ _=>by go_simp) (bh) (bA .i64) ((fun _ _=>True)) ((fun s m=>.ret (gF 3 s m))) (by rw [Tryz.ntmps126];decide) (fun s m _=>G7 s m)
theorem dc {id:Nat} {h:ag} {args:List AV}:(JY).run id h args=bV (cA (bh) (bA .i64) ((fun _ _=>True))) (fun x=>((fun s m=>.ret (gF 3 s m))) x.1 x.2) h args:=rfl
theorem db {id:Nat} {h:ag} {args:List AV}:(JY).pan id h args=ca (cA (bh) (bA .i64) ((fun _ _=>True))) (fun x=>((fun s m=>.ret (gF 3 s m))) x.1 x.2) h args:=rfl
def FP:bq Tryz.prog 55 :=
 mk2 _ _ _ Tryz.func55 rfl (fun _ _=>by go_simp) (bh) (bh) ((fun _ _=>True)) ((fun s p=>.ret (bv (gt s p)))) (by rw [Tryz.ntmps55];decide) (fun s p _=>by
 refine ab (ctx:=[]) 4000 ?_
 rw [Tryz.ntmps55,Tryz.results55]
 simp only [Tryz.f55,Option.getD_some,aw]
 by_cases h:p.size≤s.size
 ·have hI:(p.size:Int)≤s.size:=by omega
  by_cases h2:s.extract 0 p.size=p
  ·simp only [go_sem,hI,Int.toNat_zero,h2,gt,h]
  ·simp only [go_sem,hI,Int.toNat_zero,h2,gt,h]
 ·have hI:¬(p.size:Int)≤s.size:=by omega
  simp only [go_sem,hI,gt,h,Bool.false_and])
theorem vD {id:Nat} {h:ag} {args:List AV}:(FP).run id h args=bV (cA (bh) (bh) ((fun _ _=>True))) (fun x=>((fun s p=>.ret (bv (gt s p)))) x.1 x.2) h args:=rfl
theorem vC {id:Nat} {h:ag} {args:List AV}:(FP).pan id h args=ca (cA (bh) (bh) ((fun _ _=>True))) (fun x=>((fun s p=>.ret (bv (gt s p)))) x.1 x.2) h args:=rfl
def iF (s p:ByteArray):AV:=.tup [.l (.v (.string (kX s p).1)),.l (.v (.bool (kX s p).2))]
def JP:bq Tryz.prog 147 :=
 mk2 _ _ _ Tryz.func147 rfl (fun _ _=>by go_simp) (bh) (bh) ((fun _ _=>True)) ((fun s p=>.ret (iF s p))) (by rw [Tryz.ntmps147];decide) (fun s p _=>by
 refine ab (ctx:=[⟨_,FP⟩]) 4000 ?_
 rw [Tryz.ntmps147,Tryz.results147]
 simp only [Tryz.f147,Option.getD_some,aw]
 have hle:gt s p=true→(p.size:Int)≤s.size:=fun h=>by have:=Kn h;omega
 cases h:gt s p with
 | true =>
  have:=hle h
  simp only [go_sem,vD,vC,h,iF,kX]
  omega
 | false=>simp only [go_sem,vD,vC,h,iF,kX])
theorem JR {id:Nat} {h:ag} {args:List AV}:(JP).run id h args=bV (cA (bh) (bh) ((fun _ _=>True))) (fun x=>((fun s p=>.ret (iF s p))) x.1 x.2) h args:=rfl
theorem JQ {id:Nat} {h:ag} {args:List AV}:(JP).pan id h args=ca (cA (bh) (bh) ((fun _ _=>True))) (fun x=>((fun s p=>.ret (iF s p))) x.1 x.2) h args:=rfl
def JS:bq Tryz.prog 125 :=
 mk2 _ _ _ Tryz.func125 rfl (fun _ _=>by go_simp) (bh) (bh) ((fun _ _=>True)) ((fun s p=>.ret (iF s p))) (by rw [Tryz.ntmps125];decide) (fun s p _=>by
 refine ab (ctx:=[⟨_,JP⟩]) 4000 ?_
 rw [Tryz.ntmps125,Tryz.results125]
 simp only [Tryz.f125,Option.getD_some,aw]
 simp only [go_sem,JR,JQ,iF])
theorem da {id:Nat} {h:ag} {args:List AV}:(JS).run id h args=bV (cA (bh) (bh) ((fun _ _=>True))) (fun x=>((fun s p=>.ret (iF s p))) x.1 x.2) h args:=rfl
theorem cZ {id:Nat} {h:ag} {args:List AV}:(JS).pan id h args=ca (cA (bh) (bh) ((fun _ _=>True))) (fun x=>((fun s p=>.ret (iF s p))) x.1 x.2) h args:=rfl
def gk:mW hP where
 dec:=fun | [.v (.int .i64 n),.v (.bool x),.v (.bool p)]=>some ⟨n,x,p⟩ | _=>none
 enc:=fun r=>[.v (.int .i64 r.n),.v (.bool r.x),.v (.bool r.sp)]
 inv:=by
  intro c x h
  split at h
  ·injection h with h;subst h;rfl
  ·cases h
 back:=by intro x;rfl
def pP (r:hP×Int):AV:=.tup [.agg [.v (.int .i64 r.1.n),.v (.bool r.1.x),.v (.bool r.1.sp)],.l (.v (.int .i64 r.2))]
def eW (r:ByteArray×Int):AV:=.tup [.l (.v (.string r.1)),.l (.v (.int .i64 r.2))]
theorem P8 (s:ByteArray):SW Tryz.prog ⟨none,0⟩ Tryz.f68.ntmps (Tryz.f68.body.getD .skip) ⟨0,aw 0 [bh.enc s],[]⟩ (eK Tryz.prog Tryz.f68.results.toList (.ret (pP (fm 3 s)))):=by
 refine ab (ctx:=[⟨_,JS⟩,⟨_,JY⟩]) 4000 ?_
 rw [Tryz.ntmps68,Tryz.results68]
 simp only [Tryz.f68,Option.getD_some,aw]
 by_cases h1:s=⟨#[120,122,114]⟩
 ·have e:fm 3 s=(⟨31,true,false⟩,0):=by rw [h1];rfl
  simp only [go_sem,e,eq_true h1,pP]
 by_cases h2:s=⟨#[119,122,114]⟩
 ·have e:fm 3 s=(⟨31,false,false⟩,0):=by rw [h2];rfl
  simp only [go_sem,e,h1,eq_true h2,pP]
 by_cases h3:s=⟨#[115,112]⟩
 ·have e:fm 3 s=(⟨31,true,true⟩,0):=by rw [h3];rfl
  simp only [go_sem,e,h1,h2,eq_true h3,pP]
 by_cases h4:s=⟨#[119,115,112]⟩
 ·have e:fm 3 s=(⟨31,false,true⟩,0):=by rw [h4];rfl
  simp only [go_sem,e,h1,h2,h3,eq_true h4,pP]
 have hx:kX s ⟨#[120]⟩=if 0<s.size∧ac s 0=120 then (s.extract 1 s.size,true) else (s,false):=by
  unfold kX
  rw [show (⟨#[120]⟩:ByteArray)=aQ [120] from rfl,Km s 120 (by omega)]
  simp only [decide_eq_true_eq]
  rfl
 have hw:kX s ⟨#[119]⟩=if 0<s.size∧ac s 0=119 then (s.extract 1 s.size,true) else (s,false):=by
  unfold kX
  rw [show (⟨#[119]⟩:ByteArray)=aQ [119] from rfl,Km s 119 (by omega)]
  simp only [decide_eq_true_eq]
  rfl
 have e0:fm 3 s=if s.size=0∨¬(ac s 0=120∨ac s 0=119) then (⟨0,false,false⟩,30) else
   Co s (gZ 3 (s.extract 1 s.size) 30):=by
  unfold fm
  rw [if_neg (show ¬s=Qv from h1),if_neg (show ¬s=Qu from h2),if_neg (show ¬s=spS from h3),if_neg (show ¬s=Qt from h4)]
 by_cases hxx:0<s.size∧ac s 0=120
 ·rw [if_pos hxx] at hx
  rw [if_neg (by omega)] at e0
  rcases hd:gZ 3 (s.extract 1 s.size) 30 with ⟨n,_ | _⟩
  ·rw [hd,Co] at e0
   simp only [go_sem,h1,h2,h3,h4,da,cZ,dc,db,iF,gF,hx,hd,e0,pP]
  ·rw [hd,Co] at e0
   simp only [go_sem,h1,h2,h3,h4,da,cZ,dc,db,iF,gF,hx,hd,e0,pP,hxx.2]
 ·rw [if_neg hxx] at hx
  by_cases hww:0<s.size∧ac s 0=119
  ·rw [if_pos hww] at hw
   rw [if_neg (by omega)] at e0
   have hn:¬ac s 0=120:=by omega
   rcases hd:gZ 3 (s.extract 1 s.size) 30 with ⟨n,_ | _⟩
   ·rw [hd,Co] at e0
    simp only [go_sem,h1,h2,h3,h4,da,cZ,dc,db,iF,gF,hx,hw,hd,e0,pP]
   ·rw [hd,Co] at e0
    simp only [go_sem,h1,h2,h3,h4,da,cZ,dc,db,iF,gF,hx,hw,hd,e0,pP,hn]
  ·rw [if_neg hww] at hw
   rw [if_pos (by omega)] at e0
   simp only [go_sem,h1,h2,h3,h4,da,cZ,dc,db,iF,gF,hx,hw,e0,pP]
def Oc:bq Tryz.prog 68 :=
 mk1 _ _ _ Tryz.func68 rfl (fun _ _=>by go_simp) (bh) ((fun _=>True)) ((fun s=>.ret (pP (fm 3 s)))) (by rw [Tryz.ntmps68];decide) (fun s _=>P8 s)
theorem uJ {id:Nat} {h:ag} {args:List AV}:(Oc).run id h args=bV (aI (bh) ((fun _=>True))) ((fun s=>.ret (pP (fm 3 s)))) h args:=rfl
theorem uI {id:Nat} {h:ag} {args:List AV}:(Oc).pan id h args=ca (aI (bh) ((fun _=>True))) ((fun s=>.ret (pP (fm 3 s)))) h args:=rfl
end Go.Proofs.YthcoegkfpinlfaaGreatDoor
