import Derived.Test.YthcoegkfpinlfaaGreatDoorJ13
import Derived.Test.YthcoegkfpinlfaaGreatDoorJ18
set_option linter.unusedVariables false
set_option linter.unusedSimpArgs false
set_option maxRecDepth 100000
set_option maxHeartbeats 8000000
namespace Go.Proofs.YthcoegkfpinlfaaGreatDoor
open Go.RowKit
abbrev wU (l:List ByteArray):AV:=.s (.l (.d (.sd 1 (l.map um.enc))))
def sN:bq Tryz.prog 148 :=
 mk4 _ _ _ Tryz.func148 rfl (fun _ _=>by go_simp) (bh) (bh) (bA .i64) (bA .i64) ((fun s p a n=>p.size=1∧s.size≤1099511627776∧a=0∧n = -1)) ((fun s p _ _=>.ret (wU (cq s p)))) (by rw [Tryz.ntmps148];decide) (fun s p a n h=>by
 obtain ⟨h1,h2,rfl,rfl⟩:=h
 exact Bo s p h1 h2)
theorem zG {id:Nat} {h:ag} {args:List AV}:(sN).run id h args=bV (xD (bh) (bh) (bA .i64) (bA .i64) ((fun s p a n=>p.size=1∧s.size≤1099511627776∧a=0∧n = -1))) (fun x=>((fun s p _ _=>.ret (wU (cq s p)))) x.1 x.2.1 x.2.2.1 x.2.2.2) h args:=rfl
theorem zF {id:Nat} {h:ag} {args:List AV}:(sN).pan id h args=ca (xD (bh) (bh) (bA .i64) (bA .i64) ((fun s p a n=>p.size=1∧s.size≤1099511627776∧a=0∧n = -1))) (fun x=>((fun s p _ _=>.ret (wU (cq s p)))) x.1 x.2.1 x.2.2.1 x.2.2.2) h args:=rfl
def E2:bq Tryz.prog 128 :=
 mk2 _ _ _ Tryz.func128 rfl (fun _ _=>by go_simp) (bh) (bh) ((fun s p=>p.size=1∧s.size≤1099511627776)) ((fun s p=>.ret (wU (cq s p)))) (by rw [Tryz.ntmps128];decide) (fun s p h=>by
 refine ab (ctx:=[⟨_,sN⟩]) 4000 ?_
 rw [Tryz.ntmps128,Tryz.results128]
 simp only [Tryz.f128,Option.getD_some,aw]
 simp only [go_sem,zG,zF,h.1,h.2]
 rfl)
theorem yS {id:Nat} {h:ag} {args:List AV}:(E2).run id h args=bV (cA (bh) (bh) ((fun s p=>p.size=1∧s.size≤1099511627776))) (fun x=>((fun s p=>.ret (wU (cq s p)))) x.1 x.2) h args:=rfl
theorem yR {id:Nat} {h:ag} {args:List AV}:(E2).pan id h args=ca (cA (bh) (bh) ((fun s p=>p.size=1∧s.size≤1099511627776))) (fun x=>((fun s p=>.ret (wU (cq s p)))) x.1 x.2) h args:=rfl
theorem or_i64 (i:Nat) (x y:Int) (h0:0≤x) (h1:x<4611686018427387904) (y0:0≤y) (y1:y<2 ^ i) (y2:y<4611686018427387904):bits .or .i64 (x*2 ^ i) y=x*2 ^ i+y∨4611686018427387904≤x*2 ^ i:=by
 by_cases hx:x*2 ^ i<4611686018427387904
 ·refine .inl (bits_join .i64 62 (by decide) (fun n h0 h1=>by rw [IntKind.wrap_i64];omega) i (x*2 ^ i) y ?_ (Int.mul_emod_left x (2 ^ i)) hx y0 y1 y2)
  exact Int.mul_nonneg h0 (Int.le_of_lt (Int.pow_pos (by decide)))
 ·exact .inr (by omega)
def mf:Option Int→AV
 | some n=>.tup [.l (.v (.int .i64 n)),.l (.v (.bool true))]
 | none=>.tup [.l (.v (.int .i64 0)),.l (.v (.bool false))]
def mJ:Blk:=⟨true,145,5,[[.v (.string ⟨#[115]⟩),.v (.string ⟨#[]⟩),.v (.string ⟨#[99]⟩),.v (.string ⟨#[99]⟩),.v (.string ⟨#[]⟩)]]⟩
def mI:Blk:=⟨true,146,5,[[.v (.int .i64 3),.v (.int .i64 7),.v (.int .i64 15),.v (.int .i64 15),.v (.int .i64 7)]]⟩
def mK:Blk:=⟨true,146,5,[[.v (.int .i64 1),.v (.int .i64 3),.v (.int .i64 4),.v (.int .i64 4),.v (.int .i64 3)]]⟩
theorem IQ (s:ByteArray) (hs:s.size≤1099511627776):SW Tryz.prog ⟨none,0⟩ Tryz.f71.ntmps (Tryz.f71.body.getD .skip) ⟨0,aw 0 [bh.enc s],[]⟩ (eK Tryz.prog Tryz.f71.results.toList (.ret (mf (tn 3 s)))):=by
 refine ab (ctx:=[⟨_,E2⟩,⟨_,JS⟩,⟨_,JY⟩]) 4000 ?_
 rw [Tryz.ntmps71,Tryz.results71]
 simp only [Tryz.f71,Option.getD_some,aw]
 have hu:us.size=1:=rfl
 obtain ⟨l,hl⟩:∃ l,cq s ⟨#[95]⟩=l:=⟨_,rfl⟩
 have hF:tn 3 s=if l.length=5 then pU 3 l 5 else none:=by unfold tn;rw [show cq s us=l from hl]
 by_cases h5:l.length=5
 ·have h5I:(l.length:Int)=5:=by omega
  rw [if_pos h5] at hF
  simp only [go_sem,yS,yR,show (⟨#[95]⟩:ByteArray).size=1 from rfl,hs,hl,h5,h5I,List.length_map]
  refine dG (ι:=Nat×Int) (fun x=>x.1≤5∧pU 3 l x.1=some x.2) (fun x=>⟨3,[(5,pv 0 0 0),(6,pv 1 0 0),(7,pv 2 0 0),(8,iv x.2),(23,wU l),(24,iv 5),(25,iv x.1)],[(0,some mJ),(1,some mI),(2,some mK)]⟩) (fun x=>5-x.1) (0,0) ⟨by simp,rfl⟩ ?_ ?_
  ·exact Wk.renL [144,192,240] (by simp) (by simp) (by simp) rfl rfl
  ·rintro ⟨i,n⟩ ⟨hi,hn⟩
   simp only at hi hn
   refine ab (ctx:=[⟨_,JS⟩,⟨_,JY⟩]) 4000 ?_
   have hnb:=wY hi hn
   by_cases hlt:i<5
   ·obtain ⟨w,hw⟩:∃ w,l[i]? = some w:=⟨_,List.getElem?_eq_getElem (by omega)⟩
    have hfail:cK 3 i n w=none→tn 3 s=none:=fun h=>by
     rw [hF]
     refine IP (i:=i+1) ?_ hlt
     rw [pU,hn,hw]
     exact h
    have hok:∀ m,cK 3 i n w=some m→pU 3 l (i+1)=some m:=fun m h=>by
     rw [pU,hn,hw]
     exact h
    have hcase:i=0∨i=1∨i=2∨i=3∨i=4:=by omega
    rcases hcase with rfl | rfl | rfl | rfl | rfl
    ·rcases hc:kX w ⟨#[115]⟩ with ⟨r,_ | _⟩
     ·have hn0:=hfail (by unfold cK;rw [if_neg];intro h;rw [show dB.getD 0 emp=⟨#[115]⟩ from rfl,hc] at h;exact absurd h.1 (by simp))
      rcases hd:gZ 3 r 3 with ⟨d,b⟩
      simp only [go_sem,da,cZ,dc,db,iF,gF,hw,mJ,mI,mK,hc,hd,hn0,mf]
     ·rcases hd:gZ 3 r 3 with ⟨d,_ | _⟩
      ·have hn0:=hfail (by unfold cK;rw [if_neg];intro h;rw [show dB.getD 0 emp=⟨#[115]⟩ from rfl,hc,show il.getD 0 0=3 from rfl,hd] at h;exact absurd h.2.1 (by simp))
       simp only [go_sem,da,cZ,dc,db,iF,gF,hw,mJ,mI,mK,hc,hd,hn0,mf]
      ·have hdr:=ia (lim:=3) (s:=r) (most:=3) (by rw [hd])
       rw [hd] at hdr
       simp only at hdr
       have ew:IntKind.i64.wrap (d-2)=d-2:=by rw [IntKind.wrap_i64];omega
       by_cases hv:0≤d-2
       ·have hs1:=hok (n*2 ^ 1+(d-2)) (by unfold cK;rw [show dB.getD 0 emp=⟨#[115]⟩ from rfl,hc,show il.getD 0 0=3 from rfl,hd,if_pos ⟨rfl,rfl,hv⟩];rfl)
        have hv':¬d-2<0:=by omega
        have eb:IntKind.i64.wrap (n*2 ^ min 1 64)=n*2 ^ 1:=by
         rw [show min (1:Nat) 64=1 from rfl,IntKind.wrap_i64]
         simp at hnb ⊢
         omega
        have eo:bits .or .i64 (n*2 ^ 1) (d-2)=n*2 ^ 1+(d-2):=by
         simp at hnb
         rcases or_i64 1 n (d-2) hnb.1 (by omega) hv (by simp;omega) (by omega) with h | h
         ·exact h
         ·simp at h;omega
        simp only [go_sem,da,cZ,dc,db,iF,gF,hw,mJ,mI,mK,hc,hd,hv',ew,eb,eo]
        exact ⟨(1,_),⟨by simp,hs1⟩,by simp,Wk.renL [0,1,2] (by simp) (by simp) (by simp) rfl rfl⟩
       ·have hn0:=hfail (by unfold cK;rw [if_neg];intro h;rw [show dB.getD 0 emp=⟨#[115]⟩ from rfl,hc,show il.getD 0 0=3 from rfl,hd] at h;exact hv h.2.2)
        have hv':d-2<0:=by omega
        simp only [go_sem,da,cZ,dc,db,iF,gF,hw,mJ,mI,mK,hc,hd,hv',ew,hn0,mf]
    ·rcases hc:kX w ⟨#[]⟩ with ⟨r,_ | _⟩
     ·have hn0:=hfail (by unfold cK;rw [if_neg];intro h;rw [show dB.getD 1 emp=⟨#[]⟩ from rfl,hc] at h;exact absurd h.1 (by simp))
      rcases hd:gZ 3 r 7 with ⟨d,b⟩
      simp only [go_sem,da,cZ,dc,db,iF,gF,hw,mJ,mI,mK,hc,hd,hn0,mf]
     ·rcases hd:gZ 3 r 7 with ⟨d,_ | _⟩
      ·have hn0:=hfail (by unfold cK;rw [if_neg];intro h;rw [show dB.getD 1 emp=⟨#[]⟩ from rfl,hc,show il.getD 1 0=7 from rfl,hd] at h;exact absurd h.2.1 (by simp))
       simp only [go_sem,da,cZ,dc,db,iF,gF,hw,mJ,mI,mK,hc,hd,hn0,mf]
      ·have hdr:=ia (lim:=3) (s:=r) (most:=7) (by rw [hd])
       rw [hd] at hdr
       simp only at hdr
       by_cases hv:0≤d
       ·have hs1:=hok (n*2 ^ 3+(d)) (by unfold cK;rw [show dB.getD 1 emp=⟨#[]⟩ from rfl,hc,show il.getD 1 0=7 from rfl,hd,if_pos ⟨rfl,rfl,hv⟩];rfl)
        have hv':¬d<0:=by omega
        have eb:IntKind.i64.wrap (n*2 ^ min 3 64)=n*2 ^ 3:=by
         rw [show min (3:Nat) 64=3 from rfl,IntKind.wrap_i64]
         simp at hnb ⊢
         omega
        have eo:bits .or .i64 (n*2 ^ 3) (d)=n*2 ^ 3+(d):=by
         simp at hnb
         rcases or_i64 3 n (d) hnb.1 (by omega) hv (by simp;omega) (by omega) with h | h
         ·exact h
         ·simp at h;omega
        simp only [go_sem,da,cZ,dc,db,iF,gF,hw,mJ,mI,mK,hc,hd,hv',eb,eo]
        exact ⟨(2,_),⟨by simp,hs1⟩,by simp,Wk.renL [0,1,2] (by simp) (by simp) (by simp) rfl rfl⟩
       ·have hn0:=hfail (by unfold cK;rw [if_neg];intro h;rw [show dB.getD 1 emp=⟨#[]⟩ from rfl,hc,show il.getD 1 0=7 from rfl,hd] at h;exact hv h.2.2)
        have hv':d<0:=by omega
        simp only [go_sem,da,cZ,dc,db,iF,gF,hw,mJ,mI,mK,hc,hd,hv',hn0,mf]
    ·rcases hc:kX w ⟨#[99]⟩ with ⟨r,_ | _⟩
     ·have hn0:=hfail (by unfold cK;rw [if_neg];intro h;rw [show dB.getD 2 emp=⟨#[99]⟩ from rfl,hc] at h;exact absurd h.1 (by simp))
      rcases hd:gZ 3 r 15 with ⟨d,b⟩
      simp only [go_sem,da,cZ,dc,db,iF,gF,hw,mJ,mI,mK,hc,hd,hn0,mf]
     ·rcases hd:gZ 3 r 15 with ⟨d,_ | _⟩
      ·have hn0:=hfail (by unfold cK;rw [if_neg];intro h;rw [show dB.getD 2 emp=⟨#[99]⟩ from rfl,hc,show il.getD 2 0=15 from rfl,hd] at h;exact absurd h.2.1 (by simp))
       simp only [go_sem,da,cZ,dc,db,iF,gF,hw,mJ,mI,mK,hc,hd,hn0,mf]
      ·have hdr:=ia (lim:=3) (s:=r) (most:=15) (by rw [hd])
       rw [hd] at hdr
       simp only at hdr
       by_cases hv:0≤d
       ·have hs1:=hok (n*2 ^ 4+(d)) (by unfold cK;rw [show dB.getD 2 emp=⟨#[99]⟩ from rfl,hc,show il.getD 2 0=15 from rfl,hd,if_pos ⟨rfl,rfl,hv⟩];rfl)
        have hv':¬d<0:=by omega
        have eb:IntKind.i64.wrap (n*2 ^ min 4 64)=n*2 ^ 4:=by
         rw [show min (4:Nat) 64=4 from rfl,IntKind.wrap_i64]
         simp at hnb ⊢
         omega
        have eo:bits .or .i64 (n*2 ^ 4) (d)=n*2 ^ 4+(d):=by
         simp at hnb
         rcases or_i64 4 n (d) hnb.1 (by omega) hv (by simp;omega) (by omega) with h | h
         ·exact h
         ·simp at h;omega
        simp only [go_sem,da,cZ,dc,db,iF,gF,hw,mJ,mI,mK,hc,hd,hv',eb,eo]
        exact ⟨(3,_),⟨by simp,hs1⟩,by simp,Wk.renL [0,1,2] (by simp) (by simp) (by simp) rfl rfl⟩
       ·have hn0:=hfail (by unfold cK;rw [if_neg];intro h;rw [show dB.getD 2 emp=⟨#[99]⟩ from rfl,hc,show il.getD 2 0=15 from rfl,hd] at h;exact hv h.2.2)
        have hv':d<0:=by omega
        simp only [go_sem,da,cZ,dc,db,iF,gF,hw,mJ,mI,mK,hc,hd,hv',hn0,mf]
    ·rcases hc:kX w ⟨#[99]⟩ with ⟨r,_ | _⟩
     ·have hn0:=hfail (by unfold cK;rw [if_neg];intro h;rw [show dB.getD 3 emp=⟨#[99]⟩ from rfl,hc] at h;exact absurd h.1 (by simp))
      rcases hd:gZ 3 r 15 with ⟨d,b⟩
      simp only [go_sem,da,cZ,dc,db,iF,gF,hw,mJ,mI,mK,hc,hd,hn0,mf]
     ·rcases hd:gZ 3 r 15 with ⟨d,_ | _⟩
      ·have hn0:=hfail (by unfold cK;rw [if_neg];intro h;rw [show dB.getD 3 emp=⟨#[99]⟩ from rfl,hc,show il.getD 3 0=15 from rfl,hd] at h;exact absurd h.2.1 (by simp))
       simp only [go_sem,da,cZ,dc,db,iF,gF,hw,mJ,mI,mK,hc,hd,hn0,mf]
      ·have hdr:=ia (lim:=3) (s:=r) (most:=15) (by rw [hd])
       rw [hd] at hdr
       simp only at hdr
       by_cases hv:0≤d
       ·have hs1:=hok (n*2 ^ 4+(d)) (by unfold cK;rw [show dB.getD 3 emp=⟨#[99]⟩ from rfl,hc,show il.getD 3 0=15 from rfl,hd,if_pos ⟨rfl,rfl,hv⟩];rfl)
        have hv':¬d<0:=by omega
        have eb:IntKind.i64.wrap (n*2 ^ min 4 64)=n*2 ^ 4:=by
         rw [show min (4:Nat) 64=4 from rfl,IntKind.wrap_i64]
         simp at hnb ⊢
         omega
        have eo:bits .or .i64 (n*2 ^ 4) (d)=n*2 ^ 4+(d):=by
         simp at hnb
         rcases or_i64 4 n (d) hnb.1 (by omega) hv (by simp;omega) (by omega) with h | h
         ·exact h
         ·simp at h;omega
        simp only [go_sem,da,cZ,dc,db,iF,gF,hw,mJ,mI,mK,hc,hd,hv',eb,eo]
        exact ⟨(4,_),⟨by simp,hs1⟩,by simp,Wk.renL [0,1,2] (by simp) (by simp) (by simp) rfl rfl⟩
       ·have hn0:=hfail (by unfold cK;rw [if_neg];intro h;rw [show dB.getD 3 emp=⟨#[99]⟩ from rfl,hc,show il.getD 3 0=15 from rfl,hd] at h;exact hv h.2.2)
        have hv':d<0:=by omega
        simp only [go_sem,da,cZ,dc,db,iF,gF,hw,mJ,mI,mK,hc,hd,hv',hn0,mf]
    ·rcases hc:kX w ⟨#[]⟩ with ⟨r,_ | _⟩
     ·have hn0:=hfail (by unfold cK;rw [if_neg];intro h;rw [show dB.getD 4 emp=⟨#[]⟩ from rfl,hc] at h;exact absurd h.1 (by simp))
      rcases hd:gZ 3 r 7 with ⟨d,b⟩
      simp only [go_sem,da,cZ,dc,db,iF,gF,hw,mJ,mI,mK,hc,hd,hn0,mf]
     ·rcases hd:gZ 3 r 7 with ⟨d,_ | _⟩
      ·have hn0:=hfail (by unfold cK;rw [if_neg];intro h;rw [show dB.getD 4 emp=⟨#[]⟩ from rfl,hc,show il.getD 4 0=7 from rfl,hd] at h;exact absurd h.2.1 (by simp))
       simp only [go_sem,da,cZ,dc,db,iF,gF,hw,mJ,mI,mK,hc,hd,hn0,mf]
      ·have hdr:=ia (lim:=3) (s:=r) (most:=7) (by rw [hd])
       rw [hd] at hdr
       simp only at hdr
       by_cases hv:0≤d
       ·have hs1:=hok (n*2 ^ 3+(d)) (by unfold cK;rw [show dB.getD 4 emp=⟨#[]⟩ from rfl,hc,show il.getD 4 0=7 from rfl,hd,if_pos ⟨rfl,rfl,hv⟩];rfl)
        have hv':¬d<0:=by omega
        have eb:IntKind.i64.wrap (n*2 ^ min 3 64)=n*2 ^ 3:=by
         rw [show min (3:Nat) 64=3 from rfl,IntKind.wrap_i64]
         simp at hnb ⊢
         omega
        have eo:bits .or .i64 (n*2 ^ 3) (d)=n*2 ^ 3+(d):=by
         simp at hnb
         rcases or_i64 3 n (d) hnb.1 (by omega) hv (by simp;omega) (by omega) with h | h
         ·exact h
         ·simp at h;omega
        simp only [go_sem,da,cZ,dc,db,iF,gF,hw,mJ,mI,mK,hc,hd,hv',eb,eo]
        exact ⟨(5,_),⟨by simp,hs1⟩,by simp,Wk.renL [0,1,2] (by simp) (by simp) (by simp) rfl rfl⟩
       ·have hn0:=hfail (by unfold cK;rw [if_neg];intro h;rw [show dB.getD 4 emp=⟨#[]⟩ from rfl,hc,show il.getD 4 0=7 from rfl,hd] at h;exact hv h.2.2)
        have hv':d<0:=by omega
        simp only [go_sem,da,cZ,dc,db,iF,gF,hw,mJ,mI,mK,hc,hd,hv',hn0,mf]
   ·obtain rfl:i=5:=by omega
    simp only [go_sem,hF,hn,mf]
 ·have h5I:¬(l.length:Int)=5:=by omega
  rw [if_neg h5] at hF
  simp only [go_sem,yS,yR,show (⟨#[95]⟩:ByteArray).size=1 from rfl,hs,hl,h5I,hF,mf,List.length_map]
def Qh:bq Tryz.prog 71 :=
 mk1 _ _ _ Tryz.func71 rfl (fun _ _=>by go_simp) (bh) ((fun s=>s.size≤1099511627776)) ((fun s=>.ret (mf (tn 3 s)))) (by rw [Tryz.ntmps71];decide) (fun s hs=>IQ s hs)
theorem Gh {id:Nat} {h:ag} {args:List AV}:(Qh).run id h args=bV (aI (bh) ((fun s=>s.size≤1099511627776))) ((fun s=>.ret (mf (tn 3 s)))) h args:=rfl
theorem Gg {id:Nat} {h:ag} {args:List AV}:(Qh).pan id h args=ca (aI (bh) ((fun s=>s.size≤1099511627776))) ((fun s=>.ret (mf (tn 3 s)))) h args:=rfl
end Go.Proofs.YthcoegkfpinlfaaGreatDoor
