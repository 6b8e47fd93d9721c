import Derived.Test.YtnhbidpdadkcjaaGreatDoorJ13
import Derived.Test.YtnhbidpdadkcjaaGreatDoorJ17
set_option linter.unusedVariables false
set_option linter.unusedSimpArgs false
set_option maxRecDepth 100000
set_option maxHeartbeats 8000000
namespace Go.Proofs.YtnhbidpdadkcjaaGreatDoor
open Go.RowKit
abbrev yp (l:List ByteArray):AV:=.s (.l (.d (.sd 1 (l.map dQ.enc))))
def ut:bi Tryz.prog 246 :=
 mk4 _ _ _ Tryz.func246 rfl (fun _ _=>by go_simp) (bx) (bx) (bq .i64) (bq .i64) ((fun s p a n=>p.size=1∧s.size≤1099511627776∧a=0∧n = -1)) ((fun s p _ _=>.ret (yp (dz s p)))) (by rw [Tryz.ntmps246];decide) (fun s p a n h=>by
 obtain ⟨h1,h2,rfl,rfl⟩:=h
 exact Cm s p h1 h2)
theorem AR {id:Nat} {h:ah} {args:List AV}:(ut).run id h args=bT (y8 (bx) (bx) (bq .i64) (bq .i64) ((fun s p a n=>p.size=1∧s.size≤1099511627776∧a=0∧n = -1))) (fun x=>((fun s p _ _=>.ret (yp (dz s p)))) x.1 x.2.1 x.2.2.1 x.2.2.2) h args:=rfl
theorem AQ {id:Nat} {h:ah} {args:List AV}:(ut).pan id h args=bU (y8 (bx) (bx) (bq .i64) (bq .i64) ((fun s p a n=>p.size=1∧s.size≤1099511627776∧a=0∧n = -1))) (fun x=>((fun s p _ _=>.ret (yp (dz s p)))) x.1 x.2.1 x.2.2.1 x.2.2.2) h args:=rfl
def FC:bi Tryz.prog 228 :=
 mk2 _ _ _ Tryz.func228 rfl (fun _ _=>by go_simp) (bx) (bx) ((fun s p=>p.size=1∧s.size≤1099511627776)) ((fun s p=>.ret (yp (dz s p)))) (by rw [Tryz.ntmps228];decide) (fun s p h=>by
 refine aa (ctx:=[⟨_,ut⟩]) 4000 ?_
 rw [Tryz.ntmps228,Tryz.results228]
 simp only [Tryz.f228,Option.getD_some,aC]
 simp only [go_sem,AR,AQ,h.1,h.2]
 rfl)
theorem zU {id:Nat} {h:ah} {args:List AV}:(FC).run id h args=bT (cg (bx) (bx) ((fun s p=>p.size=1∧s.size≤1099511627776))) (fun x=>((fun s p=>.ret (yp (dz s p)))) x.1 x.2) h args:=rfl
theorem zT {id:Nat} {h:ah} {args:List AV}:(FC).pan id h args=bU (cg (bx) (bx) ((fun s p=>p.size=1∧s.size≤1099511627776))) (fun x=>((fun s p=>.ret (yp (dz s p)))) x.1 x.2) h args:=rfl
theorem or_i64 (i:Nat) (x y:Int) (h0:0≤x) (h1:x<4611686018427387904) (y0:0≤y) (y1:y<2 ^ i) (y2:y<4611686018427387904):bits .or .i64 (x*2 ^ i) y=x*2 ^ i+y∨4611686018427387904≤x*2 ^ i:=by
 by_cases hx:x*2 ^ i<4611686018427387904
 ·refine .inl (bits_join .i64 62 (by decide) (fun n h0 h1=>by rw [IntKind.wrap_i64];omega) i (x*2 ^ i) y ?_ (Int.mul_emod_left x (2 ^ i)) hx y0 y1 y2)
  exact Int.mul_nonneg h0 (Int.le_of_lt (Int.pow_pos (by decide)))
 ·exact .inr (by omega)
def nt:Option Int→AV
 | some n=>.tup [.l (.v (.int .i64 n)),.l (.v (.bool true))]
 | none=>.tup [.l (.v (.int .i64 0)),.l (.v (.bool false))]
def nW:Blk:=⟨true,227,5,[[.v (.string ⟨#[115]⟩),.v (.string ⟨#[]⟩),.v (.string ⟨#[99]⟩),.v (.string ⟨#[99]⟩),.v (.string ⟨#[]⟩)]]⟩
def nV:Blk:=⟨true,228,5,[[.v (.int .i64 3),.v (.int .i64 7),.v (.int .i64 15),.v (.int .i64 15),.v (.int .i64 7)]]⟩
def nX:Blk:=⟨true,228,5,[[.v (.int .i64 1),.v (.int .i64 3),.v (.int .i64 4),.v (.int .i64 4),.v (.int .i64 3)]]⟩
theorem Ju (s:ByteArray) (hs:s.size≤1099511627776):SW Tryz.prog ⟨none,0⟩ Tryz.f189.ntmps (Tryz.f189.body.getD .skip) ⟨0,aC 0 [bx.enc s],[]⟩ (es Tryz.prog Tryz.f189.results.toList (.ret (nt (uR 3 s)))):=by
 refine aa (ctx:=[⟨_,FC⟩,⟨_,Kq⟩,⟨_,Kx⟩]) 4000 ?_
 rw [Tryz.ntmps189,Tryz.results189]
 simp only [Tryz.f189,Option.getD_some,aC]
 have hu:us.size=1:=rfl
 obtain ⟨l,hl⟩:∃ l,dz s ⟨#[95]⟩=l:=⟨_,rfl⟩
 have hF:uR 3 s=if l.length=5 then qJ 3 l 5 else none:=by unfold uR;rw [show dz s us=l from hl]
 by_cases h5:l.length=5
 ·have h5I:(l.length:Int)=5:=by omega
  rw [if_pos h5] at hF
  simp only [go_sem,zU,zT,show (⟨#[95]⟩:ByteArray).size=1 from rfl,hs,hl,h5,h5I,List.length_map]
  refine cW (ι:=Nat×Int) (fun x=>x.1≤5∧qJ 3 l x.1=some x.2) (fun x=>⟨3,[(5,pv 0 0 0),(6,pv 1 0 0),(7,pv 2 0 0),(8,iv x.2),(23,yp l),(24,iv 5),(25,iv x.1)],[(0,some nW),(1,some nV),(2,some nX)]⟩) (fun x=>5-x.1) (0,0) ⟨by simp,rfl⟩ ?_ ?_
  ·exact Wk.renL [144,192,240] (by simp) (by simp) (by simp) rfl rfl
  ·rintro ⟨i,n⟩ ⟨hi,hn⟩
   simp only at hi hn
   refine aa (ctx:=[⟨_,Kq⟩,⟨_,Kx⟩]) 4000 ?_
   have hnb:=yv hi hn
   by_cases hlt:i<5
   ·obtain ⟨w,hw⟩:∃ w,l[i]? = some w:=⟨_,List.getElem?_eq_getElem (by omega)⟩
    have hfail:dj 3 i n w=none→uR 3 s=none:=fun h=>by
     rw [hF]
     refine Jt (i:=i+1) ?_ hlt
     rw [qJ,hn,hw]
     exact h
    have hok:∀ m,dj 3 i n w=some m→qJ 3 l (i+1)=some m:=fun m h=>by
     rw [qJ,hn,hw]
     exact h
    have hcase:i=0∨i=1∨i=2∨i=3∨i=4:=by omega
    rcases hcase with rfl | rfl | rfl | rfl | rfl
    ·rcases hc:nB w ⟨#[115]⟩ with ⟨r,_ | _⟩
     ·have hn0:=hfail (by unfold dj;rw [if_neg];intro h;rw [show dW.getD 0 emp=⟨#[115]⟩ from rfl,hc] at h;exact absurd h.1 (by simp))
      rcases hd:iE 3 r 3 with ⟨d,b⟩
      simp only [go_sem,dC,dB,dE,dD,ja,gR,hw,nW,nV,nX,hc,hd,hn0,nt]
     ·rcases hd:iE 3 r 3 with ⟨d,_ | _⟩
      ·have hn0:=hfail (by unfold dj;rw [if_neg];intro h;rw [show dW.getD 0 emp=⟨#[115]⟩ from rfl,hc,show iO.getD 0 0=3 from rfl,hd] at h;exact absurd h.2.1 (by simp))
       simp only [go_sem,dC,dB,dE,dD,ja,gR,hw,nW,nV,nX,hc,hd,hn0,nt]
      ·have hdr:=iJ (lim:=3) (s:=r) (most:=3) (by rw [hd])
       rw [hd] at hdr
       simp only at hdr
       have ew:IntKind.i64.wrap (d-2)=d-2:=by rw [IntKind.wrap_i64];omega
       by_cases hv:0≤d-2
       ·have hs1:=hok (n*2 ^ 1+(d-2)) (by unfold dj;rw [show dW.getD 0 emp=⟨#[115]⟩ from rfl,hc,show iO.getD 0 0=3 from rfl,hd,if_pos ⟨rfl,rfl,hv⟩];rfl)
        have hv':¬d-2<0:=by omega
        have eb:IntKind.i64.wrap (n*2 ^ min 1 64)=n*2 ^ 1:=by
         rw [show min (1:Nat) 64=1 from rfl,IntKind.wrap_i64]
         simp at hnb ⊢
         omega
        have eo:bits .or .i64 (n*2 ^ 1) (d-2)=n*2 ^ 1+(d-2):=by
         simp at hnb
         rcases or_i64 1 n (d-2) hnb.1 (by omega) hv (by simp;omega) (by omega) with h | h
         ·exact h
         ·simp at h;omega
        simp only [go_sem,dC,dB,dE,dD,ja,gR,hw,nW,nV,nX,hc,hd,hv',ew,eb,eo]
        exact ⟨(1,_),⟨by simp,hs1⟩,by simp,Wk.renL [0,1,2] (by simp) (by simp) (by simp) rfl rfl⟩
       ·have hn0:=hfail (by unfold dj;rw [if_neg];intro h;rw [show dW.getD 0 emp=⟨#[115]⟩ from rfl,hc,show iO.getD 0 0=3 from rfl,hd] at h;exact hv h.2.2)
        have hv':d-2<0:=by omega
        simp only [go_sem,dC,dB,dE,dD,ja,gR,hw,nW,nV,nX,hc,hd,hv',ew,hn0,nt]
    ·rcases hc:nB w ⟨#[]⟩ with ⟨r,_ | _⟩
     ·have hn0:=hfail (by unfold dj;rw [if_neg];intro h;rw [show dW.getD 1 emp=⟨#[]⟩ from rfl,hc] at h;exact absurd h.1 (by simp))
      rcases hd:iE 3 r 7 with ⟨d,b⟩
      simp only [go_sem,dC,dB,dE,dD,ja,gR,hw,nW,nV,nX,hc,hd,hn0,nt]
     ·rcases hd:iE 3 r 7 with ⟨d,_ | _⟩
      ·have hn0:=hfail (by unfold dj;rw [if_neg];intro h;rw [show dW.getD 1 emp=⟨#[]⟩ from rfl,hc,show iO.getD 1 0=7 from rfl,hd] at h;exact absurd h.2.1 (by simp))
       simp only [go_sem,dC,dB,dE,dD,ja,gR,hw,nW,nV,nX,hc,hd,hn0,nt]
      ·have hdr:=iJ (lim:=3) (s:=r) (most:=7) (by rw [hd])
       rw [hd] at hdr
       simp only at hdr
       by_cases hv:0≤d
       ·have hs1:=hok (n*2 ^ 3+(d)) (by unfold dj;rw [show dW.getD 1 emp=⟨#[]⟩ from rfl,hc,show iO.getD 1 0=7 from rfl,hd,if_pos ⟨rfl,rfl,hv⟩];rfl)
        have hv':¬d<0:=by omega
        have eb:IntKind.i64.wrap (n*2 ^ min 3 64)=n*2 ^ 3:=by
         rw [show min (3:Nat) 64=3 from rfl,IntKind.wrap_i64]
         simp at hnb ⊢
         omega
        have eo:bits .or .i64 (n*2 ^ 3) (d)=n*2 ^ 3+(d):=by
         simp at hnb
         rcases or_i64 3 n (d) hnb.1 (by omega) hv (by simp;omega) (by omega) with h | h
         ·exact h
         ·simp at h;omega
        simp only [go_sem,dC,dB,dE,dD,ja,gR,hw,nW,nV,nX,hc,hd,hv',eb,eo]
        exact ⟨(2,_),⟨by simp,hs1⟩,by simp,Wk.renL [0,1,2] (by simp) (by simp) (by simp) rfl rfl⟩
       ·have hn0:=hfail (by unfold dj;rw [if_neg];intro h;rw [show dW.getD 1 emp=⟨#[]⟩ from rfl,hc,show iO.getD 1 0=7 from rfl,hd] at h;exact hv h.2.2)
        have hv':d<0:=by omega
        simp only [go_sem,dC,dB,dE,dD,ja,gR,hw,nW,nV,nX,hc,hd,hv',hn0,nt]
    ·rcases hc:nB w ⟨#[99]⟩ with ⟨r,_ | _⟩
     ·have hn0:=hfail (by unfold dj;rw [if_neg];intro h;rw [show dW.getD 2 emp=⟨#[99]⟩ from rfl,hc] at h;exact absurd h.1 (by simp))
      rcases hd:iE 3 r 15 with ⟨d,b⟩
      simp only [go_sem,dC,dB,dE,dD,ja,gR,hw,nW,nV,nX,hc,hd,hn0,nt]
     ·rcases hd:iE 3 r 15 with ⟨d,_ | _⟩
      ·have hn0:=hfail (by unfold dj;rw [if_neg];intro h;rw [show dW.getD 2 emp=⟨#[99]⟩ from rfl,hc,show iO.getD 2 0=15 from rfl,hd] at h;exact absurd h.2.1 (by simp))
       simp only [go_sem,dC,dB,dE,dD,ja,gR,hw,nW,nV,nX,hc,hd,hn0,nt]
      ·have hdr:=iJ (lim:=3) (s:=r) (most:=15) (by rw [hd])
       rw [hd] at hdr
       simp only at hdr
       by_cases hv:0≤d
       ·have hs1:=hok (n*2 ^ 4+(d)) (by unfold dj;rw [show dW.getD 2 emp=⟨#[99]⟩ from rfl,hc,show iO.getD 2 0=15 from rfl,hd,if_pos ⟨rfl,rfl,hv⟩];rfl)
        have hv':¬d<0:=by omega
        have eb:IntKind.i64.wrap (n*2 ^ min 4 64)=n*2 ^ 4:=by
         rw [show min (4:Nat) 64=4 from rfl,IntKind.wrap_i64]
         simp at hnb ⊢
         omega
        have eo:bits .or .i64 (n*2 ^ 4) (d)=n*2 ^ 4+(d):=by
         simp at hnb
         rcases or_i64 4 n (d) hnb.1 (by omega) hv (by simp;omega) (by omega) with h | h
         ·exact h
         ·simp at h;omega
        simp only [go_sem,dC,dB,dE,dD,ja,gR,hw,nW,nV,nX,hc,hd,hv',eb,eo]
        exact ⟨(3,_),⟨by simp,hs1⟩,by simp,Wk.renL [0,1,2] (by simp) (by simp) (by simp) rfl rfl⟩
       ·have hn0:=hfail (by unfold dj;rw [if_neg];intro h;rw [show dW.getD 2 emp=⟨#[99]⟩ from rfl,hc,show iO.getD 2 0=15 from rfl,hd] at h;exact hv h.2.2)
        have hv':d<0:=by omega
        simp only [go_sem,dC,dB,dE,dD,ja,gR,hw,nW,nV,nX,hc,hd,hv',hn0,nt]
    ·rcases hc:nB w ⟨#[99]⟩ with ⟨r,_ | _⟩
     ·have hn0:=hfail (by unfold dj;rw [if_neg];intro h;rw [show dW.getD 3 emp=⟨#[99]⟩ from rfl,hc] at h;exact absurd h.1 (by simp))
      rcases hd:iE 3 r 15 with ⟨d,b⟩
      simp only [go_sem,dC,dB,dE,dD,ja,gR,hw,nW,nV,nX,hc,hd,hn0,nt]
     ·rcases hd:iE 3 r 15 with ⟨d,_ | _⟩
      ·have hn0:=hfail (by unfold dj;rw [if_neg];intro h;rw [show dW.getD 3 emp=⟨#[99]⟩ from rfl,hc,show iO.getD 3 0=15 from rfl,hd] at h;exact absurd h.2.1 (by simp))
       simp only [go_sem,dC,dB,dE,dD,ja,gR,hw,nW,nV,nX,hc,hd,hn0,nt]
      ·have hdr:=iJ (lim:=3) (s:=r) (most:=15) (by rw [hd])
       rw [hd] at hdr
       simp only at hdr
       by_cases hv:0≤d
       ·have hs1:=hok (n*2 ^ 4+(d)) (by unfold dj;rw [show dW.getD 3 emp=⟨#[99]⟩ from rfl,hc,show iO.getD 3 0=15 from rfl,hd,if_pos ⟨rfl,rfl,hv⟩];rfl)
        have hv':¬d<0:=by omega
        have eb:IntKind.i64.wrap (n*2 ^ min 4 64)=n*2 ^ 4:=by
         rw [show min (4:Nat) 64=4 from rfl,IntKind.wrap_i64]
         simp at hnb ⊢
         omega
        have eo:bits .or .i64 (n*2 ^ 4) (d)=n*2 ^ 4+(d):=by
         simp at hnb
         rcases or_i64 4 n (d) hnb.1 (by omega) hv (by simp;omega) (by omega) with h | h
         ·exact h
         ·simp at h;omega
        simp only [go_sem,dC,dB,dE,dD,ja,gR,hw,nW,nV,nX,hc,hd,hv',eb,eo]
        exact ⟨(4,_),⟨by simp,hs1⟩,by simp,Wk.renL [0,1,2] (by simp) (by simp) (by simp) rfl rfl⟩
       ·have hn0:=hfail (by unfold dj;rw [if_neg];intro h;rw [show dW.getD 3 emp=⟨#[99]⟩ from rfl,hc,show iO.getD 3 0=15 from rfl,hd] at h;exact hv h.2.2)
        have hv':d<0:=by omega
        simp only [go_sem,dC,dB,dE,dD,ja,gR,hw,nW,nV,nX,hc,hd,hv',hn0,nt]
    ·rcases hc:nB w ⟨#[]⟩ with ⟨r,_ | _⟩
     ·have hn0:=hfail (by unfold dj;rw [if_neg];intro h;rw [show dW.getD 4 emp=⟨#[]⟩ from rfl,hc] at h;exact absurd h.1 (by simp))
      rcases hd:iE 3 r 7 with ⟨d,b⟩
      simp only [go_sem,dC,dB,dE,dD,ja,gR,hw,nW,nV,nX,hc,hd,hn0,nt]
     ·rcases hd:iE 3 r 7 with ⟨d,_ | _⟩
      ·have hn0:=hfail (by unfold dj;rw [if_neg];intro h;rw [show dW.getD 4 emp=⟨#[]⟩ from rfl,hc,show iO.getD 4 0=7 from rfl,hd] at h;exact absurd h.2.1 (by simp))
       simp only [go_sem,dC,dB,dE,dD,ja,gR,hw,nW,nV,nX,hc,hd,hn0,nt]
      ·have hdr:=iJ (lim:=3) (s:=r) (most:=7) (by rw [hd])
       rw [hd] at hdr
       simp only at hdr
       by_cases hv:0≤d
       ·have hs1:=hok (n*2 ^ 3+(d)) (by unfold dj;rw [show dW.getD 4 emp=⟨#[]⟩ from rfl,hc,show iO.getD 4 0=7 from rfl,hd,if_pos ⟨rfl,rfl,hv⟩];rfl)
        have hv':¬d<0:=by omega
        have eb:IntKind.i64.wrap (n*2 ^ min 3 64)=n*2 ^ 3:=by
         rw [show min (3:Nat) 64=3 from rfl,IntKind.wrap_i64]
         simp at hnb ⊢
         omega
        have eo:bits .or .i64 (n*2 ^ 3) (d)=n*2 ^ 3+(d):=by
         simp at hnb
         rcases or_i64 3 n (d) hnb.1 (by omega) hv (by simp;omega) (by omega) with h | h
         ·exact h
         ·simp at h;omega
        simp only [go_sem,dC,dB,dE,dD,ja,gR,hw,nW,nV,nX,hc,hd,hv',eb,eo]
        exact ⟨(5,_),⟨by simp,hs1⟩,by simp,Wk.renL [0,1,2] (by simp) (by simp) (by simp) rfl rfl⟩
       ·have hn0:=hfail (by unfold dj;rw [if_neg];intro h;rw [show dW.getD 4 emp=⟨#[]⟩ from rfl,hc,show iO.getD 4 0=7 from rfl,hd] at h;exact hv h.2.2)
        have hv':d<0:=by omega
        simp only [go_sem,dC,dB,dE,dD,ja,gR,hw,nW,nV,nX,hc,hd,hv',hn0,nt]
   ·obtain rfl:i=5:=by omega
    simp only [go_sem,hF,hn,nt]
 ·have h5I:¬(l.length:Int)=5:=by omega
  rw [if_neg h5] at hF
  simp only [go_sem,zU,zT,show (⟨#[95]⟩:ByteArray).size=1 from rfl,hs,hl,h5I,hF,nt,List.length_map]
def Sr:bi Tryz.prog 189 :=
 mk1 _ _ _ Tryz.func189 rfl (fun _ _=>by go_simp) (bx) ((fun s=>s.size≤1099511627776)) ((fun s=>.ret (nt (uR 3 s)))) (by rw [Tryz.ntmps189];decide) (fun s hs=>Ju s hs)
theorem GK {id:Nat} {h:ah} {args:List AV}:(Sr).run id h args=bT (ba (bx) ((fun s=>s.size≤1099511627776))) ((fun s=>.ret (nt (uR 3 s)))) h args:=rfl
theorem GJ {id:Nat} {h:ah} {args:List AV}:(Sr).pan id h args=bU (ba (bx) ((fun s=>s.size≤1099511627776))) ((fun s=>.ret (nt (uR 3 s)))) h args:=rfl
end Go.Proofs.YtnhbidpdadkcjaaGreatDoor
