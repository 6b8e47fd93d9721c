import Derived.Test.YthcoegkfpinlfaaGreatDoorO30
import Derived.Test.YthcoegkfpinlfaaGreatDoorO31
set_option linter.unusedVariables false
set_option linter.unusedSimpArgs false
set_option maxRecDepth 100000
set_option maxHeartbeats 8000000
namespace Go.Proofs.YthcoegkfpinlfaaGreatDoor
open Go.RowKit
def Oa:cK Tryz.prog 42:=mk1C _ (fun _ _=>by go_simp) (cB DB) lS (fun v=>cv (Ex.printF v)) (fun _=>rfl) fun x hs M w v hM hv=>by
 obtain ⟨cs,rfl,h1⟩:=hv
 match cs,h1 with
 | [a,b,c],⟨_,e1,_,e2,_,e3,_⟩ =>
  obtain rfl:a=.int .i64 x.add:=e1
  obtain rfl:b=.string x.plus:=e2
  obtain rfl:c=.string x.minus:=e3
  refine (Ex.rprint_any x.add x.plus x.minus w hs.1 hs.2.1 hs.2.2.1 hs.2.2.2).mono fun e w' h=>?_
  obtain ⟨s,y,h1,h2,h3⟩:=h
  have h1':Ex.printF x=(s,y):=h1
  refine ⟨⟨_,h2,[.string s,.int .i64 y],rfl,?_,?_,trivial⟩,h3⟩
  ·rw [h1'];rfl
  ·rw [h1'];rfl
theorem cx {id:Nat} {h:aF} {args:List AV}:Oa.run id h args=be (aV (cB DB) lS) (fun v=>.ret (cv (Ex.printF v))) h args:=rfl
theorem cw {h:aF} {id:Nat} {args:List AV}:Oa.pan id h args=bi (aV (cB DB) lS) (fun v=>.ret (cv (Ex.printF v))) h args:=rfl
theorem sw {o:OpV} (h:mL o=false):Ky o=100:=by unfold Ky;rw [if_pos (.inl h)]
theorem KR {o:OpV} (h:¬dU o=o):Ky o=100:=by unfold Ky;rw [if_pos (.inr h)]
theorem KW {o:OpV} (h:mL o=true) (h0:dU o=o) (h1:¬(prO o).2=0):Ky o=(prO o).2:=by unfold Ky;rw [if_neg (by rw [h];simp [h0]),if_pos h1]
theorem chkR_rs {o:OpV} (h:mL o=true) (h0:dU o=o) (h1:(prO o).2=0) (h3:o.kind=3) (h4:(!decide (o.val.plus=emp)&&mB 3 o.val.plus)=true):Ky o=100:=by
 unfold Ky
 rw [if_neg (by rw [h];simp [h0]),if_neg (by simp [h1]),if_pos]
 simp only [Bool.and_eq_true,Bool.not_eq_true',decide_eq_false_iff_not] at h4
 exact ⟨h3,h4⟩
theorem KO {o:OpV} (h:mL o=true) (h0:dU o=o) (h1:(prO o).2=0) (h4:o.kind=3→(!decide (o.val.plus=emp)&&mB 3 o.val.plus)=false):Ky o=0:=by
 unfold Ky
 rw [if_neg (by rw [h];simp [h0]),if_neg (by simp [h1]),if_neg]
 rintro ⟨h3,h5,h6⟩
 have:=h4 h3
 have e1:(o.val.plus=emp)=(o.plus=emp):=rfl
 have e2:mB 3 o.val.plus=mB 3 o.plus:=rfl
 rw [e2,h6,decide_eq_false (show ¬o.val.plus=emp from h5)] at this
 cases this
theorem LM {x y:Operand} {a b:OpV} (h:b.lo=false):sK Tryz.prog (do eqGuard .neq 38 x y (.agg #[.int .i64 a.kind,.int .i64 a.r.n,.bool a.r.x,.bool a.r.sp,.int .i64 a.m.n,.bool a.m.x,.bool a.m.sp,.int .i64 a.md,.int .i64 a.amt,.int .i64 a.n,.int .i64 a.add,.string a.plus,.string a.minus,.bool a.lo,.int .i64 a.mode]) (.agg #[.int .i64 b.kind,.int .i64 b.r.n,.bool b.r.x,.bool b.r.sp,.int .i64 b.m.n,.bool b.m.x,.bool b.m.sp,.int .i64 b.md,.int .i64 b.amt,.int .i64 b.n,.int .i64 b.add,.string b.plus,.string b.minus,.bool false,.int .i64 b.mode]);binOp .neq 38 (.agg #[.int .i64 a.kind,.int .i64 a.r.n,.bool a.r.x,.bool a.r.sp,.int .i64 a.m.n,.bool a.m.x,.bool a.m.sp,.int .i64 a.md,.int .i64 a.amt,.int .i64 a.n,.int .i64 a.add,.string a.plus,.string a.minus,.bool a.lo,.int .i64 a.mode]) (.agg #[.int .i64 b.kind,.int .i64 b.r.n,.bool b.r.x,.bool b.r.sp,.int .i64 b.m.n,.bool b.m.x,.bool b.m.sp,.int .i64 b.md,.int .i64 b.amt,.int .i64 b.n,.int .i64 b.add,.string b.plus,.string b.minus,.bool false,.int .i64 b.mode]))=some (.bool (!decide (a=b))):=by
  have:=cu (x:=x) (y:=y) (a:=a) (b:=b)
  rw [h] at this
  exact this
theorem rchk_sw (o:OpV) (hO:okO o):SW Tryz.prog ⟨none,0⟩ Tryz.f15.ntmps (Tryz.f15.body.getD .skip) ⟨0,aN 0 [tOp.enc o],[]⟩ (fa Tryz.prog Tryz.f15.results.toList (.ret (iv (Ky o)))):=by
 refine aC (ctx:=[⟨_,DV⟩,⟨_,ML⟩,⟨_,OU⟩,⟨_,Oa⟩,⟨_,Lp⟩]) 4000 ?_
 rw [Tryz.ntmps15,Tryz.results15]
 simp only [Tryz.f15,Option.getD_some,aN]
 have ho:=DM hO
 have hz':o.val.plus.size≤1099511627776:=hO.1.1
 obtain ⟨b,hb⟩:∃ b,dU o=b:=⟨_,rfl⟩
 obtain ⟨x,hx⟩:∃ x,prO o=x:=⟨_,rfl⟩
 have hx':Ex.printF o.val=x:=hx
 by_cases h1:o.kind=1
 ·have n3:¬o.kind=3:=by omega
  cases a1:iO o.r
  ·skip
   rw [sw (by unfold mL;simp only [eq_true h1,a1,if_true,if_false,decide_true,decide_false,Bool.false_and,Bool.true_and,Bool.and_true,Bool.and_false,Bool.or_true,Bool.true_or,Bool.false_or,Bool.or_false,Bool.not_true,Bool.not_false])]
   simp only [go_sem,bk,opE,opD,bU,bT,cW,aM,aL,aZ,ba,bq,bp,eq_true h1,a1]
   refine dc (ctx:=[⟨_,lP⟩]) mixed [] (by kernel_rfl) ?_
   simp only [go_sem,bk,opE,opD,bU,bT,cW,aM,aL,aZ,ba,bq,bp,opV,cR,cP,hb,↓cu,cx,cw,cv,fN,iL,ho,hx',bS,bR,hz',eq_true h1,a1]
  by_cases a2:0≤o.md
  case neg =>
   rw [sw (by unfold mL;simp only [eq_true h1,a1,a2,if_true,if_false,decide_true,decide_false,Bool.false_and,Bool.true_and,Bool.and_true,Bool.and_false,Bool.or_true,Bool.true_or,Bool.false_or,Bool.or_false,Bool.not_true,Bool.not_false])]
   simp only [go_sem,bk,opE,opD,bU,bT,cW,aM,aL,aZ,ba,bq,bp,eq_true h1,a1,a2]
   refine dc (ctx:=[⟨_,lP⟩]) mixed [] (by kernel_rfl) ?_
   simp only [go_sem,bk,opE,opD,bU,bT,cW,aM,aL,aZ,ba,bq,bp,opV,cR,cP,hb,↓cu,cx,cw,cv,fN,iL,ho,hx',bS,bR,hz',eq_true h1,a1,a2]
  by_cases a3:o.md≤12
  case neg =>
   rw [sw (by unfold mL;simp only [eq_true h1,a1,a2,a3,if_true,if_false,decide_true,decide_false,Bool.false_and,Bool.true_and,Bool.and_true,Bool.and_false,Bool.or_true,Bool.true_or,Bool.false_or,Bool.or_false,Bool.not_true,Bool.not_false])]
   simp only [go_sem,bk,opE,opD,bU,bT,cW,aM,aL,aZ,ba,bq,bp,eq_true h1,a1,a2,a3]
   refine dc (ctx:=[⟨_,lP⟩]) mixed [] (by kernel_rfl) ?_
   simp only [go_sem,bk,opE,opD,bU,bT,cW,aM,aL,aZ,ba,bq,bp,opV,cR,cP,hb,↓cu,cx,cw,cv,fN,iL,ho,hx',bS,bR,hz',eq_true h1,a1,a2,a3]
  cases a4:C5 o 0
  ·skip
   rw [sw (by unfold mL;simp only [eq_true h1,a1,a2,a3,a4,if_true,if_false,decide_true,decide_false,Bool.false_and,Bool.true_and,Bool.and_true,Bool.and_false,Bool.or_true,Bool.true_or,Bool.false_or,Bool.or_false,Bool.not_true,Bool.not_false])]
   simp only [go_sem,bk,opE,opD,bU,bT,cW,aM,aL,aZ,ba,bq,bp,eq_true h1,a1,a2,a3,a4]
   refine dc (ctx:=[⟨_,lP⟩]) mixed [] (by kernel_rfl) ?_
   simp only [go_sem,bk,opE,opD,bU,bT,cW,aM,aL,aZ,ba,bq,bp,opV,cR,cP,hb,↓cu,cx,cw,cv,fN,iL,ho,hx',bS,bR,hz',eq_true h1,a1,a2,a3,a4]
  have hk:mL o=true:=by unfold mL;simp only [eq_true h1,a1,a2,a3,a4,if_true,if_false,decide_true,decide_false,Bool.false_and,Bool.true_and,Bool.and_true,Bool.and_false,Bool.or_true,Bool.true_or,Bool.false_or,Bool.or_false,Bool.not_true,Bool.not_false]
  simp only [go_sem,bk,opE,opD,bU,bT,cW,aM,aL,aZ,ba,bq,bp,eq_true h1,a1,a2,a3,a4,n3]
  refine dc (ctx:=[⟨_,lP⟩]) mixed [] (by kernel_rfl) ?_
  by_cases g0:b=o
  case neg =>
   have hd:decide (b=o)=false:=by simpa using g0
   rw [KR (by rw [hb];exact g0)]
   simp only [go_sem,bk,opE,opD,bU,bT,cW,aM,aL,aZ,ba,bq,bp,opV,cR,cP,hb,↓cu,cx,cw,cv,fN,iL,ho,hx',bS,bR,hz',hd,eq_true h1,a1,a2,a3,a4,n3]
  have hd:decide (b=o)=true:=by simpa using g0
  have g0':dU o=o:=by rw [hb];exact g0
  by_cases g2:x.2=0
  case neg =>
   rw [KW hk g0' (by rw [hx];exact g2),hx]
   simp only [go_sem,bk,opE,opD,bU,bT,cW,aM,aL,aZ,ba,bq,bp,opV,cR,cP,hb,↓cu,cx,cw,cv,fN,iL,ho,hx',bS,bR,hz',hd,g2,eq_true h1,a1,a2,a3,a4,n3]
  rw [KO hk g0' (by rw [hx];exact g2) (fun h=>absurd h n3)]
  simp only [go_sem,bk,opE,opD,bU,bT,cW,aM,aL,aZ,ba,bq,bp,opV,cR,cP,hb,↓cu,cx,cw,cv,fN,iL,ho,hx',bS,bR,hz',hd,eq_true g2,eq_true h1,a1,a2,a3,a4,n3]
 by_cases h2:o.kind=2
 ·have n3:¬o.kind=3:=by omega
  cases a4:C5 o 0
  ·by_cases a1:o.md=0
   ·skip
    rw [sw (by unfold mL;simp only [h1,eq_true h2,eq_true a1,a4,if_true,if_false,decide_true,decide_false,Bool.false_and,Bool.true_and,Bool.and_true,Bool.and_false,Bool.or_true,Bool.true_or,Bool.false_or,Bool.or_false,Bool.not_true,Bool.not_false])]
    simp only [go_sem,bk,opE,opD,bU,bT,cW,aM,aL,aZ,ba,bq,bp,h1,eq_true h2,eq_true a1,a4]
    refine dc (ctx:=[⟨_,lP⟩]) mixed [] (by kernel_rfl) ?_
    simp only [go_sem,bk,opE,opD,bU,bT,cW,aM,aL,aZ,ba,bq,bp,opV,cR,cP,hb,↓cu,cx,cw,cv,fN,iL,ho,hx',bS,bR,hz',h1,eq_true h2,eq_true a1,a4]
   by_cases a2:o.md=1
   case neg =>
    rw [sw (by unfold mL;simp only [h1,eq_true h2,a1,a2,a4,if_true,if_false,decide_true,decide_false,Bool.false_and,Bool.true_and,Bool.and_true,Bool.and_false,Bool.or_true,Bool.true_or,Bool.false_or,Bool.or_false,Bool.not_true,Bool.not_false])]
    simp only [go_sem,bk,opE,opD,bU,bT,cW,aM,aL,aZ,ba,bq,bp,h1,eq_true h2,a1,a2,a4]
    refine dc (ctx:=[⟨_,lP⟩]) mixed [] (by kernel_rfl) ?_
    simp only [go_sem,bk,opE,opD,bU,bT,cW,aM,aL,aZ,ba,bq,bp,opV,cR,cP,hb,↓cu,cx,cw,cv,fN,iL,ho,hx',bS,bR,hz',h1,eq_true h2,a1,a2,a4]
   by_cases a3:o.lo=true
   ·skip
    rw [sw (by unfold mL;simp only [h1,eq_true h2,a1,eq_true a2,a3,if_true,if_false,decide_true,decide_false,Bool.false_and,Bool.true_and,Bool.and_true,Bool.and_false,Bool.or_true,Bool.true_or,Bool.false_or,Bool.or_false,Bool.not_true,Bool.not_false])]
    simp only [go_sem,bk,opE,opD,bU,bT,cW,aM,aL,aZ,ba,bq,bp,h1,eq_true h2,a1,eq_true a2,a3]
    refine dc (ctx:=[⟨_,lP⟩]) mixed [] (by kernel_rfl) ?_
    simp only [go_sem,bk,opE,opD,bU,bT,cW,aM,aL,aZ,ba,bq,bp,opV,cR,cP,hb,↓cu,cx,cw,cv,fN,iL,ho,hx',bS,bR,hz',h1,eq_true h2,a1,eq_true a2,a3]
   have a3':o.lo=false:=by simpa using a3
   have eL:(⟨o.kind,o.r,o.m,o.md,o.amt,o.n,o.add,o.plus,o.minus,false,o.mode⟩:OpV)=o:=by rw [← a3']
   rw [sw (by unfold mL;simp only [h1,eq_true h2,a1,eq_true a2,a3',a4,if_true,if_false,decide_true,decide_false,Bool.false_and,Bool.true_and,Bool.and_true,Bool.and_false,Bool.or_true,Bool.true_or,Bool.false_or,Bool.or_false,Bool.not_true,Bool.not_false])]
   simp only [go_sem,bk,opE,opD,bU,bT,cW,aM,aL,aZ,ba,bq,bp,eL,h1,eq_true h2,a1,eq_true a2,a3',a4]
   refine dc (ctx:=[⟨_,lP⟩]) mixed [] (by kernel_rfl) ?_
   simp only [go_sem,bk,opE,opD,bU,bT,cW,aM,aL,aZ,ba,bq,bp,opV,cR,cP,hb,↓cu,cx,cw,cv,fN,iL,ho,hx',bS,bR,hz',eL,h1,eq_true h2,a1,eq_true a2,a3',a4]
  by_cases a1:o.md=0
  ·skip
   have hk:mL o=true:=by unfold mL;simp only [h1,eq_true h2,eq_true a1,a4,if_true,if_false,decide_true,decide_false,Bool.false_and,Bool.true_and,Bool.and_true,Bool.and_false,Bool.or_true,Bool.true_or,Bool.false_or,Bool.or_false,Bool.not_true,Bool.not_false]
   simp only [go_sem,bk,opE,opD,bU,bT,cW,aM,aL,aZ,ba,bq,bp,h1,eq_true h2,eq_true a1,a4,n3]
   refine dc (ctx:=[⟨_,lP⟩]) mixed [] (by kernel_rfl) ?_
   by_cases g0:b=o
   case neg =>
    have hd:decide (b=o)=false:=by simpa using g0
    rw [KR (by rw [hb];exact g0)]
    simp only [go_sem,bk,opE,opD,bU,bT,cW,aM,aL,aZ,ba,bq,bp,opV,cR,cP,hb,↓cu,cx,cw,cv,fN,iL,ho,hx',bS,bR,hz',hd,h1,eq_true h2,eq_true a1,a4,n3]
   have hd:decide (b=o)=true:=by simpa using g0
   have g0':dU o=o:=by rw [hb];exact g0
   by_cases g2:x.2=0
   case neg =>
    rw [KW hk g0' (by rw [hx];exact g2),hx]
    simp only [go_sem,bk,opE,opD,bU,bT,cW,aM,aL,aZ,ba,bq,bp,opV,cR,cP,hb,↓cu,cx,cw,cv,fN,iL,ho,hx',bS,bR,hz',hd,g2,h1,eq_true h2,eq_true a1,a4,n3]
   rw [KO hk g0' (by rw [hx];exact g2) (fun h=>absurd h n3)]
   simp only [go_sem,bk,opE,opD,bU,bT,cW,aM,aL,aZ,ba,bq,bp,opV,cR,cP,hb,↓cu,cx,cw,cv,fN,iL,ho,hx',bS,bR,hz',hd,eq_true g2,h1,eq_true h2,eq_true a1,a4,n3]
  by_cases a2:o.md=1
  case neg =>
   rw [sw (by unfold mL;simp only [h1,eq_true h2,a1,a2,a4,if_true,if_false,decide_true,decide_false,Bool.false_and,Bool.true_and,Bool.and_true,Bool.and_false,Bool.or_true,Bool.true_or,Bool.false_or,Bool.or_false,Bool.not_true,Bool.not_false])]
   simp only [go_sem,bk,opE,opD,bU,bT,cW,aM,aL,aZ,ba,bq,bp,h1,eq_true h2,a1,a2,a4]
   refine dc (ctx:=[⟨_,lP⟩]) mixed [] (by kernel_rfl) ?_
   simp only [go_sem,bk,opE,opD,bU,bT,cW,aM,aL,aZ,ba,bq,bp,opV,cR,cP,hb,↓cu,cx,cw,cv,fN,iL,ho,hx',bS,bR,hz',h1,eq_true h2,a1,a2,a4]
  by_cases a3:o.lo=true
  ·skip
   rw [sw (by unfold mL;simp only [h1,eq_true h2,a1,eq_true a2,a3,if_true,if_false,decide_true,decide_false,Bool.false_and,Bool.true_and,Bool.and_true,Bool.and_false,Bool.or_true,Bool.true_or,Bool.false_or,Bool.or_false,Bool.not_true,Bool.not_false])]
   simp only [go_sem,bk,opE,opD,bU,bT,cW,aM,aL,aZ,ba,bq,bp,h1,eq_true h2,a1,eq_true a2,a3]
   refine dc (ctx:=[⟨_,lP⟩]) mixed [] (by kernel_rfl) ?_
   simp only [go_sem,bk,opE,opD,bU,bT,cW,aM,aL,aZ,ba,bq,bp,opV,cR,cP,hb,↓cu,cx,cw,cv,fN,iL,ho,hx',bS,bR,hz',h1,eq_true h2,a1,eq_true a2,a3]
  have a3':o.lo=false:=by simpa using a3
  have eL:(⟨o.kind,o.r,o.m,o.md,o.amt,o.n,o.add,o.plus,o.minus,false,o.mode⟩:OpV)=o:=by rw [← a3']
  have hk:mL o=true:=by unfold mL;simp only [h1,eq_true h2,a1,eq_true a2,a3',a4,if_true,if_false,decide_true,decide_false,Bool.false_and,Bool.true_and,Bool.and_true,Bool.and_false,Bool.or_true,Bool.true_or,Bool.false_or,Bool.or_false,Bool.not_true,Bool.not_false]
  simp only [go_sem,bk,opE,opD,bU,bT,cW,aM,aL,aZ,ba,bq,bp,h1,eq_true h2,a1,eq_true a2,eL,↓LM a3',a3',a4,n3]
  refine dc (ctx:=[⟨_,lP⟩]) mixed [] (by kernel_rfl) ?_
  by_cases g0:b=o
  case neg =>
   have hd:decide (b=o)=false:=by simpa using g0
   rw [KR (by rw [hb];exact g0)]
   simp only [go_sem,bk,opE,opD,bU,bT,cW,aM,aL,aZ,ba,bq,bp,opV,cR,cP,hb,↓cu,cx,cw,cv,fN,iL,ho,hx',bS,bR,hz',hd,h1,eq_true h2,a1,eq_true a2,eL,↓LM a3',a3',a4,n3]
  have hd:decide (b=o)=true:=by simpa using g0
  have g0':dU o=o:=by rw [hb];exact g0
  by_cases g2:x.2=0
  case neg =>
   rw [KW hk g0' (by rw [hx];exact g2),hx]
   simp only [go_sem,bk,opE,opD,bU,bT,cW,aM,aL,aZ,ba,bq,bp,opV,cR,cP,hb,↓cu,cx,cw,cv,fN,iL,ho,hx',bS,bR,hz',hd,g2,h1,eq_true h2,a1,eq_true a2,eL,↓LM a3',a3',a4,n3]
  rw [KO hk g0' (by rw [hx];exact g2) (fun h=>absurd h n3)]
  simp only [go_sem,bk,opE,opD,bU,bT,cW,aM,aL,aZ,ba,bq,bp,opV,cR,cP,hb,↓cu,cx,cw,cv,fN,iL,ho,hx',bS,bR,hz',hd,eq_true g2,h1,eq_true h2,a1,eq_true a2,eL,↓LM a3',a3',a4,n3]
 by_cases h3:o.kind=3
 ·skip
  have hk:mL o=true:=by unfold mL;simp only [h1,h2,eq_true h3,if_true,if_false,decide_true,decide_false,Bool.false_and,Bool.true_and,Bool.and_true,Bool.and_false,Bool.or_true,Bool.true_or,Bool.false_or,Bool.or_false,Bool.not_true,Bool.not_false]
  simp only [go_sem,bk,opE,opD,bU,bT,cW,aM,aL,aZ,ba,bq,bp,h1,h2,eq_true h3]
  refine dc (ctx:=[⟨_,lP⟩]) mixed [] (by kernel_rfl) ?_
  by_cases g0:b=o
  case neg =>
   have hd:decide (b=o)=false:=by simpa using g0
   rw [KR (by rw [hb];exact g0)]
   simp only [go_sem,bk,opE,opD,bU,bT,cW,aM,aL,aZ,ba,bq,bp,opV,cR,cP,hb,↓cu,cx,cw,cv,fN,iL,ho,hx',bS,bR,hz',hd,h1,h2,eq_true h3]
  have hd:decide (b=o)=true:=by simpa using g0
  have g0':dU o=o:=by rw [hb];exact g0
  by_cases g2:x.2=0
  case neg =>
   rw [KW hk g0' (by rw [hx];exact g2),hx]
   simp only [go_sem,bk,opE,opD,bU,bT,cW,aM,aL,aZ,ba,bq,bp,opV,cR,cP,hb,↓cu,cx,cw,cv,fN,iL,ho,hx',bS,bR,hz',hd,g2,h1,h2,eq_true h3]
  cases g3:(!decide (o.val.plus=emp)&&mB 3 o.val.plus)
  ·rw [KO hk g0' (by rw [hx];exact g2) (fun _=>g3)]
   simp only [go_sem,bk,opE,opD,bU,bT,cW,aM,aL,aZ,ba,bq,bp,opV,cR,cP,hb,↓cu,cx,cw,cv,fN,iL,ho,hx',bS,bR,hz',hd,eq_true g2,g3,h1,h2,eq_true h3]
  ·rw [chkR_rs hk g0' (by rw [hx];exact g2) h3 g3]
   simp only [go_sem,bk,opE,opD,bU,bT,cW,aM,aL,aZ,ba,bq,bp,opV,cR,cP,hb,↓cu,cx,cw,cv,fN,iL,ho,hx',bS,bR,hz',hd,eq_true g2,g3,h1,h2,eq_true h3]
 have n3:=h3
 by_cases h5:o.kind=5
 ·cases a1:Cu o
  ·skip
   rw [sw (by unfold mL;simp only [h1,h2,h3,eq_true h5,a1,if_true,if_false,decide_true,decide_false,Bool.false_and,Bool.true_and,Bool.and_true,Bool.and_false,Bool.or_true,Bool.true_or,Bool.false_or,Bool.or_false,Bool.not_true,Bool.not_false])]
   simp only [go_sem,bk,opE,opD,bU,bT,cW,aM,aL,aZ,ba,bq,bp,h1,h2,h3,eq_true h5,a1]
   refine dc (ctx:=[⟨_,lP⟩]) mixed [] (by kernel_rfl) ?_
   simp only [go_sem,bk,opE,opD,bU,bT,cW,aM,aL,aZ,ba,bq,bp,opV,cR,cP,hb,↓cu,cx,cw,cv,fN,iL,ho,hx',bS,bR,hz',h1,h2,h3,eq_true h5,a1]
  have hk:mL o=true:=by unfold mL;simp only [h1,h2,h3,eq_true h5,a1,if_true,if_false,decide_true,decide_false,Bool.false_and,Bool.true_and,Bool.and_true,Bool.and_false,Bool.or_true,Bool.true_or,Bool.false_or,Bool.or_false,Bool.not_true,Bool.not_false]
  simp only [go_sem,bk,opE,opD,bU,bT,cW,aM,aL,aZ,ba,bq,bp,h1,h2,h3,eq_true h5,a1]
  refine dc (ctx:=[⟨_,lP⟩]) mixed [] (by kernel_rfl) ?_
  by_cases g0:b=o
  case neg =>
   have hd:decide (b=o)=false:=by simpa using g0
   rw [KR (by rw [hb];exact g0)]
   simp only [go_sem,bk,opE,opD,bU,bT,cW,aM,aL,aZ,ba,bq,bp,opV,cR,cP,hb,↓cu,cx,cw,cv,fN,iL,ho,hx',bS,bR,hz',hd,h1,h2,h3,eq_true h5,a1]
  have hd:decide (b=o)=true:=by simpa using g0
  have g0':dU o=o:=by rw [hb];exact g0
  by_cases g2:x.2=0
  case neg =>
   rw [KW hk g0' (by rw [hx];exact g2),hx]
   simp only [go_sem,bk,opE,opD,bU,bT,cW,aM,aL,aZ,ba,bq,bp,opV,cR,cP,hb,↓cu,cx,cw,cv,fN,iL,ho,hx',bS,bR,hz',hd,g2,h1,h2,h3,eq_true h5,a1]
  rw [KO hk g0' (by rw [hx];exact g2) (fun h=>absurd h n3)]
  simp only [go_sem,bk,opE,opD,bU,bT,cW,aM,aL,aZ,ba,bq,bp,opV,cR,cP,hb,↓cu,cx,cw,cv,fN,iL,ho,hx',bS,bR,hz',hd,eq_true g2,h1,h2,h3,eq_true h5,a1]
 by_cases a1:0≤o.n
 case neg =>
  rw [sw (by unfold mL;simp only [h1,h2,h3,h5,a1,if_true,if_false,decide_true,decide_false,Bool.false_and,Bool.true_and,Bool.and_true,Bool.and_false,Bool.or_true,Bool.true_or,Bool.false_or,Bool.or_false,Bool.not_true,Bool.not_false])]
  simp only [go_sem,bk,opE,opD,bU,bT,cW,aM,aL,aZ,ba,bq,bp,h1,h2,h3,h5]
  refine dc (ctx:=[⟨_,Ou⟩]) mixed [] (by kernel_rfl) ?_
  simp only [go_sem,bk,opE,opD,bU,bT,cW,aM,aL,aZ,ba,bq,bp,M5,Nq,h1,h2,h3,h5,a1]
  refine dc (ctx:=[⟨_,lP⟩]) mixed [] (by kernel_rfl) ?_
  simp only [go_sem,bk,opE,opD,bU,bT,cW,aM,aL,aZ,ba,bq,bp,opV,cR,cP,hb,↓cu,cx,cw,cv,fN,iL,ho,hx',bS,bR,hz',h1,h2,h3,h5,a1]
 by_cases a2:o.n≤D7 o.kind
 case neg =>
  rw [sw (by unfold mL;simp only [h1,h2,h3,h5,a1,a2,if_true,if_false,decide_true,decide_false,Bool.false_and,Bool.true_and,Bool.and_true,Bool.and_false,Bool.or_true,Bool.true_or,Bool.false_or,Bool.or_false,Bool.not_true,Bool.not_false])]
  simp only [go_sem,bk,opE,opD,bU,bT,cW,aM,aL,aZ,ba,bq,bp,h1,h2,h3,h5]
  refine dc (ctx:=[⟨_,Ou⟩]) mixed [] (by kernel_rfl) ?_
  simp only [go_sem,bk,opE,opD,bU,bT,cW,aM,aL,aZ,ba,bq,bp,M5,Nq,h1,h2,h3,h5,a1,a2]
  refine dc (ctx:=[⟨_,lP⟩]) mixed [] (by kernel_rfl) ?_
  simp only [go_sem,bk,opE,opD,bU,bT,cW,aM,aL,aZ,ba,bq,bp,opV,cR,cP,hb,↓cu,cx,cw,cv,fN,iL,ho,hx',bS,bR,hz',h1,h2,h3,h5,a1,a2]
 have hk:mL o=true:=by unfold mL;simp only [h1,h2,h3,h5,a1,a2,if_true,if_false,decide_true,decide_false,Bool.false_and,Bool.true_and,Bool.and_true,Bool.and_false,Bool.or_true,Bool.true_or,Bool.false_or,Bool.or_false,Bool.not_true,Bool.not_false]
 simp only [go_sem,bk,opE,opD,bU,bT,cW,aM,aL,aZ,ba,bq,bp,h1,h2,h3,h5]
 refine dc (ctx:=[⟨_,Ou⟩]) mixed [] (by kernel_rfl) ?_
 simp only [go_sem,bk,opE,opD,bU,bT,cW,aM,aL,aZ,ba,bq,bp,M5,Nq,h1,h2,h3,h5,a1,a2]
 refine dc (ctx:=[⟨_,lP⟩]) mixed [] (by kernel_rfl) ?_
 by_cases g0:b=o
 case neg =>
  have hd:decide (b=o)=false:=by simpa using g0
  rw [KR (by rw [hb];exact g0)]
  simp only [go_sem,bk,opE,opD,bU,bT,cW,aM,aL,aZ,ba,bq,bp,opV,cR,cP,hb,↓cu,cx,cw,cv,fN,iL,ho,hx',bS,bR,hz',hd,h1,h2,h3,h5,a1,a2]
 have hd:decide (b=o)=true:=by simpa using g0
 have g0':dU o=o:=by rw [hb];exact g0
 by_cases g2:x.2=0
 case neg =>
  rw [KW hk g0' (by rw [hx];exact g2),hx]
  simp only [go_sem,bk,opE,opD,bU,bT,cW,aM,aL,aZ,ba,bq,bp,opV,cR,cP,hb,↓cu,cx,cw,cv,fN,iL,ho,hx',bS,bR,hz',hd,g2,h1,h2,h3,h5,a1,a2]
 rw [KO hk g0' (by rw [hx];exact g2) (fun h=>absurd h n3)]
 simp only [go_sem,bk,opE,opD,bU,bT,cW,aM,aL,aZ,ba,bq,bp,opV,cR,cP,hb,↓cu,cx,cw,cv,fN,iL,ho,hx',bS,bR,hz',hd,eq_true g2,h1,h2,h3,h5,a1,a2]
def P7:cK Tryz.prog 15 :=
 mk1 _ _ _ Tryz.func15 rfl (fun _ _=>by go_simp) (tOp) (okO) ((fun o=>.ret (iv (Ky o)))) (by rw [Tryz.ntmps15];decide) (fun o h=>rchk_sw o h)
theorem fI {id:Nat} {h:aF} {args:List AV}:(P7).run id h args=be (aV (tOp) (okO)) ((fun o=>.ret (iv (Ky o)))) h args:=rfl
theorem fH {id:Nat} {h:aF} {args:List AV}:(P7).pan id h args=bi (aV (tOp) (okO)) ((fun o=>.ret (iv (Ky o)))) h args:=rfl
end Go.Proofs.YthcoegkfpinlfaaGreatDoor
