import Derived.Test.YthcoegkfpinlfaaGreatDoorO32
import Derived.Test.YthcoegkfpinlfaaGreatDoorO33
import Derived.Test.YthcoegkfpinlfaaGreatDoorO36
set_option linter.unusedVariables false
set_option linter.unusedSimpArgs false
set_option maxRecDepth 100000
set_option maxHeartbeats 8000000
namespace Go.Proofs.YthcoegkfpinlfaaGreatDoor
open Go.RowKit
theorem ZL (l:List OpV) (hl:l.length≤1000000) (hO:∀ o∈l,okO o):SW Tryz.prog ⟨none,0⟩ Tryz.f17.ntmps (Tryz.f17.body.getD .skip) ⟨0,aN 0 [mG.enc l],[]⟩ (fa Tryz.prog Tryz.f17.results.toList (.ret (D8.enc (kZ l)))):=by
 refine aC (ctx:=[]) 4000 ?_
 rw [Tryz.ntmps17,Tryz.results17]
 simp only [Tryz.f17,Option.getD_some,aN]
 simp only [go_sem]
 refine fj (ι:=Nat) (fun i=>i≤l.length) (fun i=>⟨1,[(0,mG.enc l),(4,iv i),(3,.s (.l (.sl 0 0 (kZ (l.take i)).length)))],[(0,some (stK (kZ (l.take i))))]⟩) (fun i=>l.length-i) 0 (Nat.zero_le _) ?_ ?_
 ·exact (Wk.nil 3 9 1 rfl).trans (Wk.renL [48] (by simp) (by simp) (by simp) rfl rfl)
 intro i hi
 refine aC (ctx:=[⟨_,P7⟩]) 4000 ?_
 by_cases hlt:i<l.length
 ·have hltI:(i:Int)<l.length:=by omega
  obtain ⟨o,ho⟩:∃ o,l[i]? = some o:=⟨_,List.getElem?_eq_getElem hlt⟩
  have hok:=hO o (List.mem_of_getElem? ho)
  have hcs:=LQ o
  have ei:IntKind.i64.wrap ((i:Int)+1)=((i+1:Nat):Int):=by rw [IntKind.wrap_i64];omega
  have hstep:=On ho
  have hxl:(kZ (l.take i)).length≤2000000:=by
   have:=Jz (l.take i)
   rw [List.length_take] at this
   omega
  generalize kZ (l.take i)=x at hstep hxl
  by_cases hc:iS o=0
  case neg =>
   have e:kZ (l.take (i+1))=x:=by rw [hstep];unfold NQ;rw [if_neg hc,List.append_nil]
   simp only [go_sem,stK,hltI,hlt,ho,bk,opE,opD,bU,bT,fI,fH,hok,hcs,hc,ei]
   refine ⟨i+1,hlt,by omega,?_⟩
   rw [e]
   exact Wk.renL [0] (by simp) (Nat.le_refl 1) (by decide) rfl (by simp only [hget,Nat.reduceEqDiff,if_false,if_true,List.map_cons,List.map_nil,Option.map_some,List.getD_eq_getElem?_getD,List.getElem?_cons_zero,List.getElem?_cons_succ,Option.getD_some,Blk.ren,dz])
  have hm1:x.length+1≤maxLen:=by unfold maxLen;omega
  have hb1:(x.length+1)*16≤140737488355328:=by omega
  by_cases p0:o.plus=emp
  ·by_cases p1:o.minus=emp
   ·have e:kZ (l.take (i+1))=x:=by rw [hstep];unfold NQ LH;rw [if_pos hc,if_pos p0,if_pos p1];simp
    simp only [go_sem,stK,hltI,hlt,ho,bk,opE,opD,bU,bT,fI,fH,hok,hcs,eq_true hc,aS,eq_true p0,eq_true p1,ei]
    refine ⟨i+1,hlt,by omega,?_⟩
    rw [e]
    exact Wk.renL [0] (by simp) (Nat.le_refl 1) (by decide) rfl (by simp only [hget,Nat.reduceEqDiff,if_false,if_true,List.map_cons,List.map_nil,Option.map_some,List.getD_eq_getElem?_getD,List.getElem?_cons_zero,List.getElem?_cons_succ,Option.getD_some,Blk.ren,dz])
   ·have e:kZ (l.take (i+1))=x++[o.minus]:=by rw [hstep];unfold NQ LH;rw [if_pos hc,if_pos p0,if_neg p1];simp
    have hsn:=K3 x o.minus
    simp only [go_sem,stK,hltI,hlt,ho,bk,opE,opD,bU,bT,fI,fH,hok,hcs,eq_true hc,aS,eq_true p0,p1,hm1,hb1,hsn,ei]
    refine ⟨i+1,hlt,by omega,?_⟩
    rw [e,show (x++[o.minus]).length=x.length+1 by simp]
    exact Wk.renL [513] (by simp) (Nat.le_refl 1) (by decide) rfl (by simp only [hget,Nat.reduceEqDiff,if_false,if_true,List.map_cons,List.map_nil,Option.map_some,List.getD_eq_getElem?_getD,List.getElem?_cons_zero,List.getElem?_cons_succ,Option.getD_some,Blk.ren,dz])
  ·have hsp:=K3 x o.plus
   by_cases p1:o.minus=emp
   ·have e:kZ (l.take (i+1))=x++[o.plus]:=by rw [hstep];unfold NQ LH;rw [if_pos hc,if_neg p0,if_pos p1];simp
    simp only [go_sem,stK,hltI,hlt,ho,bk,opE,opD,bU,bT,fI,fH,hok,hcs,eq_true hc,aS,p0,eq_true p1,hm1,hb1,hsp,ei]
    refine ⟨i+1,hlt,by omega,?_⟩
    rw [e,show (x++[o.plus]).length=x.length+1 by simp]
    exact Wk.renL [401] (by simp) (Nat.le_refl 1) (by decide) rfl (by simp only [hget,Nat.reduceEqDiff,if_false,if_true,List.map_cons,List.map_nil,Option.map_some,List.getD_eq_getElem?_getD,List.getElem?_cons_zero,List.getElem?_cons_succ,Option.getD_some,Blk.ren,dz])
   ·have e:kZ (l.take (i+1))=x++[o.plus,o.minus]:=by rw [hstep];unfold NQ LH;rw [if_pos hc,if_neg p0,if_neg p1];simp
    have hsq:=K3 (x++[o.plus]) o.minus
    have hlp:(x++[o.plus]).length=x.length+1:=by simp
    have hm2:x.length+1+1≤maxLen:=by unfold maxLen;omega
    have hb2:(x.length+1+1)*16≤140737488355328:=by omega
    have hK:List.take (x.length+1) (((x++[o.plus]).map stR.enc).map cf)=((x++[o.plus]).map stR.enc).map cf:=List.take_of_length_le (by simp)
    simp only [go_sem,stK,hltI,hlt,ho,bk,opE,opD,bU,bT,fI,fH,hok,hcs,eq_true hc,aS,p0,p1,hm1,hb1,hsp,hm2,hb2,hlp,hK,hsq,ei]
    refine ⟨i+1,hlt,by omega,?_⟩
    rw [e,show (x++[o.plus,o.minus]).length=x.length+1+1 by simp]
    exact Wk.renL [673] (by simp) (Nat.le_refl 1) (by decide) rfl (by simp only [hget,Nat.reduceEqDiff,if_false,if_true,List.map_cons,List.map_nil,Option.map_some,List.getD_eq_getElem?_getD,List.getElem?_cons_zero,List.getElem?_cons_succ,Option.getD_some,Blk.ren,dz])
 ·obtain rfl:i=l.length:=by omega
  have hI:¬(l.length:Int)<l.length:=by omega
  have htl:List.take l.length l=l:=List.take_length
  simp only [go_sem,hI,htl,stK]
def UB:cK Tryz.prog 17 :=
 mk1 _ _ _ Tryz.func17 rfl (fun _ _=>by go_simp) (mG) ((fun l=>l.length≤1000000∧∀ o∈l,okO o)) ((fun l=>.ret (D8.enc (kZ l)))) (by rw [Tryz.ntmps17];decide) (fun l h=>ZL l h.1 h.2)
theorem WN {id:Nat} {h:aF} {args:List AV}:(UB).run id h args=be (aV (mG) ((fun l=>l.length≤1000000∧∀ o∈l,okO o))) ((fun l=>.ret (D8.enc (kZ l)))) h args:=rfl
theorem Wu {id:Nat} {h:aF} {args:List AV}:(UB).pan id h args=bi (aV (mG) ((fun l=>l.length≤1000000∧∀ o∈l,okO o))) ((fun l=>.ret (D8.enc (kZ l)))) h args:=rfl
end Go.Proofs.YthcoegkfpinlfaaGreatDoor
