import Derived.Test.YthcoegkfpinlfaaGreatDoorO10
set_option linter.unusedVariables false
set_option linter.unusedSimpArgs false
set_option maxRecDepth 100000
set_option maxHeartbeats 8000000
namespace Go.Proofs.YthcoegkfpinlfaaGreatDoor
section
open Go.RowKit
inductive CO where
 | val (r:AV) (E:aF)
 | pan (v:Value) (E:aF)
 | no (e:Nat)
structure CQ where
 q:Bool
 r:AV
 E:aF
def Pz (P:Program) (t:TypeId) (x ix:AV):Option CQ :=
 match x,ix with
 | .s (.l (.sl b i n)),.s (.l (.v (.int _ z)))=>match i5 P t with
  | some e=>match bF P e with
   | some _=>some ⟨decide (0≤z)&&decide (z<n),.s (.l (.p b (i+z.toNat) 0)),[]⟩
   | none=>none
  | none=>none
 | .s (.l (.p b i j)),.s (.l (.v (.int _ z)))=>match Ad P t with
  | some (n,s)=>some ⟨decide (0≤z)&&decide (z<n),.s (.l (.p b i (j+z.toNat*s))),[]⟩
  | none=>none
 | .s (.l (.d (.pd xs))),.s (.l (.v (.int _ z)))=>match Ad P t with
  | some (n,s)=>some ⟨decide (0≤z)&&decide (z<n),.s (.l (.d (.pd (xs.drop (z.toNat*s))))),[]⟩
  | none=>none
 | .s (.l (.d (.sd sz els))),.s (.l (.v (.int _ z)))=>match i5 P t with
  | some e=>if bF P e=some sz then match els[z.toNat]? with
   | some el=>some ⟨decide (0≤z),.s (.l (.d (.pd el))),[]⟩
   | none=>none
   else none
  | none=>none
 | _,_=>none
theorem RU {P:Program} {t:TypeId} {x ix:AV} {r:AV} {E:aF} (h:Pz P t x ix=some ⟨true,r,E⟩):∃ R,aX P t x ix=some R∧R.ob∧R.r=r∧R.E=E:=by
 unfold Pz at h
 unfold aX
 repeat' split at h
 all_goals first | (cases h;done) | skip
 all_goals
  injection h with h
  injection h with h1 h2 h3
  subst h2 h3
  simp only [Bool.and_eq_true,decide_eq_true_eq] at h1
  simp only [*]
  exact ⟨_,rfl,by first | trivial | exact h1 | simp_all,rfl,rfl⟩
def TL (P:Program) (t:TypeId) (x ix:AV):Option (Bool×AV) :=
 match x,ix with
 | .s (.l (.v (.string s))),.s (.l (.v (.int _ z)))=>if cg P t then some (decide (0≤z)&&decide (z<s.size),.s (.l (.v (.int .u8 (bj s z))))) else none
 | .s (.agg xs),.s (.l (.v (.int _ z)))=>match P.underlying t with
  | some (.array n e)=>match aT P e,bF P e,fM xs with
   | some false,some 1,some l=>if n=l.length then some (decide (0≤z)&&decide (z<n),.s (.l (.v (l.getD z.toNat undef)))) else none
   | some false,some 1,none=>if n=xs.length then match xs[z.toNat]? with
    | some y=>some (decide (0≤z),.s (.l y))
    | none=>none
    else none
   | some true,some s,_=>if n*s=xs.length then some (decide (0≤z)&&decide (z<n),.s (.agg ((xs.drop (z.toNat*s)).take s))) else none
   | _,_,_=>none
  | _=>none
 | _,_=>none
def cSrc (P:Program) (t2:TypeId) (y:AV) (h:aF) (sz:Nat):Option (Bool×Nat×List (List LV)) :=
 match y with
 | .s (.l (.sl c i m))=>match hget h c with
  | some l=>if l.sz=sz∧(i5 P t2).isSome then some (decide (i+m≤l.els.length),m,(l.els.drop i).take m) else none
  | none=>none
 | .s (.l (.d (.sd sz' els)))=>if sz'=sz∧(i5 P t2).isSome then some (true,els.length,els.map cf) else none
 | .s (.l (.v (.string s)))=>if cg P t2=true∧sz=1 then some (true,s.size,(di s).map nM) else none
 | .s (.l (.v (.slice none 0 0)))=>if (i5 P t2).isSome then some (true,0,[]) else none
 | _=>none
theorem We {P:Program} {t2:TypeId} {y:AV} {h:aF} {sz m:Nat} {rows:List (List LV)} (hs:cSrc P t2 y h sz=some (true,m,rows)):∃ ob,fg P t2 y h sz=some (ob,m,rows)∧ob:=by
 unfold cSrc at hs
 unfold fg
 repeat' split at hs
 all_goals first | (cases hs;done) | skip
 all_goals
  injection hs with hs
  injection hs with h1 hs
  injection hs with h2 h3
  subst h2 h3
  simp only [*]
  exact ⟨_,rfl,by first | trivial | exact of_decide_eq_true h1 | simp_all⟩
def Ri (P:Program) (t1 t2:TypeId) (x y:AV) (h:aF) (id:Nat):Option CQ :=
 match i5 P t1 with
 | some T=>match bP P T,bc P T,bF P T with
  | some _,some by',some sz=>match cSrc P t2 y h sz with
   | some (ob,m,rows)=>match x with
    | .s (.l (.sl b 0 n))=>match hget h b with
     | some k=>if k.own=true∧k.sz=sz∧k.T=T then some ⟨ob&&decide (n≤k.els.length)&&decide (n+m≤maxLen)&&decide ((n+m)*by'≤140737488355328),.s (.l (.sl id 0 (n+m))),[(id,some ⟨true,T,sz,k.els.take n++rows⟩),(b,none)]⟩ else none
     | none=>none
    | .s (.l (.v (.slice none 0 0)))=>some ⟨ob&&decide (m≤maxLen)&&decide (m*by'≤140737488355328),.s (.l (.sl id 0 m)),[(id,some ⟨true,T,sz,rows⟩)]⟩
    | _=>none
   | none=>none
  | _,_,_=>none
 | none=>none
theorem U2 {P:Program} {t1 t2:TypeId} {x y:AV} {h:aF} {id:Nat} {r:AV} {E:aF} (hs:Ri P t1 t2 x y h id=some ⟨true,r,E⟩):∃ R,de P t1 t2 x y h id=some R∧R.ob∧R.r=r∧R.E=E:=by
 unfold Ri at hs
 split at hs
 case h_2=>cases hs
 rename_i T hT
 split at hs
 case h_2=>cases hs
 rename_i z by' sz h1 h2 h3
 split at hs
 case h_2=>cases hs
 rename_i ob m rows hsrc
 split at hs
 ·rename_i b n
  split at hs
  case h_2=>cases hs
  rename_i k hk
  split at hs
  case isFalse=>cases hs
  rename_i hc
  injection hs with hs
  injection hs with g1 g2 g3
  subst g2 g3
  simp only [Bool.and_eq_true,decide_eq_true_eq] at g1
  obtain ⟨⟨⟨rfl,g4⟩,g5⟩,g6⟩:=g1
  obtain ⟨o,hs1,ho⟩:=We hsrc
  unfold de
  simp only [hT,h1,h2,h3,hs1,hk]
  rw [if_pos hc]
  exact ⟨_,rfl,⟨ho,g4,g5,g6⟩,rfl,rfl⟩
 ·injection hs with hs
  injection hs with g1 g2 g3
  subst g2 g3
  simp only [Bool.and_eq_true,decide_eq_true_eq] at g1
  obtain ⟨⟨rfl,g5⟩,g6⟩:=g1
  obtain ⟨o,hs1,ho⟩:=We hsrc
  unfold de
  simp only [hT,h1,h2,h3,hs1]
  exact ⟨_,rfl,⟨ho,g5,g6⟩,rfl,rfl⟩
 ·cases hs
def Zj (P:Program) (t:TypeId) (x y:AV) (id:Nat):Option CQ :=
 match i5 P t with
 | some e=>match bP P e,bc P e with
  | some zs,some by_=>match x,y with
   | .s (.l (.v (.int _ l))),.s (.l (.v (.int _ c)))=>some ⟨decide (0≤l)&&decide (l≤c)&&decide (by_*c≤281474976710656)&&decide (c≤maxLen),.s (.l (.sl id 0 l.toNat)),[(id,some ⟨true,e,zs.length,List.replicate l.toNat (zs.map .v)⟩)]⟩
   | _,_=>none
  | _,_=>none
 | none=>none
theorem ZI {P:Program} {t:TypeId} {x y:AV} {id:Nat} {r:AV} {E:aF} (h:Zj P t x y id=some ⟨true,r,E⟩):∃ R,AR P t x y id=some R∧R.ob∧R.r=r∧R.E=E:=by
 unfold Zj at h
 split at h
 case h_2=>cases h
 rename_i e he
 split at h
 case h_2=>cases h
 rename_i zs by_ h1 h2
 split at h
 case h_2=>cases h
 rename_i k l k' c
 injection h with h
 injection h with g1 g2 g3
 subst g2 g3
 simp only [Bool.and_eq_true,decide_eq_true_eq] at g1
 unfold AR
 simp only [he,h1,h2]
 exact ⟨_,rfl,⟨g1.1.1.1,g1.1.1.2,g1.1.2,g1.2⟩,rfl,rfl⟩
def Q6 (P:Program) (src dst:TypeId) (x:AV) (h:aF) (id:Nat):Option CQ :=
 match x with
 | .s (.l (.sl b i n))=>if ga P src=true then match hget h b with
   | some k=>if cg P dst=true then (if k.sz=1 then match J6 JQ ((k.els.drop i).take n) with
     | some zs=>some ⟨decide (i+n≤k.els.length),.s (.l (.v (.string (cF zs)))),[]⟩
     | none=>none
     else none)
    else if src=dst∧k.own=true then some ⟨decide (0<n),.s (.l (.sl b i n)),[]⟩ else none
   | none=>none
   else none
 | .s (.l (.d (.sd sz els)))=>if ga P src=true∧cg P dst=true∧sz=1 then match J6 JQ (els.map cf) with
   | some zs=>some ⟨true,.s (.l (.v (.string (cF zs)))),[]⟩
   | none=>none
   else none
 | .s (.l (.v (.slice none 0 0)))=>if ga P src=true∧cg P dst=true then some ⟨true,.s (.l (.v (.string (cF [])))),[]⟩ else none
 | .s (.l (.v (.string s)))=>match i5 P dst with
  | some e=>if ga P dst=true∧cg P src=true then some ⟨decide (s.size≤maxLen),.s (.l (.sl id 0 s.size)),[(id,some ⟨true,e,1,(di s).map nM⟩)]⟩ else none
  | none=>none
 | _=>none
theorem Ql {P:Program} {src dst:TypeId} {x:AV} {h:aF} {id:Nat} {r:AV} {E:aF} (hs:Q6 P src dst x h id=some ⟨true,r,E⟩):∃ R,iR P src dst x h id=some R∧R.ob∧R.r=r∧R.E=E:=by
 unfold Q6 at hs
 unfold iR
 repeat' split at hs
 all_goals first | (cases hs;done) | skip
 all_goals
  try (rename_i hsd;obtain ⟨rfl,_⟩:=hsd)
  injection hs with hs
  injection hs with g1 g2 g3
  subst g2 g3
  simp only [*,and_self,if_true,if_false,Bool.false_eq_true]
  refine ⟨⟨_,_,_⟩,rfl,?_,rfl,rfl⟩
  first
  | trivial
  | exact of_decide_eq_true g1
  | simp_all
def UK (P:Program) (t:TypeId) (x:AV) (lo hi mx:Option AV) (h:aF):Option CQ :=
 match mx with
 | some _=>none
 | none=>match x with
  | .s (.l (.sl b i n))=>match bnd 0 lo,bnd n hi,hget h b,i5 P t with
   | some l,some m,some k,some e=>if bF P e=some k.sz then some ⟨decide (0≤l)&&decide (l≤m)&&decide (m≤n),.s (.l (.sl b (i+l.toNat) (m.toNat-l.toNat))),[]⟩ else none
   | _,_,_,_=>none
  | .s (.l (.d (.sd sz els)))=>match bnd 0 lo,bnd els.length hi,i5 P t with
   | some l,some m,some e=>if bF P e=some sz then some ⟨decide (0≤l)&&decide (l≤m)&&decide (m≤els.length),.s (.l (.d (.sd sz ((els.drop l.toNat).take (m.toNat-l.toNat))))),[]⟩ else none
   | _,_,_=>none
  | .s (.l (.v (.string s)))=>match bnd 0 lo,bnd s.size hi with
   | some l,some m=>if cg P t then some ⟨decide (0≤l)&&decide (l≤m)&&decide (m≤s.size),.s (.l (.v (.string (s.extract l.toNat m.toNat)))),[]⟩ else none
   | _,_=>none
  | .s (.l (.v (.slice none 0 0)))=>match bnd 0 lo,bnd 0 hi,i5 P t with
   | some l,some m,some e=>match bF P e with
    | some _=>some ⟨decide (l=0)&&decide (m=0),.s (.l (.v (.slice none 0 0))),[]⟩
    | none=>none
   | _,_,_=>none
  | _=>none
theorem Ye {P:Program} {t:TypeId} {x:AV} {lo hi mx:Option AV} {h:aF} {r:AV} {E:aF} (hs:UK P t x lo hi mx h=some ⟨true,r,E⟩):∃ R,cM P t x lo hi mx h=some R∧R.ob∧R.r=r∧R.E=E:=by
 unfold UK at hs
 unfold cM
 repeat' split at hs
 all_goals first | (cases hs;done) | skip
 all_goals
  injection hs with hs
  injection hs with g1 g2 g3
  subst g2 g3
  simp only [Bool.and_eq_true,decide_eq_true_eq] at g1
  simp only [*,if_true]
  refine ⟨⟨_,_,_⟩,rfl,?_,rfl,rfl⟩
  simp_all
theorem XU {P:Program} {t:TypeId} {x ix r:AV} (h:TL P t x ix=some (true,r)):∃ ob,cp P t x ix=some (ob,r)∧ob:=by
 unfold TL at h
 unfold cp
 split at h
 ·split at h
  case isFalse=>cases h
  rename_i hc
  injection h with h
  injection h with g1 g2
  subst g2
  simp only [Bool.and_eq_true,decide_eq_true_eq] at g1
  simp only [hc,if_true]
  exact ⟨_,rfl,g1⟩
 ·split at h
  case h_2=>cases h
  rename_i n e hu
  simp only [hu]
  split at h
  ·rename_i l h1 h2 h3
   split at h
   case isFalse=>cases h
   rename_i hc
   injection h with h
   injection h with g1 g2
   subst g2
   simp only [Bool.and_eq_true,decide_eq_true_eq] at g1
   simp only [h1,h2,h3]
   rw [if_pos hc]
   exact ⟨_,rfl,g1⟩
  ·rename_i h1 h2 h3
   split at h
   case isFalse=>cases h
   rename_i hc
   split at h
   case h_2=>cases h
   rename_i y hy
   injection h with h
   injection h with g1 g2
   subst g2
   simp only [h1,h2,h3]
   rw [if_pos hc]
   simp only [hy]
   exact ⟨_,rfl,of_decide_eq_true g1⟩
  ·rename_i s h1 h2
   split at h
   case isFalse=>cases h
   rename_i hc
   injection h with h
   injection h with g1 g2
   subst g2
   simp only [Bool.and_eq_true,decide_eq_true_eq] at g1
   simp only [h1,h2]
   rw [if_pos hc]
   exact ⟨_,rfl,g1⟩
  ·cases h
 ·cases h
def ZU (op:BinOp) (k:IntKind) (a b:Int):Option (Bool×Value):=match op with
  | .add=>some (true,.int k (k.wrap (a+b)))
  | .sub=>some (true,.int k (k.wrap (a-b)))
  | .mul=>some (true,.int k (k.wrap (a*b)))
  | .quo=>some (!decide (b=0),.int k (k.wrap (a.tdiv b)))
  | .rem=>some (!decide (b=0),.int k (a.tmod b))
  | .shl=>some (decide (0≤b),.int k (k.wrap (a*2 ^ min b.toNat k.bits)))
  | .shr=>some (decide (0≤b),.int k (a.fdiv (2 ^ min b.toNat k.bits)))
  | .and=>some (true,.int k (bits .and k a b))
  | .or=>some (true,.int k (bits .or k a b))
  | .xor=>some (true,.int k (bits .xor k a b))
  | .andNot=>some (true,.int k (bits .andNot k a b))
  | .eql=>some (true,.bool (a==b))
  | .neq=>some (true,.bool (a !=b))
  | .lss=>some (true,.bool (decide (a<b)))
  | .leq=>some (true,.bool (decide (a≤b)))
  | .gtr=>some (true,.bool (decide (a > b)))
  | .geq=>some (true,.bool (decide (a≥b)))
def Rl (op:BinOp):Bool:=match op with
 | .shl=>true
 | .shr=>true
 | _=>false
theorem Zq {P:Program} {op:BinOp} {t:TypeId} {xo yo:Operand} {k k':IntKind} {a b:Int} (hk:k=k'∨Rl op=true) {v:Value} (h:ZU op k a b=some (true,v)):∃ ob,bC P op t xo yo (.int k a) (.int k' b)=some (ob,v)∧ob:=by
 unfold ZU at h
 unfold bC
 cases op
 all_goals
  simp only [Option.some.injEq,Prod.mk.injEq] at h
  obtain ⟨h1,rfl⟩:=h
  first
  | (
   rcases hk with rfl | hk
   ·simp only [if_true]
    exact ⟨_,rfl,by first | trivial | exact of_decide_eq_true h1 | (simp at h1;exact h1)⟩
   ·first
    | (cases hk;done)
    | exact ⟨_,rfl,of_decide_eq_true h1⟩)
def YU (op:BinOp) (a b:ByteArray):Option (Bool×Value):=match op with
  | .add=>some (decide (a.size+b.size≤maxLen),.string (a++b))
  | .eql=>some (true,.bool (decide (a=b)))
  | .neq=>some (true,.bool (!decide (a=b)))
  | .lss=>some (true,.bool (Op.bytesLess a.toList b.toList))
  | _=>none
theorem YV {P:Program} {op:BinOp} {t:TypeId} {xo yo:Operand} {a b:ByteArray} {v:Value} (h:YU op a b=some (true,v)):∃ ob,bC P op t xo yo (.string a) (.string b)=some (ob,v)∧ob:=by
 unfold YU at h
 unfold bC
 cases op
 all_goals first
  | (cases h;done)
  | (
   simp only [Option.some.injEq,Prod.mk.injEq] at h
   obtain ⟨h1,rfl⟩:=h
   exact ⟨_,rfl,by first | trivial | exact of_decide_eq_true h1⟩)
def ZS (P:Program) (op:BinOp) (t:TypeId) (a b:Bool):Option Value:=match P.underlying t with
 | some .bool=>match op with
  | .eql=>some (.bool (a==b))
  | .neq=>some (.bool (a !=b))
  | _=>none
 | _=>none
theorem YM {P:Program} {op:BinOp} {t:TypeId} {xo yo:Operand} {a b:Bool} {v:Value} (h:ZS P op t a b=some v):∃ ob,bC P op t xo yo (.bool a) (.bool b)=some (ob,v)∧ob:=by
  unfold ZS at h
  split at h
  case h_2=>cases h
  rename_i hu
  have hg:∀ op w,(eqGuard op t xo yo (.bool a) (.bool b)).run P w=.ok () w:=by
    intro op w
    unfold eqGuard
    split<;>rfl
  have key:∀ q:Bool,(∀ w,(do eqGuard op t xo yo (.bool a) (.bool b);binOp op t (.bool a) (.bool b):Sem Value).run P w=.ok (.bool q) w)→v=.bool q→∃ ob,bC P op t xo yo (.bool a) (.bool b)=some (ob,v)∧ob:=by
    intro q hq hv
    subst hv
    refine ⟨True,?_,trivial⟩
    unfold bC
    simp only [mF hq]
  split at h
  · injection h with h
    refine key (a==b) (fun w=>?_) h.symm
    rw [Sem.run_bind,hg,Result.andThen_ok,show binOp .eql t (.bool a) (.bool b)=(do pure (.bool (← Op.equal t (.bool a) (.bool b)))) from rfl,Sem.run_bind,run_equal_bool _ _ _ _ hu]
    rfl
  · injection h with h
    refine key (a !=b) (fun w=>?_) h.symm
    rw [Sem.run_bind,hg,Result.andThen_ok,show binOp .neq t (.bool a) (.bool b)=(do pure (.bool (!(← Op.equal t (.bool a) (.bool b))))) from rfl,Sem.run_bind,run_equal_bool _ _ _ _ hu]
    rfl
  · cases h
theorem UY {P:Program} {t:TypeId} {x y:Operand} {xs ys:List Value}:sK P (do eqGuard .neq t x y (.agg xs.toArray) (.agg ys.toArray);binOp .neq t (.agg xs.toArray) (.agg ys.toArray))=LB true (Oo P (do eqGuard .neq t x y (.agg xs.toArray) (.agg ys.toArray);binOp .neq t (.agg xs.toArray) (.agg ys.toArray))) (Da P t xs ys):=by
  cases h:Da P t xs ys with
  | none=>rfl
  | some b =>
    refine mF fun w=>?_
    obtain ⟨h1,h2⟩:=OQ h .neq x y w
    rw [Sem.run_bind,h2,Result.andThen_ok,show binOp .neq t (.agg xs.toArray) (.agg ys.toArray)=(do pure (.bool (!(← Op.equal t (.agg xs.toArray) (.agg ys.toArray))))) from rfl,Sem.run_bind,h1]
    rfl
def eqOp (op:BinOp) (q:Bool):Option Value:=match op with
 | .eql=>some (.bool q)
 | .neq=>some (.bool !q)
 | _=>none
def cBinD (P:Program) (op:BinOp) (t:TypeId) (a b:List Value):Option Value:=match Da P t a b with
 | some q=>eqOp op q
 | none=>none
def Y6 (P:Program) (op:BinOp) (t:TypeId) (a b:List Value):Option Value:=match sI P t a b with
 | some q=>eqOp op q
 | none=>cBinD P op t a b
theorem Y3 {P:Program} {op:BinOp} {t:TypeId} {xo yo:Operand} {a b:Array Value} {v:Value} (h:Y6 P op t a.toList b.toList=some v):∃ ob,bC P op t xo yo (.agg a) (.agg b)=some (ob,v)∧ob:=by
 refine ⟨True,?_,trivial⟩
 unfold Y6 at h
 split at h
 ·rename_i q hq
  unfold bC
  unfold eqOp at h
  split at h
  ·injection h with h
   subst h
   have:=fi (P:=P) (t:=t) (x:=xo) (y:=yo) (xs:=a.toList) (ys:=b.toList)
   rw [hq] at this
   simp only [Array.toArray_toList] at this
   simp only [this,lT]
  ·injection h with h
   subst h
   have:=PE (P:=P) (t:=t) (x:=xo) (y:=yo) (xs:=a.toList) (ys:=b.toList)
   rw [hq] at this
   simp only [Array.toArray_toList] at this
   simp only [this,Nd]
  ·cases h
 ·unfold cBinD at h
  split at h
  case h_2=>cases h
  rename_i q hq
  unfold bC
  unfold eqOp at h
  split at h
  ·injection h with h
   subst h
   have:=Uy (P:=P) (t:=t) (x:=xo) (y:=yo) (xs:=a.toList) (ys:=b.toList)
   rw [hq] at this
   simp only [Array.toArray_toList] at this
   simp only [this,lT]
  ·injection h with h
   subst h
   have:=UY (P:=P) (t:=t) (x:=xo) (y:=yo) (xs:=a.toList) (ys:=b.toList)
   rw [hq] at this
   simp only [Array.toArray_toList] at this
   simp only [this,Nd]
  ·cases h
end
section
open Go.RowKit
abbrev Cl:=FuncId→Nat→aF→List AV→CO
structure NO {P:Program} (ctx:Ctx P) (call:Cl):Prop where
 val:∀ g id h args r E,call g id h args=.val r E→∃ run R,bO ctx g=some run∧run id h args=some R∧R.ob∧R.r=r∧R.E=E
 pan:∀ g id h args v E,call g id h args=.pan v E→∃ pan ob,bX ctx g=some pan∧pan id h args=some (ob,v,E)∧ob
def okC (e:Nat) (c:CQ):CO:=cond c.q (.val c.r c.E) (.no e)
def okQ (e:Nat) (x:Option CQ):CO:=match x with | some c=>okC e c | none=>.no e
def okR (e:Nat) (x:Option Res):CO:=match x with | some R=>.val R.r R.E | none=>.no e
def okA (e:Nat) (x:Option AV):CO:=match x with | some r=>.val r [] | none=>.no e
def okV (e:Nat) (x:Option Value):CO:=match x with | some v=>.val (.s (.l (.v v))) [] | none=>.no e
def okP (e:Nat) (x:Bool×Value):CO:=cond x.1 (.val (.s (.l (.v x.2))) []) (.no e)
def okB (e:Nat) (x:Option (Bool×Value)):CO:=match x with | some v=>okP e v | none=>.no e
def okI (e:Nat) (x:Option (Bool×AV)):CO:=match x with | some v=>cond v.1 (.val v.2 []) (.no e) | none=>.no e
theorem K6 {e:Nat} {x:Option CQ} {r:AV} {E:aF} (h:okQ e x=.val r E):x=some ⟨true,r,E⟩:=by
 unfold okQ at h
 split at h
 ·rename_i c
  obtain ⟨q,r',E'⟩:=c
  unfold okC at h
  cases q
  ·cases h
  ·injection h with h1 h2
   subst h1 h2
   rfl
 ·cases h
theorem Mk {e:Nat} {x:Option Res} {r:AV} {E:aF} (h:okR e x=.val r E):∃ R,x=some R∧R.r=r∧R.E=E:=by
 unfold okR at h
 split at h
 ·injection h with h1 h2
  exact ⟨_,rfl,h1,h2⟩
 ·cases h
theorem Rm {e:Nat} {x:Option AV} {r:AV} {E:aF} (h:okA e x=.val r E):x=some r∧E=[]:=by
 unfold okA at h
 split at h
 ·injection h with h1 h2
  subst h1 h2
  exact ⟨rfl,rfl⟩
 ·cases h
theorem DA {e:Nat} {x:Option Value} {r:AV} {E:aF} (h:okV e x=.val r E):∃ v,x=some v∧r=.s (.l (.v v))∧E=[]:=by
 unfold okV at h
 split at h
 ·injection h with h1 h2
  exact ⟨_,rfl,h1.symm,h2.symm⟩
 ·cases h
theorem VU {e:Nat} {x:Option (Bool×Value)} {r:AV} {E:aF} (h:okB e x=.val r E):∃ v,x=some (true,v)∧r=.s (.l (.v v))∧E=[]:=by
 unfold okB at h
 split at h
 ·rename_i v
  obtain ⟨q,v⟩:=v
  unfold okP at h
  cases q
  ·cases h
  ·injection h with h1 h2
   exact ⟨_,rfl,h1.symm,h2.symm⟩
 ·cases h
theorem okI_val {e:Nat} {x:Option (Bool×AV)} {r:AV} {E:aF} (h:okI e x=.val r E):x=some (true,r)∧E=[]:=by
 unfold okI at h
 split at h
 ·rename_i v
  obtain ⟨q,v⟩:=v
  cases q
  ·cases h
  ·injection h with h1 h2
   subst h1 h2
   exact ⟨rfl,rfl⟩
 ·cases h
theorem Md {e:Nat} {x:Option CQ} {v:Value} {E:aF} (h:okQ e x=.pan v E):False:=by
 unfold okQ okC at h
 split at h
 ·rename_i c
  cases hq:c.q<;>rw [hq] at h<;>cases h
 ·cases h
theorem JS {e:Nat} {x:Option Res} {v:Value} {E:aF} (h:okR e x=.pan v E):False:=by
 unfold okR at h
 split at h<;>cases h
theorem QQ {e:Nat} {x:Option AV} {v:Value} {E:aF} (h:okA e x=.pan v E):False:=by
 unfold okA at h
 split at h<;>cases h
theorem DC {e:Nat} {x:Option Value} {v:Value} {E:aF} (h:okV e x=.pan v E):False:=by
 unfold okV at h
 split at h<;>cases h
theorem Wl {e:Nat} {x:Option (Bool×Value)} {v:Value} {E:aF} (h:okB e x=.pan v E):False:=by
 unfold okB okP at h
 split at h
 ·rename_i c
  cases hq:c.1<;>rw [hq] at h<;>cases h
 ·cases h
theorem okI_pan {e:Nat} {x:Option (Bool×AV)} {v:Value} {E:aF} (h:okI e x=.pan v E):False:=by
 unfold okI at h
 split at h
 ·rename_i c
  cases hq:c.1<;>rw [hq] at h<;>cases h
 ·cases h
theorem OA {P:Program} {t:TypeId} {u v:Value} {x y:Operand} {b:Bool} {w:World} (h1:binOp .neq t u v=(do pure (.bool (!(← Op.equal t u v))))) (h3:(eqGuard .neq t x y u v).run P w=.ok () w) (h4:∀ d,(Op.equalIn (d+1) t u v).run P w=.ok b w):(do eqGuard .neq t x y u v;binOp .neq t u v:Sem Value).run P w=.ok (.bool !b) w:=by
  have h5:(Op.equal t u v).run P w=.ok b w:=by
    unfold Op.equal
    rw [show Op.maxDepth=9999+1 from rfl]
    exact h4 9999
  rw [Sem.run_bind,h3,Result.andThen_ok,h1,Sem.run_bind,h5]
  rfl
def Q1 (x:Operand):Bool:=match x with | .const _=>true | _=>false
def Te (P:Program) (op:BinOp) (t:TypeId) (yo:Operand) (same:Bool):Option Value:=cond (Nat.beq (kT P t) 4&&Q1 yo) (match op with
 | .eql=>some (.bool same)
 | .neq=>some (.bool !same)
 | _=>none) none
theorem X6 {P:Program} {op:BinOp} {t:TypeId} {xo yo:Operand} {v:Value} (h:Te P op t yo true=some v):∃ ob,bC P op t xo yo .nilIface .nilIface=some (ob,v)∧ob:=by
  unfold Te at h
  cases hc:(Nat.beq (kT P t) 4&&Q1 yo)
  · rw [hc] at h;cases h
  · rw [hc] at h
    simp only [Bool.and_eq_true] at hc
    obtain ⟨hk,hy⟩:=hc
    have hk:=Nat.eq_of_beq_eq_true hk
    cases yo with
    | const c =>
      simp only [cond_true] at h
      obtain ⟨ms,hu⟩:=MM hk
      refine ⟨True,?_,trivial⟩
      unfold bC
      split at h
      · injection h with h;subst h
        simp only [RF (x:=xo) (c:=c) hk]
      · injection h with h;subst h
        have:sK P (do eqGuard .neq t xo (.const c) .nilIface .nilIface;binOp .neq t .nilIface .nilIface)=some (.bool false):=mF fun w=>OA (b:=true) rfl (by cases xo<;>rfl) (fun d=>by simp only [Op.equalIn,Sem.run_bind,run_underlying hu,Result.andThen_ok];rfl)
        simp only [this]
        rfl
      · cases h
    | _=>cases hy
theorem Sl {P:Program} {op:BinOp} {t u:TypeId} {z:Value} {xo yo:Operand} {v:Value} (h:Te P op t yo false=some v):∃ ob,bC P op t xo yo (.iface u z) .nilIface=some (ob,v)∧ob:=by
  unfold Te at h
  cases hc:(Nat.beq (kT P t) 4&&Q1 yo)
  · rw [hc] at h;cases h
  · rw [hc] at h
    simp only [Bool.and_eq_true] at hc
    obtain ⟨hk,hy⟩:=hc
    have hk:=Nat.eq_of_beq_eq_true hk
    cases yo with
    | const c =>
      simp only [cond_true] at h
      obtain ⟨ms,hu⟩:=MM hk
      refine ⟨True,?_,trivial⟩
      unfold bC
      split at h
      · injection h with h;subst h
        simp only [OH (x:=xo) (c:=c) hk]
      · injection h with h;subst h
        have:sK P (do eqGuard .neq t xo (.const c) (.iface u z) .nilIface;binOp .neq t (.iface u z) .nilIface)=some (.bool true):=mF fun w=>OA (b:=false) rfl rfl (fun d=>by simp only [Op.equalIn,Sem.run_bind,run_underlying hu,Result.andThen_ok];rfl)
        simp only [this]
        rfl
      · cases h
    | _=>cases hy
def binI (op:BinOp) (k:IntKind) (a:Int) (y:Value):CO:=match y with
 | .int k' b=>cond (decide (k=k')||Rl op) (okB 2 (ZU op k a b)) (.no 2)
 | _=>.no 2
def binS (op:BinOp) (a:ByteArray) (y:Value):CO:=match y with
 | .string b=>okB 3 (YU op a b)
 | _=>.no 3
def binB (P:Program) (op:BinOp) (t:TypeId) (a:Bool) (y:Value):CO:=match y with
 | .bool b=>okV 4 (ZS P op t a b)
 | _=>.no 4
def binA (P:Program) (op:BinOp) (t:TypeId) (a:Array Value) (y:Value):CO:=match y with
 | .agg b=>okV 5 (Y6 P op t a.toList b.toList)
 | _=>.no 5
def Xy (P:Program) (op:BinOp) (t:TypeId) (yo:Operand) (same:Bool) (y:Value):CO:=match y with
 | .nilIface=>okV 6 (Te P op t yo same)
 | _=>.no 6
def YG (P:Program) (op:BinOp) (t:TypeId) (yo:Operand) (x y:Value):CO:=match x with
 | .int k a=>binI op k a y
 | .string a=>binS op a y
 | .bool a=>binB P op t a y
 | .agg a=>binA P op t a y
 | .nilIface=>Xy P op t yo true y
 | .iface _ _=>Xy P op t yo false y
 | _=>.no 7
theorem Yx {P:Program} {op:BinOp} {t:TypeId} {xo yo:Operand} {x y:Value} {r:AV} {E:aF} (h:YG P op t yo x y=.val r E):∃ ob v,bC P op t xo yo x y=some (ob,v)∧ob∧r=.s (.l (.v v))∧E=[]:=by
 have fin:∀ {v:Value},(∃ ob,bC P op t xo yo x y=some (ob,v)∧ob)→r=.s (.l (.v v))∧E=[]→∃ ob v,bC P op t xo yo x y=some (ob,v)∧ob∧r=.s (.l (.v v))∧E=[]:=fun ⟨ob,h1,h2⟩ ⟨h3,h4⟩=>⟨ob,_,h1,h2,h3,h4⟩
 unfold YG at h
 split at h
 ·unfold binI at h
  split at h
  case h_2=>cases h
  rename_i k' b
  cases hc:(decide (_=k')||Rl op)
  ·rw [hc] at h;cases h
  ·rw [hc] at h
   obtain ⟨v,h1,h2,h3⟩:=VU h
   simp only [Bool.or_eq_true,decide_eq_true_eq] at hc
   exact fin (Zq hc h1) ⟨h2,h3⟩
 ·unfold binS at h
  split at h
  case h_2=>cases h
  obtain ⟨v,h1,h2,h3⟩:=VU h
  exact fin (YV h1) ⟨h2,h3⟩
 ·unfold binB at h
  split at h
  case h_2=>cases h
  obtain ⟨v,h1,h2,h3⟩:=DA h
  exact fin (YM h1) ⟨h2,h3⟩
 ·unfold binA at h
  split at h
  case h_2=>cases h
  obtain ⟨v,h1,h2,h3⟩:=DA h
  exact fin (Y3 h1) ⟨h2,h3⟩
 ·unfold Xy at h
  split at h
  case h_2=>cases h
  obtain ⟨v,h1,h2,h3⟩:=DA h
  exact fin (X6 h1) ⟨h2,h3⟩
 ·unfold Xy at h
  split at h
  case h_2=>cases h
  obtain ⟨v,h1,h2,h3⟩:=DA h
  exact fin (Sl h1) ⟨h2,h3⟩
 ·cases h
theorem YC {P:Program} {op:BinOp} {t:TypeId} {yo:Operand} {x y v:Value} {E:aF} (h:YG P op t yo x y=.pan v E):False:=by
 unfold YG at h
 split at h
 ·unfold binI at h
  split at h
  case h_2=>cases h
  rename_i k' b
  cases hc:(decide (_=k')||Rl op)
  ·rw [hc] at h;cases h
  ·rw [hc] at h;exact Wl h
 ·unfold binS at h
  split at h
  case h_2=>cases h
  exact Wl h
 ·unfold binB at h
  split at h
  case h_2=>cases h
  exact DC h
 ·unfold binA at h
  split at h
  case h_2=>cases h
  exact DC h
 ·unfold Xy at h
  split at h
  case h_2=>cases h
  exact DC h
 ·unfold Xy at h
  split at h
  case h_2=>cases h
  exact DC h
 ·cases h
def Qi (x:AV):Bool:=match x with
 | .s (.l (.sl _ _ n))=>decide (0<n)
 | .s (.l (.d (.sd _ els)))=>!els.isEmpty
 | _=>true
def Qz (P:Program) (op:BinOp) (t:TypeId) (x y:AV):CO:=match I9 P t x y with
 | some q=>cond (Qi x) (okV 8 ((mf op q.2).map .bool)) (.no 8)
 | none=>.no 9
def Ux (P:Program) (op:BinOp) (t:TypeId) (yo:Operand) (x y:AV) (a:Value):CO:=match az y with
 | some b=>YG P op t yo a b
 | none=>Qz P op t x y
def SZ (P:Program) (op:BinOp) (t:TypeId) (yo:Operand) (x y:AV):CO:=match az x with
 | some a=>Ux P op t yo x y a
 | none=>Qz P op t x y
def TK (c a b:AV):CO:=match c with
 | .s (.l (.v (.bool q)))=>.val (cond q a b) []
 | _=>.no 10
def RC (P:Program) (t:TypeId) (id:Nat):CO:=match bP P t with
 | some zs=>okR 11 (some (cI t id (zs.map .v)))
 | none=>.no 11
def Z5 (t:TypeId) (id:Nat) (x:AV):CO:=match cellsOf x with
 | some xs=>okR 12 (some (cI t id xs))
 | none=>.no 12
def Ub (P:Program) (t:TypeId) (x ix:AV) (h:aF):CO:=cond (bJ P t x h) (okQ 13 (Pz P t x ix)) (.no 13)
def ZH (g:FuncId) (fs:List LV) (c:List AV):CO:=match i6 c with
 | some cs=>.val (.fn g fs cs) []
 | none=>.no 14
def opMk (g:Fn) (f c:List AV):CO:=match g with
 | .func g=>match i6 f with
  | some fs=>ZH g fs c
  | none=>.no 14
 | _=>.no 14
def UD (t:TypeId) (x:Option LV):CO:=match x with
 | some (.d d)=>.val (.s (.l (.d (.ifc t d)))) []
 | _=>.no 15
def ZY (P:Program) (t:TypeId) (x:AV):CO:=cond (bM P t) (match az x with
 | some v=>.val (.s (.l (.v (.iface t v)))) []
 | none=>UD t (td x)) (.no 15)
def opUn (op:UnOp) (x:AV):CO:=match az x with
 | some a=>okV 16 (aUn op a)
 | none=>.no 16
def QS (P:Program) (s d:TypeId) (x:AV) (h:aF) (id:Nat) (c:Option Value):CO:=match c with
 | some v=>.val (.s (.l (.v v))) []
 | none=>okQ 17 (Q6 P s d x h id)
def UO (P:Program) (s d:TypeId) (x:AV) (h:aF) (id:Nat):CO:=match az x with
 | some a=>QS P s d x h id (eA P s d a)
 | none=>okQ 17 (Q6 P s d x h id)
def UP (x:AV):CO:=match x with
 | .s (.l (.p b i j))=>.val (.s (.l (.p b i j))) []
 | _=>.no 18
def Z9 (x:AV) (n:Nat):CO:=match x with
 | .tup xs=>okA 19 (xs[n]?.map .s)
 | _=>.no 19
def RP (b:Builtin) (x y:AV):CO:=match az x with
 | some a=>match az y with
  | some c=>okV 20 (JW b a c)
  | none=>.no 20
 | none=>.no 20
def opB1 (P:Program) (b:Builtin) (t:TypeId) (x:AV):CO:=match b with
 | .len=>okV 21 (ct P t x)
 | _=>.no 21
def opB2 (P:Program) (b:Builtin) (t1 t2:TypeId) (x y:AV) (h:aF) (id:Nat):CO:=match b with
 | .append=>okQ 22 (Ri P t1 t2 x y h id)
 | .min=>RP .min x y
 | .max=>RP .max x y
 | _=>.no 22
def opT1 (P:Program) (b:Builtin) (x:AV) (ts:List TypeId):CO:=match ts with
 | [t]=>opB1 P b t x
 | _=>.no 23
def opT2 (P:Program) (b:Builtin) (x y:AV) (ts:List TypeId) (h:aF) (id:Nat):CO:=match ts with
 | [t1,t2]=>opB2 P b t1 t2 x y h id
 | _=>.no 23
def opBi (P:Program) (b:Builtin) (args:List Operand) (ts:List TypeId) (ev:Operand→AV) (h:aF) (id:Nat):CO:=match args with
 | [x]=>opT1 P b (ev x) ts
 | [x,y]=>opT2 P b (ev x) (ev y) ts h id
 | _=>.no 23
def ZR (call:Cl) (f:AV) (args:List AV) (h:aF) (id:Nat):CO:=match ax f with
 | some x=>call x.1 id h (x.2.1++args++x.2.2)
 | none=>.no 24
def O3 (P:Program) (call:Cl) (c:Call) (ev:Operand→AV) (h:aF) (id:Nat):CO:=match c.callee with
 | .builtin b=>opBi P b c.args.toList c.argTypes.toList ev h id
 | .value f=>ZR call (ev f) (c.args.toList.map ev) h id
 | _=>.no 25
def ZD (x:AV):CO:=match x with
 | .s (.l (.v (.iface t v)))=>.pan (.iface t v) []
 | _=>.no 26
def cOp (P:Program) (call:Cl) (id:Nat) (o:Op) (ev:Operand→AV) (h:aF):CO:=match o with
 | .move x=>.val (ev x) []
 | .assign x=>.val (ev x) []
 | .pick c a b=>TK (ev c) (ev a) (ev b)
 | .load t x=>okR 30 (bm P t (ev x) h)
 | .store t x y=>okR 31 (bB P t (ev x) (ev y) h)
 | .alloc t=>RC P t id
 | .box t x=>Z5 t id (ev x)
 | .build t ps=>okR 32 (bQ P t (ps.toList.map fun (i,x)=>(i,ev x)))
 | .buildSlice t n ps=>okR 33 (bu P t n (ps.toList.map fun (i,x)=>(i,ev x)) id)
 | .makeSlice t x y=>okQ 34 (Zj P t (ev x) (ev y) id)
 | .fieldAddr t x f=>okR 35 (co P t (ev x) f)
 | .indexAddr t x ix=>Ub P t (ev x) (ev ix) h
 | .index t x ix=>okI 36 (TL P t (ev x) (ev ix))
 | .slice t x lo hi mx=>okQ 37 (UK P t (ev x) (lo.map ev) (hi.map ev) (mx.map ev) h)
 | .binOp op t x y _=>SZ P op t y (ev x) (ev y)
 | .makeFunc g f c=>opMk g (f.toList.map ev) (c.toList.map ev)
 | .makeInterface t x=>ZY P t (ev x)
 | .unOp op _ x=>opUn op (ev x)
 | .convert s d x=>UO P s d (ev x) h id
 | .nilCheck x=>UP (ev x)
 | .extract x n=>Z9 (ev x) n
 | .field t x f=>okA 38 (Kj P t (ev x) f)
 | .typeAssert x _ t ok=>okA 39 (NY P t ok (ev x))
 | .call c=>O3 P call c ev h id
 | .panic x=>ZD (ev x)
 | _=>.no 40
end
section
open Go.RowKit
section
variable {P:Program} {t:TypeId} {x y:AV} {h:aF} {id:Nat} {R:Res}
theorem Yt (hs:bm P t x h=some R):R.ob:=by
 unfold bm at hs
 repeat' split at hs
 all_goals first | (cases hs;done) | (injection hs with hs;subst hs;trivial)
theorem Yd (hs:bB P t x y h=some R):R.ob:=by
 unfold bB at hs
 repeat' split at hs
 all_goals first | (cases hs;done) | (injection hs with hs;subst hs;trivial)
theorem Xf {ps:List (Nat×AV)} (hs:bQ P t ps=some R):R.ob:=by
 unfold bQ at hs
 repeat' split at hs
 all_goals first | (cases hs;done) | (injection hs with hs;subst hs;trivial)
theorem OI {n:Nat} {ps:List (Nat×AV)} (hs:bu P t n ps id=some R):R.ob:=by
 unfold bu at hs
 repeat' split at hs
 all_goals first | (cases hs;done) | (injection hs with hs;subst hs;trivial)
theorem WE {f:Nat} (hs:co P t x f=some R):R.ob:=by
 unfold co at hs
 repeat' split at hs
 all_goals first | (cases hs;done) | (injection hs with hs;subst hs;trivial)
theorem aNil_ob {ob:Prop} {b:Bool} (hs:I9 P t x y=some (ob,b)) (hn:Qi x=true):ob:=by
 unfold I9 at hs
 repeat' split at hs
 all_goals first
  | (cases hs;done)
  | (
   injection hs with hs
   injection hs with h1 h2
   subst h1
   first
   | trivial
   | (simp only [Qi,decide_eq_true_eq] at hn;exact hn)
   | (
    simp only [Qi,Bool.not_eq_true'] at hn
    intro he
    rw [he] at hn
    cases hn))
end
section
variable {P:Program} {ctx:Ctx P} {call:Cl} {id:Nat} {ev:Operand→AV} {h:aF}
theorem Qr {op:BinOp} {t:TypeId} {x y r:AV} {E:aF} (hs:Qz P op t x y=.val r E):∃ ob b q,I9 P t x y=some (ob,b)∧ob∧mf op b=some q∧r=.s (.l (.v (.bool q)))∧E=[]:=by
 unfold Qz at hs
 split at hs
 case h_2=>cases hs
 rename_i q hq
 obtain ⟨ob,b⟩:=q
 cases hn:Qi x
 ·rw [hn] at hs;cases hs
 ·rw [hn] at hs
  obtain ⟨v,h1,h2,h3⟩:=DA hs
  rw [Option.map_eq_some_iff] at h1
  obtain ⟨q,h1,rfl⟩:=h1
  exact ⟨ob,b,q,hq,aNil_ob hq hn,h1,h2,h3⟩
theorem Qc {op:BinOp} {t:TypeId} {x y:AV} {v:Value} {E:aF} (hs:Qz P op t x y=.pan v E):False:=by
 unfold Qz at hs
 split at hs
 case h_2=>cases hs
 cases hn:Qi x
 ·rw [hn] at hs;cases hs
 ·rw [hn] at hs;exact DC hs
theorem WQ {op:BinOp} {t u:TypeId} {xo yo:Operand} {b:TypeId} {r:AV} {E:aF} (hs:SZ P op t yo (ev xo) (ev yo)=.val r E):∃ R,aOp P ctx id (.binOp op t xo yo u) ev h=some R∧R.ob∧R.r=r∧R.E=E:=by
 unfold SZ at hs
 split at hs
 ·rename_i a ha
  unfold Ux at hs
  split at hs
  ·rename_i b hb
   obtain ⟨ob,v,h1,h2,rfl,rfl⟩:=Yx (xo:=xo) hs
   simp only [aOp,ha,hb,h1]
   exact ⟨_,rfl,h2,rfl,rfl⟩
  ·rename_i hb
   obtain ⟨ob,b,q,h1,h2,h3,rfl,rfl⟩:=Qr hs
   simp only [aOp,ha,hb,h1,h3]
   exact ⟨_,rfl,h2,rfl,rfl⟩
 ·rename_i ha
  obtain ⟨ob,b,q,h1,h2,h3,rfl,rfl⟩:=Qr hs
  simp only [aOp,ha,h1,h3]
  exact ⟨_,rfl,h2,rfl,rfl⟩
theorem W2 {op:BinOp} {t:TypeId} {yo:Operand} {x y:AV} {v:Value} {E:aF} (hs:SZ P op t yo x y=.pan v E):False:=by
 unfold SZ at hs
 split at hs
 ·unfold Ux at hs
  split at hs
  ·exact YC hs
  ·exact Qc hs
 ·exact Qc hs
theorem Ve (hc:NO ctx call) {c:Call} {r:AV} {E:aF} (hs:O3 P call c ev h id=.val r E):∃ R,aOp P ctx id (.call c) ev h=some R∧R.ob∧R.r=r∧R.E=E:=by
 unfold O3 at hs
 split at hs
 ·rename_i b hb
  unfold opBi at hs
  split at hs
  ·rename_i x hx
   unfold opT1 at hs
   split at hs
   case h_2=>cases hs
   rename_i t ht
   unfold opB1 at hs
   split at hs
   case h_2=>cases hs
   obtain ⟨v,h1,rfl,rfl⟩:=DA hs
   simp only [aOp,hb,hx,ht,h1]
   exact ⟨_,rfl,trivial,rfl,rfl⟩
  ·rename_i x y hx
   unfold opT2 at hs
   split at hs
   case h_2=>cases hs
   rename_i t1 t2 ht
   unfold opB2 at hs
   split at hs
   ·obtain ⟨R,h1,h2,h3,h4⟩:=U2 (K6 hs)
    simp only [aOp,hb,hx,ht,h1]
    exact ⟨_,rfl,h2,h3,h4⟩
   ·unfold RP at hs
    split at hs
    case h_2=>cases hs
    rename_i a ha
    split at hs
    case h_2=>cases hs
    rename_i d hd
    obtain ⟨v,h1,rfl,rfl⟩:=DA hs
    simp only [aOp,hb,hx,ht,ha,hd,h1]
    exact ⟨_,rfl,trivial,rfl,rfl⟩
   ·unfold RP at hs
    split at hs
    case h_2=>cases hs
    rename_i a ha
    split at hs
    case h_2=>cases hs
    rename_i d hd
    obtain ⟨v,h1,rfl,rfl⟩:=DA hs
    simp only [aOp,hb,hx,ht,ha,hd,h1]
    exact ⟨_,rfl,trivial,rfl,rfl⟩
   ·cases hs
  ·cases hs
 ·rename_i f hf
  unfold ZR at hs
  split at hs
  case h_2=>cases hs
  rename_i q hq
  obtain ⟨g,first,cap⟩:=q
  obtain ⟨run,R,h1,h2,h3,h4,h5⟩:=hc.val _ _ _ _ _ _ hs
  simp only [aOp,hf,hq,h1]
  exact ⟨R,h2,h3,h4,h5⟩
 ·cases hs
theorem Uh (hc:NO ctx call) {c:Call} {v:Value} {E:aF} (hs:O3 P call c ev h id=.pan v E):∃ ob,bx P ctx id (.call c) ev h=some (ob,v,E)∧ob:=by
 unfold O3 at hs
 split at hs
 ·rename_i b hb
  exfalso
  unfold opBi at hs
  split at hs
  ·unfold opT1 at hs
   split at hs
   case h_2=>cases hs
   unfold opB1 at hs
   split at hs
   case h_2=>cases hs
   exact DC hs
  ·unfold opT2 at hs
   split at hs
   case h_2=>cases hs
   unfold opB2 RP at hs
   split at hs
   ·exact Md hs
   ·repeat' split at hs
    all_goals first | (cases hs;done) | exact DC hs
   ·repeat' split at hs
    all_goals first | (cases hs;done) | exact DC hs
   ·cases hs
  ·cases hs
 ·rename_i f hf
  unfold ZR at hs
  split at hs
  case h_2=>cases hs
  rename_i q hq
  obtain ⟨g,first,cap⟩:=q
  obtain ⟨pan,ob,h1,h2,h3⟩:=hc.pan _ _ _ _ _ _ hs
  simp only [bx,hf,hq,h1]
  exact ⟨ob,h2,h3⟩
 ·cases hs
theorem VN (hc:NO ctx call) {o:Op} {r:AV} {E:aF} (hs:cOp P call id o ev h=.val r E):∃ R,aOp P ctx id o ev h=some R∧R.ob∧R.r=r∧R.E=E:=by
 cases o with
 | move x=>injection hs with h1 h2;subst h1 h2;exact ⟨_,rfl,trivial,rfl,rfl⟩
 | assign x=>injection hs with h1 h2;subst h1 h2;exact ⟨_,rfl,trivial,rfl,rfl⟩
 | pick c a b =>
  simp only [cOp] at hs
  unfold TK at hs
  split at hs
  case h_2=>cases hs
  rename_i q hq
  injection hs with h1 h2
  subst h1 h2
  simp only [aOp,hq]
  cases q
  ·exact ⟨_,rfl,trivial,rfl,rfl⟩
  ·exact ⟨_,rfl,trivial,rfl,rfl⟩
 | load t x=>obtain ⟨R,h1,h2,h3⟩:=Mk hs;exact ⟨R,h1,Yt h1,h2,h3⟩
 | store t x y=>obtain ⟨R,h1,h2,h3⟩:=Mk hs;exact ⟨R,h1,Yd h1,h2,h3⟩
 | alloc t =>
  simp only [cOp] at hs
  unfold RC at hs
  split at hs
  case h_2=>cases hs
  rename_i zs hz
  injection hs with h1 h2
  subst h1 h2
  simp only [aOp,hz]
  exact ⟨_,rfl,trivial,rfl,rfl⟩
 | box t x =>
  simp only [cOp] at hs
  unfold Z5 at hs
  split at hs
  case h_2=>cases hs
  rename_i xs hx
  injection hs with h1 h2
  subst h1 h2
  simp only [aOp,hx]
  exact ⟨_,rfl,trivial,rfl,rfl⟩
 | build t ps=>obtain ⟨R,h1,h2,h3⟩:=Mk hs;exact ⟨R,h1,Xf h1,h2,h3⟩
 | buildSlice t n ps=>obtain ⟨R,h1,h2,h3⟩:=Mk hs;exact ⟨R,h1,OI h1,h2,h3⟩
 | makeSlice t x y=>obtain ⟨R,h1,h2,h3,h4⟩:=ZI (K6 hs);exact ⟨R,h1,h2,h3,h4⟩
 | fieldAddr t x f=>obtain ⟨R,h1,h2,h3⟩:=Mk hs;exact ⟨R,h1,WE h1,h2,h3⟩
 | indexAddr t x ix =>
  simp only [cOp] at hs
  unfold Ub at hs
  cases hf:bJ P t (ev x) h
  ·rw [hf] at hs;cases hs
  ·rw [hf] at hs
   obtain ⟨R,h1,h2,h3,h4⟩:=RU (K6 hs)
   simp only [aOp,hf,if_true]
   exact ⟨R,h1,h2,h3,h4⟩
 | index t x ix =>
  obtain ⟨h0,rfl⟩:=okI_val hs
  obtain ⟨ob,h1,h2⟩:=XU h0
  simp only [aOp,h1]
  exact ⟨_,rfl,h2,rfl,rfl⟩
 | slice t x lo hi mx=>obtain ⟨R,h1,h2,h3,h4⟩:=Ye (K6 hs);exact ⟨R,h1,h2,h3,h4⟩
 | binOp op t x y u=>exact WQ (b:=t) hs
 | makeFunc g f c =>
  simp only [cOp] at hs
  unfold opMk at hs
  split at hs
  case h_2=>cases hs
  split at hs
  case h_2=>cases hs
  rename_i fs hf
  unfold ZH at hs
  split at hs
  case h_2=>cases hs
  rename_i cs hcs
  injection hs with h1 h2
  subst h1 h2
  simp only [aOp,hf,hcs]
  exact ⟨_,rfl,trivial,rfl,rfl⟩
 | makeInterface t x =>
  simp only [cOp] at hs
  unfold ZY at hs
  cases hi:bM P t
  ·rw [hi] at hs;cases hs
  ·rw [hi] at hs
   simp only [cond_true] at hs
   split at hs
   ·rename_i v hv
    injection hs with h1 h2
    subst h1 h2
    simp only [aOp,hi,hv,if_true]
    exact ⟨_,rfl,trivial,rfl,rfl⟩
   ·rename_i hv
    unfold UD at hs
    split at hs
    case h_2=>cases hs
    rename_i d hd
    injection hs with h1 h2
    subst h1 h2
    simp only [aOp,hi,hv,hd,if_true]
    exact ⟨_,rfl,trivial,rfl,rfl⟩
 | unOp op t x =>
  simp only [cOp] at hs
  unfold opUn at hs
  split at hs
  case h_2=>cases hs
  rename_i a ha
  obtain ⟨v,h1,rfl,rfl⟩:=DA hs
  simp only [aOp,ha,h1]
  exact ⟨_,rfl,trivial,rfl,rfl⟩
 | convert s d x =>
  simp only [cOp] at hs
  unfold UO at hs
  split at hs
  ·rename_i a ha
   unfold QS at hs
   split at hs
   ·rename_i v hv
    injection hs with h1 h2
    subst h1 h2
    simp only [aOp,ha,hv]
    exact ⟨_,rfl,trivial,rfl,rfl⟩
   ·rename_i hv
    obtain ⟨R,h1,h2,h3,h4⟩:=Ql (K6 hs)
    simp only [aOp,ha,hv]
    exact ⟨R,h1,h2,h3,h4⟩
  ·rename_i ha
   obtain ⟨R,h1,h2,h3,h4⟩:=Ql (K6 hs)
   simp only [aOp,ha]
   exact ⟨R,h1,h2,h3,h4⟩
 | nilCheck x =>
  simp only [cOp] at hs
  unfold UP at hs
  split at hs
  case h_2=>cases hs
  rename_i b i j hx
  injection hs with h1 h2
  subst h1 h2
  simp only [aOp,hx]
  exact ⟨_,rfl,trivial,rfl,rfl⟩
 | extract x n =>
  simp only [cOp] at hs
  unfold Z9 at hs
  split at hs
  case h_2=>cases hs
  rename_i xs hx
  obtain ⟨h1,rfl⟩:=Rm hs
  rw [Option.map_eq_some_iff] at h1
  obtain ⟨a,h1,rfl⟩:=h1
  simp only [aOp,hx,h1]
  exact ⟨_,rfl,trivial,rfl,rfl⟩
 | field t x f =>
  obtain ⟨h1,rfl⟩:=Rm hs
  simp only [aOp,h1]
  exact ⟨_,rfl,trivial,rfl,rfl⟩
 | typeAssert x u t ok =>
  obtain ⟨h1,rfl⟩:=Rm hs
  simp only [aOp,h1]
  exact ⟨_,rfl,trivial,rfl,rfl⟩
 | call c=>exact Ve hc hs
 | panic x =>
  simp only [cOp] at hs
  unfold ZD at hs
  split at hs<;>cases hs
 | _=>cases hs
theorem cOp_pan (hc:NO ctx call) {o:Op} {v:Value} {E:aF} (hs:cOp P call id o ev h=.pan v E):∃ ob,bx P ctx id o ev h=some (ob,v,E)∧ob:=by
 cases o with
 | call c=>exact Uh hc hs
 | panic x =>
  simp only [cOp] at hs
  unfold ZD at hs
  split at hs
  case h_2=>cases hs
  rename_i t z hx
  injection hs with h1 h2
  subst h1 h2
  simp only [bx,hx]
  exact ⟨_,rfl,trivial⟩
 | load t x=>exact (JS hs).elim
 | store t x y=>exact (JS hs).elim
 | build t ps=>exact (JS hs).elim
 | buildSlice t n ps=>exact (JS hs).elim
 | makeSlice t x y=>exact (Md hs).elim
 | fieldAddr t x f=>exact (JS hs).elim
 | index t x ix=>exact (okI_pan hs).elim
 | slice t x lo hi mx=>exact (Md hs).elim
 | binOp op t x y u=>exact (W2 hs).elim
 | field t x f=>exact (QQ hs).elim
 | typeAssert x u t ok=>exact (QQ hs).elim
 | pick c a b=>exfalso;simp only [cOp] at hs;unfold TK at hs;split at hs<;>cases hs
 | alloc t=>exfalso;simp only [cOp] at hs;unfold RC at hs;split at hs<;>first | exact JS hs | cases hs
 | box t x=>exfalso;simp only [cOp] at hs;unfold Z5 at hs;split at hs<;>first | exact JS hs | cases hs
 | indexAddr t x ix=>exfalso;simp only [cOp] at hs;unfold Ub at hs;cases hf:bJ P t (ev x) h<;>rw [hf] at hs<;>first | exact Md hs | cases hs
 | makeFunc g f c =>
  exfalso;simp only [cOp] at hs;unfold opMk ZH at hs;repeat' split at hs
  all_goals cases hs
 | makeInterface t x =>
  exfalso;simp only [cOp] at hs;unfold ZY UD at hs;cases hi:bM P t<;>rw [hi] at hs<;>simp only [cond_true,cond_false] at hs
  ·cases hs
  ·repeat' split at hs
   all_goals cases hs
 | unOp op t x=>exfalso;simp only [cOp] at hs;unfold opUn at hs;split at hs<;>first | exact DC hs | cases hs
 | convert s d x =>
  exfalso;simp only [cOp] at hs;unfold UO QS at hs;repeat' split at hs
  all_goals first | exact Md hs | cases hs
 | nilCheck x=>exfalso;simp only [cOp] at hs;unfold UP at hs;split at hs<;>cases hs
 | extract x n=>exfalso;simp only [cOp] at hs;unfold Z9 at hs;split at hs<;>first | exact QQ hs | cases hs
 | _=>cases hs
end
end
end Go.Proofs.YthcoegkfpinlfaaGreatDoor
