import Derived.Test.YtpjlafmhoifkmaaGreatN22
set_option linter.unusedVariables false
set_option linter.unusedSimpArgs false
set_option maxRecDepth 100000
set_option maxHeartbeats 8000000
namespace Go.Proofs.YtpjlafmhoifkmaaGreat
open Go.RowKit
def xw3 {X:Type} (T:Ty X) (hpl:∀ x,(T.enc x).plain=true):Xw (X×X×X) where
 dec:=fun | [A,B,C]=>(match T.dec A,T.dec B,T.dec C with | some a,some b,some c=>some (a,b,c) | _,_,_=>none) | _=>none
 enc:=fun x=>[T.enc x.1,T.enc x.2.1,T.enc x.2.2]
 len:=3
 enc_len:=fun _=>rfl
 ok:=by
  intro zs x h ρ ρ' al al' vals hA
  split at h
  case h_2=>cases h
  split at h
  case h_2=>cases h
  rename_i h1 h2 h3
  injection h with h
  subst h
  match vals,hA with
  | [u,v,w],⟨a,b,c,_⟩=>exact ⟨(T.ok h1 a).plain (hpl _),(T.ok h2 b).plain (hpl _),(T.ok h3 c).plain (hpl _),trivial⟩
def ph:Ty Lim:=am jv
def wiF (l:List Lim) (x:Lim×Lim×Lim):List Lim:=l++[x.1,x.2.1,x.2.2].filter (fun f=>decide (0<f.1))
def wtL (l:List Lim) (x:Lim×Lim×Lim) (i:Nat):List Lim:=l++([x.1,x.2.1,x.2.2].take i).filter (fun f=>decide (0<f.1))
theorem Cs {l:List Lim} {x:Lim×Lim×Lim} {i:Nat} {f:Lim} (h:[x.1,x.2.1,x.2.2][i]? = some f):wtL l x (i+1)=if 0<f.1 then wtL l x i++[f] else wtL l x i:=by
 unfold wtL
 rw [List.take_add_one,h]
 simp only [Option.toList_some,List.filter_append,List.filter_cons,List.filter_nil]
 by_cases h1:0<f.1<;>simp [h1]
theorem GV (l:List Lim) (x:Lim×Lim×Lim) (i:Nat):(wtL l x i).length≤l.length+3:=by
 unfold wtL
 rw [List.length_append]
 have h1:=List.length_filter_le (fun f:Lim=>decide (0<f.1)) ([x.1,x.2.1,x.2.2].take i)
 have h2:([x.1,x.2.1,x.2.2].take i).length≤3:=by rw [List.length_take];simp;omega
 omega
def wtI (l:List Lim) (x:Lim×Lim×Lim) (i:Nat):St:=⟨2,[(0,.s (.l (.sl 0 0 (wtL l x i).length))),(9,.s (.l (.sl 1 0 3))),(10,iv i)],[(0,some (aY.blk (wtL l x i))),(1,some (aY.blk [x.1,x.2.1,x.2.2]))]⟩
theorem t6 (args:Array Value) (w:World):(callFunc 132 args).run Tryz.prog w=.ok (.enter 132 args) w:=by go_simp
theorem so (l:List Lim) (x:Lim×Lim×Lim) (h:l.length≤20):SW Tryz.prog ⟨none,0⟩ Tryz.f132.ntmps (Tryz.f132.body.getD .skip) ⟨1,ag 0 (.s (.l (.sl 0 0 l.length))::(xw3 ph (fun _=>rfl)).enc x),cn 0 [aY.blk l]⟩
  (fy Tryz.prog Tryz.f132.results.toList 0 (ee aY wiF (l,x))):=by
 refine aa (ctx:=[]) 4000 ?_
 rw [Tryz.ntmps132,Tryz.results132]
 simp only [Tryz.f132,Option.getD_some,ag]
 obtain ⟨a,b,c⟩:=x
 simp only [go_sem,RowL.blk,aY,dx,xw3,ph,jv]
 refine cM (ι:=Nat) (fun i=>i≤3) (wtI l (a,b,c)) (fun i=>3-i) 0 (Nat.zero_le _) (Wk.renL [0,113] (by simp) (Nat.le_refl 2) (by decide) (by simp [wtI,wtL,cR,AV.ren,SV.ren,LV.ren]) (by simp [wtI,wtL,hget,Blk.ren,RowL.blk,aY,dx,LV.ren,Function.comp_def])) ?_
 intro i hi
 refine aa (ctx:=[]) 4000 ?_
 by_cases hlt:i<3
 ·have hltI:(i:Int)<3:=by omega
  obtain ⟨f,hf⟩:∃ f,[a,b,c][i]? = some f:=⟨_,List.getElem?_eq_getElem hlt⟩
  have hsn:=Cs (l:=l) (x:=(a,b,c)) hf
  have ei:IntKind.i64.wrap ((i:Int)+1)=((i+1:Nat):Int):=by rw [IntKind.wrap_i64];omega
  have hrow:(List.map dx [a,b,c])[i]? = some (dx f):=by rw [List.getElem?_map,hf];rfl
  simp only [List.map_cons,List.map_nil,dx] at hrow
  obtain ⟨L,hL⟩:∃ L,wtL l (a,b,c) i=L:=⟨_,rfl⟩
  have hlen:L.length≤23:=by rw [← hL];have:=GV l (a,b,c) i;omega
  have hm:L.length+1≤maxLen:=by unfold maxLen;omega
  have hb:(L.length+1)*24≤140737488355328:=by omega
  by_cases h0:0<f.1
  ·rw [if_pos h0,hL] at hsn
   simp only [go_sem,wtI,hL,RowL.blk,aY,dx,hltI,hrow,h0,hm,hb,ei]
   exact ⟨i+1,by omega,by omega,Wk.renL [258,1] (by simp) (Nat.le_refl 2) (by decide) (by rw [hsn,List.length_append];rfl) (by rw [hsn];simp [hget,Blk.ren,dx,LV.ren,Function.comp_def])⟩
  ·rw [if_neg h0,hL] at hsn
   simp only [go_sem,wtI,hL,RowL.blk,aY,dx,hltI,hrow,h0,ei]
   exact ⟨i+1,by omega,by omega,Wk.renL [0,1] (by simp) (Nat.le_refl 2) (by decide) (by rw [hsn];rfl) (by rw [hsn];simp [hget,Blk.ren,dx,LV.ren,Function.comp_def])⟩
 ·obtain rfl:i=3:=by omega
  have e:wtL l (a,b,c) 3=wiF l (a,b,c):=rfl
  simp only [go_sem,wtI,e,RowL.blk,aY,dx,dE,cA,ee]
  exact iY (st:=⟨_,_,_⟩) (k:=aY.blk (wiF l (a,b,c))) rfl rfl (aY.blk_ren _)
def cK:aQ Tryz.prog 132 :=
 IU _ _ _ Tryz.func132 rfl t6 aY aY (xw3 ph (fun _=>rfl)) (fun l _=>l.length≤20) wiF (by rw [Tryz.ntmps132];decide) (fun l x h=>so l x h)
theorem yN {id:Nat} {h:ah} {args:List AV}:cK.run id h args=bT 0 (lb aY (xw3 ph (fun _=>rfl)) (fun l _=>l.length≤20)) (ee aY wiF) id h args:=rfl
theorem zy {id:Nat} {h:ah} {args:List AV}:cK.pan id h args=none:=rfl
def wP {X:Type} (T:Xw X) (_:ah):List AV→Option (Prop×List Nat×X)
 | .s (.l (.v (.slice none 0 0)))::zs=>(T.dec zs).map fun x=>(True,[],x)
 | _=>none
theorem zP (x:Lim×Lim×Lim):SW Tryz.prog ⟨none,0⟩ Tryz.f132.ntmps (Tryz.f132.body.getD .skip) ⟨0,ag 0 (.s (.l (.v (.slice none 0 0)))::(xw3 ph (fun _=>rfl)).enc x),[]⟩
  (fy Tryz.prog Tryz.f132.results.toList 0 (ee aY wiF ([],x))) :=
 SW.wk (so [] x (by decide)) ((Wk.nil 0 75 3 rfl).trans (Wk.renL [0] (by simp) (Nat.le_refl 1) (by decide) rfl rfl))
def jd:aQ Tryz.prog 132 :=
 mkQ 0 0 (by decide) _ _ _ Tryz.func132 rfl t6 (wP (xw3 ph (fun _=>rfl))) (fun x=>.s (.l (.v (.slice none 0 0)))::(xw3 ph (fun _=>rfl)).enc x) (fun _=>[]) (fun x=>ee aY wiF ([],x)) (by rw [Tryz.ntmps132];decide) (fun _ hd=>hd)
  (by
   intro h zs q bs x hd hq
   unfold wP at hd
   split at hd
   case h_2=>cases hd
   rename_i zs'
   cases hx:(xw3 ph (fun _=>rfl)).dec zs' with
   | none=>rw [hx] at hd;cases hd
   | some y =>
    rw [hx] at hd
    simp only [Option.map_some,Option.some.injEq,Prod.mk.injEq] at hd
    obtain ⟨rfl,rfl,rfl⟩:=hd
    refine ⟨by rw [Tryz.ntmps132];exact Nat.le_of_ble_eq_true rfl,rfl,rfl,List.nodup_nil,fun d=>⟨fun j b k hj=>by simp at hj,?_⟩⟩
    intro ρ al vals hA
    match vals,hA with
    | v::vs,⟨a,r⟩=>exact ⟨a,(xw3 ph (fun _=>rfl)).ok hx r⟩)
  (by
   intro h zs q bs x hd hq
   exact zP x)
theorem vz {id:Nat} {h:ah} {args:List AV}:jd.run id h args=bT 0 (wP (xw3 ph (fun _=>rfl))) (fun x=>ee aY wiF ([],x)) id h args:=rfl
theorem vU {id:Nat} {h:ah} {args:List AV}:jd.pan id h args=none:=rfl
theorem Ft:aU [1,2,3,4]=[(1,0,1),(2,0,1),(3,0,31),(4,0,31)]:=by decide
theorem Fc:(∀ z∈([1,2,3,4]:List Int),1≤z)=True:=by simp
theorem jK:aU [1,2,3,4,5]=[(1,0,1),(2,0,1),(3,0,31),(4,0,31),(5,0,31)]:=by decide
theorem jZ:(∀ z∈([1,2,3,4,5]:List Int),1≤z)=True:=by simp
theorem xJ:aU [1,2,3,4,5,6]=[(1,0,1),(2,0,1),(3,0,31),(4,0,31),(5,0,31),(6,0,31)]:=by decide
theorem yU:(∀ z∈([1,2,3,4,5,6]:List Int),1≤z)=True:=by simp
theorem GQ:aU [1,2,4,5]=[(1,0,1),(2,0,1),(4,0,31),(5,0,31)]:=by decide
theorem FI:(∀ z∈([1,2,4,5]:List Int),1≤z)=True:=by simp
theorem ni:aU [1,3]=[(1,0,1),(3,0,31)]:=by decide
theorem mU:(∀ z∈([1,3]:List Int),1≤z)=True:=by simp
theorem vm:aU [1,3,4]=[(1,0,1),(3,0,31),(4,0,31)]:=by decide
theorem vI:(∀ z∈([1,3,4]:List Int),1≤z)=True:=by simp
theorem q8:aU [1,3,4,5]=[(1,0,1),(3,0,31),(4,0,31),(5,0,31)]:=by decide
theorem q7:(∀ z∈([1,3,4,5]:List Int),1≤z)=True:=by simp
theorem C2:aU [1,3,4,5,6]=[(1,0,1),(3,0,31),(4,0,31),(5,0,31),(6,0,31)]:=by decide
theorem Dl:(∀ z∈([1,3,4,5,6]:List Int),1≤z)=True:=by simp
theorem re_2:aU [2]=[(2,0,1)]:=by decide
theorem rz_2:(∀ z∈([2]:List Int),1≤z)=True:=by simp
theorem Fl:aU [2,3,4,5]=[(2,0,1),(3,0,31),(4,0,31),(5,0,31)]:=by decide
theorem E9:(∀ z∈([2,3,4,5]:List Int),1≤z)=True:=by simp
theorem GJ:aU [2,3,4,6]=[(2,0,1),(3,0,31),(4,0,31),(6,0,31)]:=by decide
theorem E6:(∀ z∈([2,3,4,6]:List Int),1≤z)=True:=by simp
theorem EC:aU [3]=[(3,0,31)]:=by decide
theorem GF:(∀ z∈([3]:List Int),1≤z)=True:=by simp
theorem HD:aU [3,4]=[(3,0,31),(4,0,31)]:=by decide
theorem Ig:(∀ z∈([3,4]:List Int),1≤z)=True:=by simp
theorem re_4:aU [4]=[(4,0,31)]:=by decide
theorem rz_4:(∀ z∈([4]:List Int),1≤z)=True:=by simp
theorem rw1:wiF [(1,0,1),(3,0,31)] ((7,-1048576,1048575),(0,0,0),(0,0,0))=ac 1:=by decide
theorem rl1:ac 1=[(1,0,1),(3,0,31),(7,-1048576,1048575)]:=by decide
theorem rw2:wiF [(1,0,1),(2,0,1),(3,0,31),(4,0,31)] ((7,0,4095),(8,0,1),(9,0,1))=ac 2:=by decide
theorem rl2:ac 2=[(1,0,1),(2,0,1),(3,0,31),(4,0,31),(7,0,4095),(8,0,1),(9,0,1)]:=by decide
theorem rw3:wiF [(1,0,1),(3,0,31),(4,0,31)] ((7,-9223372036854775808,9223372036854775807),(8,0,3),(0,0,0))=ac 3:=by decide
theorem rl3:ac 3=[(1,0,1),(3,0,31),(4,0,31),(7,-9223372036854775808,9223372036854775807),(8,0,3)]:=by decide
theorem rw4:wiF [(1,0,1),(3,0,31)] ((7,0,65535),(8,0,3),(9,0,3))=ac 4:=by decide
theorem rl4:ac 4=[(1,0,1),(3,0,31),(7,0,65535),(8,0,3),(9,0,3)]:=by decide
theorem rw5:wiF [(1,0,1),(3,0,31),(4,0,31)] ((7,0,63),(8,0,2),(9,0,63))=ac 5:=by decide
theorem rl5:ac 5=[(1,0,1),(3,0,31),(4,0,31),(7,0,63),(8,0,2),(9,0,63)]:=by decide
theorem rw6:wiF [(1,0,1),(3,0,31),(4,0,31),(5,0,31)] ((7,0,63),(0,0,0),(0,0,0))=ac 6:=by decide
theorem rl6:ac 6=[(1,0,1),(3,0,31),(4,0,31),(5,0,31),(7,0,63)]:=by decide
theorem rw7:wiF [] ((7,-262144,262143),(8,0,15),(0,0,0))=ac 7:=by decide
theorem rl7:ac 7=[(7,-262144,262143),(8,0,15)]:=by decide
theorem rw8:wiF [(2,0,1)] ((7,-33554432,33554431),(0,0,0),(0,0,0))=ac 8:=by decide
theorem rl8:ac 8=[(2,0,1),(7,-33554432,33554431)]:=by decide
theorem rw9:wiF [(1,0,1),(3,0,31)] ((7,-262144,262143),(8,0,1),(0,0,0))=ac 9:=by decide
theorem rl9:ac 9=[(1,0,1),(3,0,31),(7,-262144,262143),(8,0,1)]:=by decide
theorem rw10:wiF [(3,0,31)] ((7,-8192,8191),(8,0,1),(9,0,63))=ac 10:=by decide
theorem rl10:ac 10=[(3,0,31),(7,-8192,8191),(8,0,1),(9,0,63)]:=by decide
theorem rw11:wiF [(4,0,31)] ((0,0,0),(8,0,4),(0,0,0))=ac 11:=by decide
theorem rl11:ac 11=[(4,0,31),(8,0,4)]:=by decide
theorem rw12:wiF [] ((7,0,65535),(8,0,7),(0,0,0))=ac 12:=by decide
theorem rl12:ac 12=[(7,0,65535),(8,0,7)]:=by decide
theorem rw13:wiF [] ((7,0,127),(0,0,0),(0,0,0))=ac 13:=by decide
theorem rl13:ac 13=[(7,0,127)]:=by decide
theorem rw14:wiF [] ((7,0,15),(8,2,6),(0,0,0))=ac 14:=by decide
theorem rl14:ac 14=[(7,0,15),(8,2,6)]:=by decide
theorem rw15:wiF [(3,0,31)] ((7,0,32767),(8,0,1),(0,0,0))=ac 15:=by decide
theorem rl15:ac 15=[(3,0,31),(7,0,32767),(8,0,1)]:=by decide
theorem rw16:wiF [] ((7,0,15),(8,0,5),(0,0,0))=ac 16:=by decide
theorem rl16:ac 16=[(7,0,15),(8,0,5)]:=by decide
theorem rw17:wiF [(3,0,31)] ((7,0,16383),(8,0,1),(0,0,0))=ac 17:=by decide
theorem rl17:ac 17=[(3,0,31),(7,0,16383),(8,0,1)]:=by decide
theorem rw18:wiF [(3,0,31)] ((7,-262144,262143),(8,0,3),(0,0,0))=ac 18:=by decide
theorem rl18:ac 18=[(3,0,31),(7,-262144,262143),(8,0,3)]:=by decide
theorem rw19:wiF [(2,0,1),(3,0,31),(4,0,31),(6,0,31)] ((7,-64,63),(8,0,2),(9,0,3))=ac 19:=by decide
theorem rl19:ac 19=[(2,0,1),(3,0,31),(4,0,31),(6,0,31),(7,-64,63),(8,0,2),(9,0,3)]:=by decide
theorem rw20:wiF [(3,0,31),(4,0,31)] ((7,0,4095),(8,0,3),(9,0,3))=ac 20:=by decide
theorem rl20:ac 20=[(3,0,31),(4,0,31),(7,0,4095),(8,0,3),(9,0,3)]:=by decide
theorem rw21:wiF [(3,0,31),(4,0,31),(6,0,3)] ((7,-256,255),(8,0,3),(9,0,3))=ac 21:=by decide
theorem rl21:ac 21=[(3,0,31),(4,0,31),(6,0,3),(7,-256,255),(8,0,3),(9,0,3)]:=by decide
theorem rw22:wiF [(2,0,1),(3,0,31),(4,0,31),(5,0,31)] ((7,2,7),(8,0,3),(9,0,3))=ac 22:=by decide
theorem rl22:ac 22=[(2,0,1),(3,0,31),(4,0,31),(5,0,31),(7,2,7),(8,0,3),(9,0,3)]:=by decide
theorem rw23:wiF [(1,0,1),(2,0,1),(3,0,31),(4,0,31),(5,0,31),(6,0,31)] ((7,0,2),(8,0,3),(0,0,0))=ac 23:=by decide
theorem rl23:ac 23=[(1,0,1),(2,0,1),(3,0,31),(4,0,31),(5,0,31),(6,0,31),(7,0,2),(8,0,3)]:=by decide
theorem rw24:wiF [(1,0,1),(2,0,1),(3,0,31),(4,0,31),(5,0,31)] ((7,0,63),(8,0,3),(9,0,3))=ac 24:=by decide
theorem rl24:ac 24=[(1,0,1),(2,0,1),(3,0,31),(4,0,31),(5,0,31),(7,0,63),(8,0,3),(9,0,3)]:=by decide
theorem rw25:wiF [(1,0,1),(2,0,1),(3,0,31),(4,0,31),(5,0,31)] ((7,0,63),(8,0,1),(9,0,2))=ac 25:=by decide
theorem rl25:ac 25=[(1,0,1),(2,0,1),(3,0,31),(4,0,31),(5,0,31),(7,0,63),(8,0,1),(9,0,2)]:=by decide
theorem rw26:wiF [(1,0,1),(2,0,1),(3,0,31),(4,0,31),(5,0,31)] ((7,0,4),(8,0,1),(9,0,7))=ac 26:=by decide
theorem rl26:ac 26=[(1,0,1),(2,0,1),(3,0,31),(4,0,31),(5,0,31),(7,0,4),(8,0,1),(9,0,7)]:=by decide
theorem rw27:wiF [(1,0,1),(2,0,1),(3,0,31),(4,0,31),(5,0,31)] ((0,0,0),(8,0,1),(0,0,0))=ac 27:=by decide
theorem rl27:ac 27=[(1,0,1),(2,0,1),(3,0,31),(4,0,31),(5,0,31),(8,0,1)]:=by decide
theorem rw28:wiF [(1,0,1),(2,0,1),(4,0,31),(5,0,31)] ((7,0,15),(8,0,1),(9,0,15))=ac 28:=by decide
theorem rl28:ac 28=[(1,0,1),(2,0,1),(4,0,31),(5,0,31),(7,0,15),(8,0,1),(9,0,15)]:=by decide
theorem rw29:wiF [(1,0,1),(3,0,31),(4,0,31),(5,0,31)] ((7,0,15),(8,0,3),(0,0,0))=ac 29:=by decide
theorem rl29:ac 29=[(1,0,1),(3,0,31),(4,0,31),(5,0,31),(7,0,15),(8,0,3)]:=by decide
theorem rw30:wiF [(1,0,1),(3,0,31),(4,0,31)] ((0,0,0),(8,0,5),(0,0,0))=ac 30:=by decide
theorem rl30:ac 30=[(1,0,1),(3,0,31),(4,0,31),(8,0,5)]:=by decide
theorem rw31:wiF [(1,0,1),(3,0,31),(4,0,31),(5,0,31)] ((0,0,0),(8,2,23),(0,0,0))=ac 31:=by decide
theorem rl31:ac 31=[(1,0,1),(3,0,31),(4,0,31),(5,0,31),(8,2,23)]:=by decide
theorem rw32:wiF [(1,0,1),(3,0,31),(4,0,31),(5,0,31),(6,0,31)] ((0,0,0),(8,0,7),(0,0,0))=ac 32:=by decide
theorem rl32:ac 32=[(1,0,1),(3,0,31),(4,0,31),(5,0,31),(6,0,31),(8,0,7)]:=by decide
attribute [local go_sem] aY RowL.blk dx xw3 jv ph ee Jp cD Ix jC nD J8 cX aG vU lb List.nil_append I8 zy List.map_cons wA iW uo bT bq gOf List.map_nil Iu Kb vz xw0 List.filter_nil yN iE wP nM
theorem Ds:SW Tryz.prog ⟨none,0⟩ Tryz.f65.ntmps (Tryz.f65.body.getD .skip) ⟨0,ag 0 [(ar .i64).enc 1],[]⟩ (aH Tryz.prog Tryz.f65.results.toList (.ret (bq (ac 1)))):=by
 refine aa (ctx:=[⟨_,raS⟩]) 4000 ?_
 rw [Tryz.ntmps65,Tryz.results65]
 simp only [Tryz.f65,Option.getD_some,ag]
 simp only [go_sem]
 refine aq (ctx:=[⟨_,bQ⟩,⟨_,raS⟩,⟨_,rbS⟩,⟨_,rcS⟩,⟨_,cL⟩,⟨_,cK⟩]) ax ⟨[5],[(1,[160])],[(3,[160]),(4,[160])]⟩ (by kernel_rfl) ?_
 simp only [go_sem,ni,mU,rw1,rl1]
 all_goals first | (intro z hz;omega) | exact ⟨fun z hz=>by omega,by unfold maxLen;omega⟩ | exact ⟨by unfold maxLen;omega,fun z hz=>by omega⟩
theorem BW:SW Tryz.prog ⟨none,0⟩ Tryz.f65.ntmps (Tryz.f65.body.getD .skip) ⟨0,ag 0 [(ar .i64).enc 2],[]⟩ (aH Tryz.prog Tryz.f65.results.toList (.ret (bq (ac 2)))):=by
 refine aa (ctx:=[⟨_,bQ⟩,⟨_,raS⟩,⟨_,rbS⟩,⟨_,rcS⟩,⟨_,cL⟩,⟨_,cK⟩]) 4000 ?_
 rw [Tryz.ntmps65,Tryz.results65]
 simp only [Tryz.f65,Option.getD_some,ag]
 simp only [go_sem,Ft,Fc,rw2,rl2]
 all_goals first | (intro z hz;omega) | exact ⟨fun z hz=>by omega,by unfold maxLen;omega⟩ | exact ⟨by unfold maxLen;omega,fun z hz=>by omega⟩
theorem Cu:SW Tryz.prog ⟨none,0⟩ Tryz.f65.ntmps (Tryz.f65.body.getD .skip) ⟨0,ag 0 [(ar .i64).enc 3],[]⟩ (aH Tryz.prog Tryz.f65.results.toList (.ret (bq (ac 3)))):=by
 refine aa (ctx:=[⟨_,raS⟩]) 4000 ?_
 rw [Tryz.ntmps65,Tryz.results65]
 simp only [Tryz.f65,Option.getD_some,ag]
 simp only [go_sem]
 refine aq (ctx:=[⟨_,bQ⟩,⟨_,raS⟩,⟨_,rbS⟩,⟨_,rcS⟩,⟨_,cL⟩,⟨_,cK⟩]) ax ⟨[5],[(1,[224])],[(4,[224])]⟩ (by kernel_rfl) ?_
 simp only [go_sem,vm,vI,rw3,rl3]
 all_goals first | (intro z hz;omega) | exact ⟨fun z hz=>by omega,by unfold maxLen;omega⟩ | exact ⟨by unfold maxLen;omega,fun z hz=>by omega⟩
theorem CM:SW Tryz.prog ⟨none,0⟩ Tryz.f65.ntmps (Tryz.f65.body.getD .skip) ⟨0,ag 0 [(ar .i64).enc 4],[]⟩ (aH Tryz.prog Tryz.f65.results.toList (.ret (bq (ac 4)))):=by
 refine aa (ctx:=[⟨_,bQ⟩,⟨_,raS⟩,⟨_,rbS⟩,⟨_,rcS⟩,⟨_,cL⟩,⟨_,cK⟩]) 4000 ?_
 rw [Tryz.ntmps65,Tryz.results65]
 simp only [Tryz.f65,Option.getD_some,ag]
 simp only [go_sem,ni,mU,rw4,rl4]
 all_goals first | (intro z hz;omega) | exact ⟨fun z hz=>by omega,by unfold maxLen;omega⟩ | exact ⟨by unfold maxLen;omega,fun z hz=>by omega⟩
theorem A0:SW Tryz.prog ⟨none,0⟩ Tryz.f65.ntmps (Tryz.f65.body.getD .skip) ⟨0,ag 0 [(ar .i64).enc 5],[]⟩ (aH Tryz.prog Tryz.f65.results.toList (.ret (bq (ac 5)))):=by
 refine aa (ctx:=[⟨_,bQ⟩,⟨_,raS⟩,⟨_,rbS⟩,⟨_,rcS⟩,⟨_,cL⟩,⟨_,cK⟩]) 4000 ?_
 rw [Tryz.ntmps65,Tryz.results65]
 simp only [Tryz.f65,Option.getD_some,ag]
 simp only [go_sem,vm,vI,rw5,rl5]
 all_goals first | (intro z hz;omega) | exact ⟨fun z hz=>by omega,by unfold maxLen;omega⟩ | exact ⟨by unfold maxLen;omega,fun z hz=>by omega⟩
theorem At:SW Tryz.prog ⟨none,0⟩ Tryz.f65.ntmps (Tryz.f65.body.getD .skip) ⟨0,ag 0 [(ar .i64).enc 6],[]⟩ (aH Tryz.prog Tryz.f65.results.toList (.ret (bq (ac 6)))):=by
 refine aa (ctx:=[⟨_,raS⟩]) 4000 ?_
 rw [Tryz.ntmps65,Tryz.results65]
 simp only [Tryz.f65,Option.getD_some,ag]
 simp only [go_sem]
 refine aq (ctx:=[⟨_,bQ⟩,⟨_,raS⟩,⟨_,rbS⟩,⟨_,rcS⟩,⟨_,cL⟩,⟨_,cK⟩]) ax ⟨[5],[(1,[320])],[(3,[320]),(4,[320])]⟩ (by kernel_rfl) ?_
 simp only [go_sem,q8,q7,rw6,rl6]
 all_goals first | (intro z hz;omega) | exact ⟨fun z hz=>by omega,by unfold maxLen;omega⟩ | exact ⟨by unfold maxLen;omega,fun z hz=>by omega⟩
theorem B3:SW Tryz.prog ⟨none,0⟩ Tryz.f65.ntmps (Tryz.f65.body.getD .skip) ⟨0,ag 0 [(ar .i64).enc 7],[]⟩ (aH Tryz.prog Tryz.f65.results.toList (.ret (bq (ac 7)))):=by
 refine aa (ctx:=[⟨_,raS⟩]) 4000 ?_
 rw [Tryz.ntmps65,Tryz.results65]
 simp only [Tryz.f65,Option.getD_some,ag]
 simp only [go_sem]
 refine aq (ctx:=[⟨_,bQ⟩,⟨_,raS⟩,⟨_,rbS⟩,⟨_,rcS⟩,⟨_,cL⟩,⟨_,jd⟩]) ax ⟨[],[],[]⟩ (by kernel_rfl) ?_
 simp only [go_sem,ni,mU,rw7,rl7]
 all_goals first | (intro z hz;omega) | exact ⟨fun z hz=>by omega,by unfold maxLen;omega⟩ | exact ⟨by unfold maxLen;omega,fun z hz=>by omega⟩
theorem B6:SW Tryz.prog ⟨none,0⟩ Tryz.f65.ntmps (Tryz.f65.body.getD .skip) ⟨0,ag 0 [(ar .i64).enc 8],[]⟩ (aH Tryz.prog Tryz.f65.results.toList (.ret (bq (ac 8)))):=by
 refine aa (ctx:=[⟨_,raS⟩]) 4000 ?_
 rw [Tryz.ntmps65,Tryz.results65]
 simp only [Tryz.f65,Option.getD_some,ag]
 simp only [go_sem]
 refine aq (ctx:=[⟨_,bQ⟩,⟨_,raS⟩,⟨_,rbS⟩,⟨_,rcS⟩,⟨_,cL⟩,⟨_,cK⟩]) ax ⟨[5],[(1,[384])],[(3,[384]),(4,[384])]⟩ (by kernel_rfl) ?_
 simp only [go_sem,re_2,rz_2,rw8,rl8]
 all_goals first | (intro z hz;omega) | exact ⟨fun z hz=>by omega,by unfold maxLen;omega⟩ | exact ⟨by unfold maxLen;omega,fun z hz=>by omega⟩
theorem Ay:SW Tryz.prog ⟨none,0⟩ Tryz.f65.ntmps (Tryz.f65.body.getD .skip) ⟨0,ag 0 [(ar .i64).enc 9],[]⟩ (aH Tryz.prog Tryz.f65.results.toList (.ret (bq (ac 9)))):=by
 refine aa (ctx:=[⟨_,raS⟩]) 4000 ?_
 rw [Tryz.ntmps65,Tryz.results65]
 simp only [Tryz.f65,Option.getD_some,ag]
 simp only [go_sem]
 refine aq (ctx:=[⟨_,bQ⟩,⟨_,raS⟩,⟨_,rbS⟩,⟨_,rcS⟩,⟨_,cL⟩,⟨_,cK⟩]) ax ⟨[5],[(1,[416])],[(2,[416]),(4,[416])]⟩ (by kernel_rfl) ?_
 simp only [go_sem,ni,mU,rw9,rl9]
 all_goals first | (intro z hz;omega) | exact ⟨fun z hz=>by omega,by unfold maxLen;omega⟩ | exact ⟨by unfold maxLen;omega,fun z hz=>by omega⟩
theorem zh:SW Tryz.prog ⟨none,0⟩ Tryz.f65.ntmps (Tryz.f65.body.getD .skip) ⟨0,ag 0 [(ar .i64).enc 10],[]⟩ (aH Tryz.prog Tryz.f65.results.toList (.ret (bq (ac 10)))):=by
 refine aa (ctx:=[⟨_,bQ⟩,⟨_,raS⟩,⟨_,rbS⟩,⟨_,rcS⟩,⟨_,cL⟩,⟨_,cK⟩]) 4000 ?_
 rw [Tryz.ntmps65,Tryz.results65]
 simp only [Tryz.f65,Option.getD_some,ag]
 simp only [go_sem,EC,GF,rw10,rl10]
 all_goals first | (intro z hz;omega) | exact ⟨fun z hz=>by omega,by unfold maxLen;omega⟩ | exact ⟨by unfold maxLen;omega,fun z hz=>by omega⟩
theorem x3:SW Tryz.prog ⟨none,0⟩ Tryz.f65.ntmps (Tryz.f65.body.getD .skip) ⟨0,ag 0 [(ar .i64).enc 11],[]⟩ (aH Tryz.prog Tryz.f65.results.toList (.ret (bq (ac 11)))):=by
 refine aa (ctx:=[⟨_,raS⟩]) 4000 ?_
 rw [Tryz.ntmps65,Tryz.results65]
 simp only [Tryz.f65,Option.getD_some,ag]
 simp only [go_sem]
 refine aq (ctx:=[⟨_,bQ⟩,⟨_,raS⟩,⟨_,rbS⟩,⟨_,rcS⟩,⟨_,cL⟩,⟨_,cK⟩]) ax ⟨[5],[(1,[480])],[(2,[480]),(4,[480])]⟩ (by kernel_rfl) ?_
 simp only [go_sem,re_4,rz_4,rw11,rl11]
 all_goals first | (intro z hz;omega) | exact ⟨fun z hz=>by omega,by unfold maxLen;omega⟩ | exact ⟨by unfold maxLen;omega,fun z hz=>by omega⟩
theorem yF:SW Tryz.prog ⟨none,0⟩ Tryz.f65.ntmps (Tryz.f65.body.getD .skip) ⟨0,ag 0 [(ar .i64).enc 12],[]⟩ (aH Tryz.prog Tryz.f65.results.toList (.ret (bq (ac 12)))):=by
 refine aa (ctx:=[⟨_,raS⟩]) 4000 ?_
 rw [Tryz.ntmps65,Tryz.results65]
 simp only [Tryz.f65,Option.getD_some,ag]
 simp only [go_sem]
 refine aq (ctx:=[⟨_,bQ⟩,⟨_,raS⟩,⟨_,rbS⟩,⟨_,rcS⟩,⟨_,cL⟩,⟨_,jd⟩]) ax ⟨[],[],[]⟩ (by kernel_rfl) ?_
 simp only [go_sem,ni,mU,rw12,rl12]
 all_goals first | (intro z hz;omega) | exact ⟨fun z hz=>by omega,by unfold maxLen;omega⟩ | exact ⟨by unfold maxLen;omega,fun z hz=>by omega⟩
theorem zu:SW Tryz.prog ⟨none,0⟩ Tryz.f65.ntmps (Tryz.f65.body.getD .skip) ⟨0,ag 0 [(ar .i64).enc 13],[]⟩ (aH Tryz.prog Tryz.f65.results.toList (.ret (bq (ac 13)))):=by
 refine aa (ctx:=[⟨_,raS⟩]) 4000 ?_
 rw [Tryz.ntmps65,Tryz.results65]
 simp only [Tryz.f65,Option.getD_some,ag]
 simp only [go_sem]
 refine aq (ctx:=[⟨_,bQ⟩,⟨_,raS⟩,⟨_,rbS⟩,⟨_,rcS⟩,⟨_,cL⟩,⟨_,jd⟩]) ax ⟨[],[],[]⟩ (by kernel_rfl) ?_
 simp only [go_sem,ni,mU,rw13,rl13]
 all_goals first | (intro z hz;omega) | exact ⟨fun z hz=>by omega,by unfold maxLen;omega⟩ | exact ⟨by unfold maxLen;omega,fun z hz=>by omega⟩
theorem x7:SW Tryz.prog ⟨none,0⟩ Tryz.f65.ntmps (Tryz.f65.body.getD .skip) ⟨0,ag 0 [(ar .i64).enc 14],[]⟩ (aH Tryz.prog Tryz.f65.results.toList (.ret (bq (ac 14)))):=by
 refine aa (ctx:=[⟨_,raS⟩]) 4000 ?_
 rw [Tryz.ntmps65,Tryz.results65]
 simp only [Tryz.f65,Option.getD_some,ag]
 simp only [go_sem]
 refine aq (ctx:=[⟨_,bQ⟩,⟨_,raS⟩,⟨_,rbS⟩,⟨_,rcS⟩,⟨_,cL⟩,⟨_,jd⟩]) ax ⟨[],[],[]⟩ (by kernel_rfl) ?_
 simp only [go_sem,ni,mU,rw14,rl14]
 all_goals first | (intro z hz;omega) | exact ⟨fun z hz=>by omega,by unfold maxLen;omega⟩ | exact ⟨by unfold maxLen;omega,fun z hz=>by omega⟩
theorem zf:SW Tryz.prog ⟨none,0⟩ Tryz.f65.ntmps (Tryz.f65.body.getD .skip) ⟨0,ag 0 [(ar .i64).enc 15],[]⟩ (aH Tryz.prog Tryz.f65.results.toList (.ret (bq (ac 15)))):=by
 refine aa (ctx:=[⟨_,raS⟩]) 4000 ?_
 rw [Tryz.ntmps65,Tryz.results65]
 simp only [Tryz.f65,Option.getD_some,ag]
 simp only [go_sem]
 refine aq (ctx:=[⟨_,bQ⟩,⟨_,raS⟩,⟨_,rbS⟩,⟨_,rcS⟩,⟨_,cL⟩,⟨_,cK⟩]) ax ⟨[5],[(1,[608])],[(4,[608])]⟩ (by kernel_rfl) ?_
 simp only [go_sem,EC,GF,rw15,rl15]
 all_goals first | (intro z hz;omega) | exact ⟨fun z hz=>by omega,by unfold maxLen;omega⟩ | exact ⟨by unfold maxLen;omega,fun z hz=>by omega⟩
theorem x9:SW Tryz.prog ⟨none,0⟩ Tryz.f65.ntmps (Tryz.f65.body.getD .skip) ⟨0,ag 0 [(ar .i64).enc 16],[]⟩ (aH Tryz.prog Tryz.f65.results.toList (.ret (bq (ac 16)))):=by
 refine aa (ctx:=[⟨_,raS⟩]) 4000 ?_
 rw [Tryz.ntmps65,Tryz.results65]
 simp only [Tryz.f65,Option.getD_some,ag]
 simp only [go_sem]
 refine aq (ctx:=[⟨_,bQ⟩,⟨_,raS⟩,⟨_,rbS⟩,⟨_,rcS⟩,⟨_,cL⟩,⟨_,jd⟩]) ax ⟨[],[],[]⟩ (by kernel_rfl) ?_
 simp only [go_sem,ni,mU,rw16,rl16]
 all_goals first | (intro z hz;omega) | exact ⟨fun z hz=>by omega,by unfold maxLen;omega⟩ | exact ⟨by unfold maxLen;omega,fun z hz=>by omega⟩
theorem Aa:SW Tryz.prog ⟨none,0⟩ Tryz.f65.ntmps (Tryz.f65.body.getD .skip) ⟨0,ag 0 [(ar .i64).enc 17],[]⟩ (aH Tryz.prog Tryz.f65.results.toList (.ret (bq (ac 17)))):=by
 refine aa (ctx:=[⟨_,raS⟩]) 4000 ?_
 rw [Tryz.ntmps65,Tryz.results65]
 simp only [Tryz.f65,Option.getD_some,ag]
 simp only [go_sem]
 refine aq (ctx:=[⟨_,bQ⟩,⟨_,raS⟩,⟨_,rbS⟩,⟨_,rcS⟩,⟨_,cL⟩,⟨_,cK⟩]) ax ⟨[5],[(1,[672])],[(4,[672])]⟩ (by kernel_rfl) ?_
 simp only [go_sem,EC,GF,rw17,rl17]
 all_goals first | (intro z hz;omega) | exact ⟨fun z hz=>by omega,by unfold maxLen;omega⟩ | exact ⟨by unfold maxLen;omega,fun z hz=>by omega⟩
theorem xQ:SW Tryz.prog ⟨none,0⟩ Tryz.f137.ntmps (Tryz.f137.body.getD .skip) ⟨0,ag 0 [(ar .i64).enc 18],[]⟩ (aH Tryz.prog Tryz.f137.results.toList (.ret (bq (ac 18)))):=by
 refine aa (ctx:=[⟨_,raS⟩]) 4000 ?_
 rw [Tryz.ntmps137,Tryz.results137]
 simp only [Tryz.f137,Option.getD_some,ag]
 simp only [go_sem]
 refine aq (ctx:=[⟨_,bQ⟩,⟨_,raS⟩,⟨_,rbS⟩,⟨_,rcS⟩,⟨_,cL⟩,⟨_,cK⟩]) ax ⟨[5],[(1,[144])],[(4,[144])]⟩ (by kernel_rfl) ?_
 simp only [go_sem,EC,GF,rw18,rl18]
 all_goals first | (intro z hz;omega) | exact ⟨fun z hz=>by omega,by unfold maxLen;omega⟩ | exact ⟨by unfold maxLen;omega,fun z hz=>by omega⟩
theorem xR:SW Tryz.prog ⟨none,0⟩ Tryz.f137.ntmps (Tryz.f137.body.getD .skip) ⟨0,ag 0 [(ar .i64).enc 19],[]⟩ (aH Tryz.prog Tryz.f137.results.toList (.ret (bq (ac 19)))):=by
 refine aa (ctx:=[⟨_,bQ⟩,⟨_,raS⟩,⟨_,rbS⟩,⟨_,rcS⟩,⟨_,cL⟩,⟨_,cK⟩]) 4000 ?_
 rw [Tryz.ntmps137,Tryz.results137]
 simp only [Tryz.f137,Option.getD_some,ag]
 simp only [go_sem,GJ,E6,rw19,rl19]
 all_goals first | (intro z hz;omega) | exact ⟨fun z hz=>by omega,by unfold maxLen;omega⟩ | exact ⟨by unfold maxLen;omega,fun z hz=>by omega⟩
theorem xZ:SW Tryz.prog ⟨none,0⟩ Tryz.f137.ntmps (Tryz.f137.body.getD .skip) ⟨0,ag 0 [(ar .i64).enc 20],[]⟩ (aH Tryz.prog Tryz.f137.results.toList (.ret (bq (ac 20)))):=by
 refine aa (ctx:=[⟨_,bQ⟩,⟨_,raS⟩,⟨_,rbS⟩,⟨_,rcS⟩,⟨_,cL⟩,⟨_,cK⟩]) 4000 ?_
 rw [Tryz.ntmps137,Tryz.results137]
 simp only [Tryz.f137,Option.getD_some,ag]
 simp only [go_sem,HD,Ig,rw20,rl20]
 all_goals first | (intro z hz;omega) | exact ⟨fun z hz=>by omega,by unfold maxLen;omega⟩ | exact ⟨by unfold maxLen;omega,fun z hz=>by omega⟩
theorem zL:SW Tryz.prog ⟨none,0⟩ Tryz.f137.ntmps (Tryz.f137.body.getD .skip) ⟨0,ag 0 [(ar .i64).enc 21],[]⟩ (aH Tryz.prog Tryz.f137.results.toList (.ret (bq (ac 21)))):=by
 refine aa (ctx:=[⟨_,bQ⟩,⟨_,raS⟩,⟨_,rbS⟩,⟨_,rcS⟩,⟨_,cL⟩,⟨_,cK⟩]) 4000 ?_
 rw [Tryz.ntmps137,Tryz.results137]
 simp only [Tryz.f137,Option.getD_some,ag]
 simp only [go_sem,HD,Ig,rw21,rl21]
 all_goals first | (intro z hz;omega) | exact ⟨fun z hz=>by omega,by unfold maxLen;omega⟩ | exact ⟨by unfold maxLen;omega,fun z hz=>by omega⟩
theorem yV:SW Tryz.prog ⟨none,0⟩ Tryz.f137.ntmps (Tryz.f137.body.getD .skip) ⟨0,ag 0 [(ar .i64).enc 22],[]⟩ (aH Tryz.prog Tryz.f137.results.toList (.ret (bq (ac 22)))):=by
 refine aa (ctx:=[⟨_,bQ⟩,⟨_,raS⟩,⟨_,rbS⟩,⟨_,rcS⟩,⟨_,cL⟩,⟨_,cK⟩]) 4000 ?_
 rw [Tryz.ntmps137,Tryz.results137]
 simp only [Tryz.f137,Option.getD_some,ag]
 simp only [go_sem,Fl,E9,rw22,rl22]
 all_goals first | (intro z hz;omega) | exact ⟨fun z hz=>by omega,by unfold maxLen;omega⟩ | exact ⟨by unfold maxLen;omega,fun z hz=>by omega⟩
theorem x5:SW Tryz.prog ⟨none,0⟩ Tryz.f137.ntmps (Tryz.f137.body.getD .skip) ⟨0,ag 0 [(ar .i64).enc 23],[]⟩ (aH Tryz.prog Tryz.f137.results.toList (.ret (bq (ac 23)))):=by
 refine aa (ctx:=[⟨_,raS⟩]) 4000 ?_
 rw [Tryz.ntmps137,Tryz.results137]
 simp only [Tryz.f137,Option.getD_some,ag]
 simp only [go_sem]
 refine aq (ctx:=[⟨_,bQ⟩,⟨_,raS⟩,⟨_,rbS⟩,⟨_,rcS⟩,⟨_,cL⟩,⟨_,cK⟩]) ax ⟨[7],[(2,[64,320]),(3,[336])],[(6,[64,320,336])]⟩ (by kernel_rfl) ?_
 simp only [go_sem,xJ,yU,jK,jZ,rw23,rl23]
 all_goals first | (intro z hz;omega) | exact ⟨fun z hz=>by omega,by unfold maxLen;omega⟩ | exact ⟨by unfold maxLen;omega,fun z hz=>by omega⟩
theorem zv:SW Tryz.prog ⟨none,0⟩ Tryz.f137.ntmps (Tryz.f137.body.getD .skip) ⟨0,ag 0 [(ar .i64).enc 24],[]⟩ (aH Tryz.prog Tryz.f137.results.toList (.ret (bq (ac 24)))):=by
 refine aa (ctx:=[⟨_,bQ⟩,⟨_,raS⟩,⟨_,rbS⟩,⟨_,rcS⟩,⟨_,cL⟩,⟨_,cK⟩]) 4000 ?_
 rw [Tryz.ntmps137,Tryz.results137]
 simp only [Tryz.f137,Option.getD_some,ag]
 simp only [go_sem,jK,jZ,rw24,rl24]
 all_goals first | (intro z hz;omega) | exact ⟨fun z hz=>by omega,by unfold maxLen;omega⟩ | exact ⟨by unfold maxLen;omega,fun z hz=>by omega⟩
theorem z8:SW Tryz.prog ⟨none,0⟩ Tryz.f137.ntmps (Tryz.f137.body.getD .skip) ⟨0,ag 0 [(ar .i64).enc 25],[]⟩ (aH Tryz.prog Tryz.f137.results.toList (.ret (bq (ac 25)))):=by
 refine aa (ctx:=[⟨_,bQ⟩,⟨_,raS⟩,⟨_,rbS⟩,⟨_,rcS⟩,⟨_,cL⟩,⟨_,cK⟩]) 4000 ?_
 rw [Tryz.ntmps137,Tryz.results137]
 simp only [Tryz.f137,Option.getD_some,ag]
 simp only [go_sem,jK,jZ,rw25,rl25]
 all_goals first | (intro z hz;omega) | exact ⟨fun z hz=>by omega,by unfold maxLen;omega⟩ | exact ⟨by unfold maxLen;omega,fun z hz=>by omega⟩
theorem zB:SW Tryz.prog ⟨none,0⟩ Tryz.f137.ntmps (Tryz.f137.body.getD .skip) ⟨0,ag 0 [(ar .i64).enc 26],[]⟩ (aH Tryz.prog Tryz.f137.results.toList (.ret (bq (ac 26)))):=by
 refine aa (ctx:=[⟨_,bQ⟩,⟨_,raS⟩,⟨_,rbS⟩,⟨_,rcS⟩,⟨_,cL⟩,⟨_,cK⟩]) 4000 ?_
 rw [Tryz.ntmps137,Tryz.results137]
 simp only [Tryz.f137,Option.getD_some,ag]
 simp only [go_sem,jK,jZ,rw26,rl26]
 all_goals first | (intro z hz;omega) | exact ⟨fun z hz=>by omega,by unfold maxLen;omega⟩ | exact ⟨by unfold maxLen;omega,fun z hz=>by omega⟩
theorem yc:SW Tryz.prog ⟨none,0⟩ Tryz.f137.ntmps (Tryz.f137.body.getD .skip) ⟨0,ag 0 [(ar .i64).enc 27],[]⟩ (aH Tryz.prog Tryz.f137.results.toList (.ret (bq (ac 27)))):=by
 refine aa (ctx:=[⟨_,raS⟩]) 4000 ?_
 rw [Tryz.ntmps137,Tryz.results137]
 simp only [Tryz.f137,Option.getD_some,ag]
 simp only [go_sem]
 refine aq (ctx:=[⟨_,bQ⟩,⟨_,raS⟩,⟨_,rbS⟩,⟨_,rcS⟩,⟨_,cL⟩,⟨_,cK⟩]) ax ⟨[5],[(1,[64])],[(2,[64]),(4,[64])]⟩ (by kernel_rfl) ?_
 simp only [go_sem,jK,jZ,rw27,rl27]
 all_goals first | (intro z hz;omega) | exact ⟨fun z hz=>by omega,by unfold maxLen;omega⟩ | exact ⟨by unfold maxLen;omega,fun z hz=>by omega⟩
theorem zK:SW Tryz.prog ⟨none,0⟩ Tryz.f137.ntmps (Tryz.f137.body.getD .skip) ⟨0,ag 0 [(ar .i64).enc 28],[]⟩ (aH Tryz.prog Tryz.f137.results.toList (.ret (bq (ac 28)))):=by
 refine aa (ctx:=[⟨_,bQ⟩,⟨_,raS⟩,⟨_,rbS⟩,⟨_,rcS⟩,⟨_,cL⟩,⟨_,cK⟩]) 4000 ?_
 rw [Tryz.ntmps137,Tryz.results137]
 simp only [Tryz.f137,Option.getD_some,ag]
 simp only [go_sem,GQ,FI,rw28,rl28]
 all_goals first | (intro z hz;omega) | exact ⟨fun z hz=>by omega,by unfold maxLen;omega⟩ | exact ⟨by unfold maxLen;omega,fun z hz=>by omega⟩
theorem zc:SW Tryz.prog ⟨none,0⟩ Tryz.f137.ntmps (Tryz.f137.body.getD .skip) ⟨0,ag 0 [(ar .i64).enc 29],[]⟩ (aH Tryz.prog Tryz.f137.results.toList (.ret (bq (ac 29)))):=by
 refine aa (ctx:=[⟨_,raS⟩]) 4000 ?_
 rw [Tryz.ntmps137,Tryz.results137]
 simp only [Tryz.f137,Option.getD_some,ag]
 simp only [go_sem]
 refine aq (ctx:=[⟨_,bQ⟩,⟨_,raS⟩,⟨_,rbS⟩,⟨_,rcS⟩,⟨_,cL⟩,⟨_,cK⟩]) ax ⟨[5],[(1,[496])],[(4,[496])]⟩ (by kernel_rfl) ?_
 simp only [go_sem,q8,q7,rw29,rl29]
 all_goals first | (intro z hz;omega) | exact ⟨fun z hz=>by omega,by unfold maxLen;omega⟩ | exact ⟨by unfold maxLen;omega,fun z hz=>by omega⟩
theorem yS:SW Tryz.prog ⟨none,0⟩ Tryz.f137.ntmps (Tryz.f137.body.getD .skip) ⟨0,ag 0 [(ar .i64).enc 30],[]⟩ (aH Tryz.prog Tryz.f137.results.toList (.ret (bq (ac 30)))):=by
 refine aa (ctx:=[⟨_,raS⟩]) 4000 ?_
 rw [Tryz.ntmps137,Tryz.results137]
 simp only [Tryz.f137,Option.getD_some,ag]
 simp only [go_sem]
 refine aq (ctx:=[⟨_,bQ⟩,⟨_,raS⟩,⟨_,rbS⟩,⟨_,rcS⟩,⟨_,cL⟩,⟨_,cK⟩]) ax ⟨[5],[(1,[528])],[(2,[528]),(4,[528])]⟩ (by kernel_rfl) ?_
 simp only [go_sem,vm,vI,rw30,rl30]
 all_goals first | (intro z hz;omega) | exact ⟨fun z hz=>by omega,by unfold maxLen;omega⟩ | exact ⟨by unfold maxLen;omega,fun z hz=>by omega⟩
theorem Am:SW Tryz.prog ⟨none,0⟩ Tryz.f137.ntmps (Tryz.f137.body.getD .skip) ⟨0,ag 0 [(ar .i64).enc 31],[]⟩ (aH Tryz.prog Tryz.f137.results.toList (.ret (bq (ac 31)))):=by
 refine aa (ctx:=[⟨_,raS⟩]) 4000 ?_
 rw [Tryz.ntmps137,Tryz.results137]
 simp only [Tryz.f137,Option.getD_some,ag]
 simp only [go_sem]
 refine aq (ctx:=[⟨_,bQ⟩,⟨_,raS⟩,⟨_,rbS⟩,⟨_,rcS⟩,⟨_,cL⟩,⟨_,cK⟩]) ax ⟨[5],[(1,[560])],[(2,[560]),(4,[560])]⟩ (by kernel_rfl) ?_
 simp only [go_sem,q8,q7,rw31,rl31]
 all_goals first | (intro z hz;omega) | exact ⟨fun z hz=>by omega,by unfold maxLen;omega⟩ | exact ⟨by unfold maxLen;omega,fun z hz=>by omega⟩
theorem yn:SW Tryz.prog ⟨none,0⟩ Tryz.f137.ntmps (Tryz.f137.body.getD .skip) ⟨0,ag 0 [(ar .i64).enc 32],[]⟩ (aH Tryz.prog Tryz.f137.results.toList (.ret (bq (ac 32)))):=by
 refine aa (ctx:=[⟨_,raS⟩]) 4000 ?_
 rw [Tryz.ntmps137,Tryz.results137]
 simp only [Tryz.f137,Option.getD_some,ag]
 simp only [go_sem]
 refine aq (ctx:=[⟨_,bQ⟩,⟨_,raS⟩,⟨_,rbS⟩,⟨_,rcS⟩,⟨_,cL⟩,⟨_,cK⟩]) ax ⟨[5],[(1,[592])],[(2,[592]),(4,[592])]⟩ (by kernel_rfl) ?_
 simp only [go_sem,C2,Dl,rw32,rl32]
 all_goals first | (intro z hz;omega) | exact ⟨fun z hz=>by omega,by unfold maxLen;omega⟩ | exact ⟨by unfold maxLen;omega,fun z hz=>by omega⟩
theorem uA {op:Int} (h:op<1∨32<op):SW Tryz.prog ⟨none,0⟩ Tryz.f137.ntmps (Tryz.f137.body.getD .skip) ⟨0,ag 0 [(ar .i64).enc op],[]⟩ (aH Tryz.prog Tryz.f137.results.toList (.ret fQ)):=by
 refine aa (ctx:=[]) 4000 ?_
 rw [Tryz.ntmps137,Tryz.results137]
 simp only [Tryz.f137,Option.getD_some,ag]
 have b18:(op==18)=false:=by
  simp only [beq_eq_false_iff_ne,ne_eq]
  omega
 have b19:(op==19)=false:=by
  simp only [beq_eq_false_iff_ne,ne_eq]
  omega
 have b20:(op==20)=false:=by
  simp only [beq_eq_false_iff_ne,ne_eq]
  omega
 have b21:(op==21)=false:=by
  simp only [beq_eq_false_iff_ne,ne_eq]
  omega
 have b22:(op==22)=false:=by
  simp only [beq_eq_false_iff_ne,ne_eq]
  omega
 have b23:(op==23)=false:=by
  simp only [beq_eq_false_iff_ne,ne_eq]
  omega
 have b24:(op==24)=false:=by
  simp only [beq_eq_false_iff_ne,ne_eq]
  omega
 have b25:(op==25)=false:=by
  simp only [beq_eq_false_iff_ne,ne_eq]
  omega
 have b26:(op==26)=false:=by
  simp only [beq_eq_false_iff_ne,ne_eq]
  omega
 have b27:(op==27)=false:=by
  simp only [beq_eq_false_iff_ne,ne_eq]
  omega
 have b28:(op==28)=false:=by
  simp only [beq_eq_false_iff_ne,ne_eq]
  omega
 have b29:(op==29)=false:=by
  simp only [beq_eq_false_iff_ne,ne_eq]
  omega
 have b30:(op==30)=false:=by
  simp only [beq_eq_false_iff_ne,ne_eq]
  omega
 have b31:(op==31)=false:=by
  simp only [beq_eq_false_iff_ne,ne_eq]
  omega
 have b32:(op==32)=false:=by
  simp only [beq_eq_false_iff_ne,ne_eq]
  omega
 simp only [go_sem,b18,b19,b20,b21,b22,b23,b24,b25,b26,b27,b28,b29,b30,b31,b32,fQ]
def wo:aQ Tryz.prog 137 :=
 mk1 _ _ _ Tryz.func137 rfl (fun _ _=>by go_simp) (ar .i64) ((fun op=>op<1∨17<op)) ((fun op=>.ret (bV op))) (by rw [Tryz.ntmps137];decide) (fun op h=>by
 by_cases hq:18≤op∧op≤32
 ·have e:bV op=bq (ac op):=by unfold bV;rw [if_pos (by omega)]
  rw [e]
  have:op=18∨op=19∨op=20∨op=21∨op=22∨op=23∨op=24∨op=25∨op=26∨op=27∨op=28∨op=29∨op=30∨op=31∨op=32:=by omega
  rcases this with rfl | rfl | rfl | rfl | rfl | rfl | rfl | rfl | rfl | rfl | rfl | rfl | rfl | rfl | rfl
  ·exact xQ
  ·exact xR
  ·exact xZ
  ·exact zL
  ·exact yV
  ·exact x5
  ·exact zv
  ·exact z8
  ·exact zB
  ·exact yc
  ·exact zK
  ·exact zc
  ·exact yS
  ·exact Am
  ·exact yn
 ·have e:bV op=fQ:=by unfold bV;rw [if_neg (by omega)]
  rw [e]
  exact uA (by omega))
theorem qr {id:Nat} {h:ah} {args:List AV}:(wo).run id h args=bm (av (ar .i64) ((fun op=>op<1∨17<op))) ((fun op=>.ret (bV op))) h args:=rfl
theorem qF {id:Nat} {h:ah} {args:List AV}:(wo).pan id h args=bt (av (ar .i64) ((fun op=>op<1∨17<op))) ((fun op=>.ret (bV op))) h args:=rfl
theorem qP (op:Int) (h:op<1∨17<op):SW Tryz.prog ⟨none,0⟩ Tryz.f65.ntmps (Tryz.f65.body.getD .skip) ⟨0,ag 0 [(ar .i64).enc op],[]⟩ (aH Tryz.prog Tryz.f65.results.toList (.ret (bV op))):=by
 refine aa (ctx:=[⟨_,raS⟩,⟨_,wo⟩]) 4000 ?_
 rw [Tryz.ntmps65,Tryz.results65]
 simp only [Tryz.f65,Option.getD_some,ag]
 have b1:(op==1)=false:=by
  simp only [beq_eq_false_iff_ne,ne_eq]
  omega
 have b2:(op==2)=false:=by
  simp only [beq_eq_false_iff_ne,ne_eq]
  omega
 have b3:(op==3)=false:=by
  simp only [beq_eq_false_iff_ne,ne_eq]
  omega
 have b4:(op==4)=false:=by
  simp only [beq_eq_false_iff_ne,ne_eq]
  omega
 have b5:(op==5)=false:=by
  simp only [beq_eq_false_iff_ne,ne_eq]
  omega
 have b6:(op==6)=false:=by
  simp only [beq_eq_false_iff_ne,ne_eq]
  omega
 have b7:(op==7)=false:=by
  simp only [beq_eq_false_iff_ne,ne_eq]
  omega
 have b8:(op==8)=false:=by
  simp only [beq_eq_false_iff_ne,ne_eq]
  omega
 have b9:(op==9)=false:=by
  simp only [beq_eq_false_iff_ne,ne_eq]
  omega
 have b10:(op==10)=false:=by
  simp only [beq_eq_false_iff_ne,ne_eq]
  omega
 have b11:(op==11)=false:=by
  simp only [beq_eq_false_iff_ne,ne_eq]
  omega
 have b12:(op==12)=false:=by
  simp only [beq_eq_false_iff_ne,ne_eq]
  omega
 have b13:(op==13)=false:=by
  simp only [beq_eq_false_iff_ne,ne_eq]
  omega
 have b14:(op==14)=false:=by
  simp only [beq_eq_false_iff_ne,ne_eq]
  omega
 have b15:(op==15)=false:=by
  simp only [beq_eq_false_iff_ne,ne_eq]
  omega
 have b16:(op==16)=false:=by
  simp only [beq_eq_false_iff_ne,ne_eq]
  omega
 have b17:(op==17)=false:=by
  simp only [beq_eq_false_iff_ne,ne_eq]
  omega
 by_cases h2:1≤op∧op≤32
 ·have e:bV op=bq (ac op):=by unfold bV;rw [if_pos h2]
  rw [e]
  simp only [go_sem,b1,b2,b3,b4,b5,b6,b7,b8,b9,b10,b11,b12,b13,b14,b15,b16,b17,qr,qF,h,e]
 ·have e:bV op=fQ:=by unfold bV;rw [if_neg h2]
  rw [e]
  simp only [go_sem,b1,b2,b3,b4,b5,b6,b7,b8,b9,b10,b11,b12,b13,b14,b15,b16,b17,qr,qF,h,e,fQ]
def jI:aQ Tryz.prog 65 :=
 mk1 _ _ _ Tryz.func65 rfl (fun _ _=>by go_simp) (ar .i64) ((fun _=>True)) ((fun op=>.ret (bV op))) (by rw [Tryz.ntmps65];decide) (fun op _=>by
 by_cases hq:1≤op∧op≤17
 ·have e:bV op=bq (ac op):=by unfold bV;rw [if_pos (by omega)]
  rw [e]
  have:op=1∨op=2∨op=3∨op=4∨op=5∨op=6∨op=7∨op=8∨op=9∨op=10∨op=11∨op=12∨op=13∨op=14∨op=15∨op=16∨op=17:=by omega
  rcases this with rfl | rfl | rfl | rfl | rfl | rfl | rfl | rfl | rfl | rfl | rfl | rfl | rfl | rfl | rfl | rfl | rfl
  ·exact Ds
  ·exact BW
  ·exact Cu
  ·exact CM
  ·exact A0
  ·exact At
  ·exact B3
  ·exact B6
  ·exact Ay
  ·exact zh
  ·exact x3
  ·exact yF
  ·exact zu
  ·exact x7
  ·exact zf
  ·exact x9
  ·exact Aa
 ·exact qP op (by omega))
theorem jx {id:Nat} {h:ah} {args:List AV}:(jI).run id h args=bm (av (ar .i64) ((fun _=>True))) ((fun op=>.ret (bV op))) h args:=rfl
theorem jV {id:Nat} {h:ah} {args:List AV}:(jI).pan id h args=bt (av (ar .i64) ((fun _=>True))) ((fun op=>.ret (bV op))) h args:=rfl
end Go.Proofs.YtpjlafmhoifkmaaGreat
