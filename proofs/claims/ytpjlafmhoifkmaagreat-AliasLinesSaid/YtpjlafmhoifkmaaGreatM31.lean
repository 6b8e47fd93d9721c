import Derived.Test.YtpjlafmhoifkmaaGreatM22
set_option linter.unusedVariables false
set_option linter.unusedSimpArgs false
set_option maxRecDepth 100000
set_option maxHeartbeats 8000000
namespace Go.Proofs.YtpjlafmhoifkmaaGreat
open Go.RowKit
def xw3 {X:Type} (T:Ty X) (hpl:∀ x,(T.enc x).plain=true):Xw (X×X×X) where
 dec:=fun | [A,B,C]=>(match T.dec A,T.dec B,T.dec C with | some a,some b,some c=>some (a,b,c) | _,_,_=>none) | _=>none
 enc:=fun x=>[T.enc x.1,T.enc x.2.1,T.enc x.2.2]
 len:=3
 enc_len:=fun _=>rfl
 ok:=by
  intro zs x h ρ ρ' al al' vals hA
  split at h
  case h_2=>cases h
  split at h
  case h_2=>cases h
  rename_i h1 h2 h3
  injection h with h
  subst h
  match vals,hA with
  | [u,v,w],⟨a,b,c,_⟩=>exact ⟨(T.ok h1 a).plain (hpl _),(T.ok h2 b).plain (hpl _),(T.ok h3 c).plain (hpl _),trivial⟩
def ry:Ty Lim:=ai lY
def wiF (l:List Lim) (x:Lim×Lim×Lim):List Lim:=l++[x.1,x.2.1,x.2.2].filter (fun f=>decide (0<f.1))
def wtL (l:List Lim) (x:Lim×Lim×Lim) (i:Nat):List Lim:=l++([x.1,x.2.1,x.2.2].take i).filter (fun f=>decide (0<f.1))
theorem El {l:List Lim} {x:Lim×Lim×Lim} {i:Nat} {f:Lim} (h:[x.1,x.2.1,x.2.2][i]? = some f):wtL l x (i+1)=if 0<f.1 then wtL l x i++[f] else wtL l x i:=by
 unfold wtL
 rw [List.take_add_one,h]
 simp only [Option.toList_some,List.filter_append,List.filter_cons,List.filter_nil]
 by_cases h1:0<f.1<;>simp [h1]
theorem Hs (l:List Lim) (x:Lim×Lim×Lim) (i:Nat):(wtL l x i).length≤l.length+3:=by
 unfold wtL
 rw [List.length_append]
 have h1:=List.length_filter_le (fun f:Lim=>decide (0<f.1)) ([x.1,x.2.1,x.2.2].take i)
 have h2:([x.1,x.2.1,x.2.2].take i).length≤3:=by rw [List.length_take];simp;omega
 omega
def wtI (l:List Lim) (x:Lim×Lim×Lim) (i:Nat):St:=⟨2,[(0,.s (.l (.sl 0 0 (wtL l x i).length))),(9,.s (.l (.sl 1 0 3))),(10,iv i)],[(0,some (bw.blk (wtL l x i))),(1,some (bw.blk [x.1,x.2.1,x.2.2]))]⟩
theorem wl (args:Array Value) (w:World):(callFunc 132 args).run Tryz.prog w=.ok (.enter 132 args) w:=by go_simp
theorem wJ (l:List Lim) (x:Lim×Lim×Lim) (h:l.length≤20):SW Tryz.prog ⟨none,0⟩ Tryz.f132.ntmps (Tryz.f132.body.getD .skip) ⟨1,ag 0 (.s (.l (.sl 0 0 l.length))::(xw3 ry (fun _=>rfl)).enc x),cX 0 [bw.blk l]⟩
  (iC Tryz.prog Tryz.f132.results.toList 0 (fT bw wiF (l,x))):=by
 refine aa (ctx:=[]) 4000 ?_
 rw [Tryz.ntmps132,Tryz.results132]
 simp only [Tryz.f132,Option.getD_some,ag]
 obtain ⟨a,b,c⟩:=x
 simp only [go_sem,RowL.blk,bw,eJ,xw3,ry,lY]
 refine cM (ι:=Nat) (fun i=>i≤3) (wtI l (a,b,c)) (fun i=>3-i) 0 (Nat.zero_le _) (Wk.renL [0,113] (by simp) (Nat.le_refl 2) (by decide) (by simp [wtI,wtL,dD,AV.ren,SV.ren,LV.ren]) (by simp [wtI,wtL,hget,Blk.ren,RowL.blk,bw,eJ,LV.ren,Function.comp_def])) ?_
 intro i hi
 refine aa (ctx:=[]) 4000 ?_
 by_cases hlt:i<3
 ·have hltI:(i:Int)<3:=by omega
  obtain ⟨f,hf⟩:∃ f,[a,b,c][i]? = some f:=⟨_,List.getElem?_eq_getElem hlt⟩
  have hsn:=El (l:=l) (x:=(a,b,c)) hf
  have ei:IntKind.i64.wrap ((i:Int)+1)=((i+1:Nat):Int):=by rw [IntKind.wrap_i64];omega
  have hrow:(List.map eJ [a,b,c])[i]? = some (eJ f):=by rw [List.getElem?_map,hf];rfl
  simp only [List.map_cons,List.map_nil,eJ] at hrow
  obtain ⟨L,hL⟩:∃ L,wtL l (a,b,c) i=L:=⟨_,rfl⟩
  have hlen:L.length≤23:=by rw [← hL];have:=Hs l (a,b,c) i;omega
  have hm:L.length+1≤maxLen:=by unfold maxLen;omega
  have hb:(L.length+1)*24≤140737488355328:=by omega
  by_cases h0:0<f.1
  ·rw [if_pos h0,hL] at hsn
   simp only [go_sem,wtI,hL,RowL.blk,bw,eJ,hltI,hrow,h0,hm,hb,ei]
   exact ⟨i+1,by omega,by omega,Wk.renL [258,1] (by simp) (Nat.le_refl 2) (by decide) (by rw [hsn,List.length_append];rfl) (by rw [hsn];simp [hget,Blk.ren,eJ,LV.ren,Function.comp_def])⟩
  ·rw [if_neg h0,hL] at hsn
   simp only [go_sem,wtI,hL,RowL.blk,bw,eJ,hltI,hrow,h0,ei]
   exact ⟨i+1,by omega,by omega,Wk.renL [0,1] (by simp) (Nat.le_refl 2) (by decide) (by rw [hsn];rfl) (by rw [hsn];simp [hget,Blk.ren,eJ,LV.ren,Function.comp_def])⟩
 ·obtain rfl:i=3:=by omega
  have e:wtL l (a,b,c) 3=wiF l (a,b,c):=rfl
  simp only [go_sem,wtI,e,RowL.blk,bw,eJ,eZ,dm,fT]
  exact kR (st:=⟨_,_,_⟩) (k:=bw.blk (wiF l (a,b,c))) rfl rfl (bw.blk_ren _)
def dE:aJ Tryz.prog 132 :=
 Mk _ _ _ Tryz.func132 rfl wl bw bw (xw3 ry (fun _=>rfl)) (fun l _=>l.length≤20) wiF (by rw [Tryz.ntmps132];decide) (fun l x h=>wJ l x h)
theorem BQ {id:Nat} {h:am} {args:List AV}:dE.run id h args=co 0 (ox bw (xw3 ry (fun _=>rfl)) (fun l _=>l.length≤20)) (fT bw wiF) id h args:=rfl
theorem Cq {id:Nat} {h:am} {args:List AV}:dE.pan id h args=none:=rfl
def Az {X:Type} (T:Xw X) (_:am):List AV→Option (Prop×List Nat×X)
 | .s (.l (.v (.slice none 0 0)))::zs=>(T.dec zs).map fun x=>(True,[],x)
 | _=>none
theorem CR (x:Lim×Lim×Lim):SW Tryz.prog ⟨none,0⟩ Tryz.f132.ntmps (Tryz.f132.body.getD .skip) ⟨0,ag 0 (.s (.l (.v (.slice none 0 0)))::(xw3 ry (fun _=>rfl)).enc x),[]⟩
  (iC Tryz.prog Tryz.f132.results.toList 0 (fT bw wiF ([],x))) :=
 SW.wk (wJ [] x (by decide)) ((Wk.nil 0 75 3 rfl).trans (Wk.renL [0] (by simp) (Nat.le_refl 1) (by decide) rfl rfl))
def lE:aJ Tryz.prog 132 :=
 mkQ 0 0 (by decide) _ _ _ Tryz.func132 rfl wl (Az (xw3 ry (fun _=>rfl))) (fun x=>.s (.l (.v (.slice none 0 0)))::(xw3 ry (fun _=>rfl)).enc x) (fun _=>[]) (fun x=>fT bw wiF ([],x)) (by rw [Tryz.ntmps132];decide) (fun _ hd=>hd)
  (by
   intro h zs q bs x hd hq
   unfold Az at hd
   split at hd
   case h_2=>cases hd
   rename_i zs'
   cases hx:(xw3 ry (fun _=>rfl)).dec zs' with
   | none=>rw [hx] at hd;cases hd
   | some y =>
    rw [hx] at hd
    simp only [Option.map_some,Option.some.injEq,Prod.mk.injEq] at hd
    obtain ⟨rfl,rfl,rfl⟩:=hd
    refine ⟨by rw [Tryz.ntmps132];exact Nat.le_of_ble_eq_true rfl,rfl,rfl,List.nodup_nil,fun d=>⟨fun j b k hj=>by simp at hj,?_⟩⟩
    intro ρ al vals hA
    match vals,hA with
    | v::vs,⟨a,r⟩=>exact ⟨a,(xw3 ry (fun _=>rfl)).ok hx r⟩)
  (by
   intro h zs q bs x hd hq
   exact CR x)
theorem xN {id:Nat} {h:am} {args:List AV}:lE.run id h args=co 0 (Az (xw3 ry (fun _=>rfl))) (fun x=>fT bw wiF ([],x)) id h args:=rfl
theorem x2 {id:Nat} {h:am} {args:List AV}:lE.pan id h args=none:=rfl
theorem Hw:bi [1,2,3,4]=[(1,0,1),(2,0,1),(3,0,31),(4,0,31)]:=by decide
theorem HB:(∀ z∈([1,2,3,4]:List Int),1≤z)=True:=by simp
theorem mF:bi [1,2,3,4,5]=[(1,0,1),(2,0,1),(3,0,31),(4,0,31),(5,0,31)]:=by decide
theorem l3:(∀ z∈([1,2,3,4,5]:List Int),1≤z)=True:=by simp
theorem CM:bi [1,2,3,4,5,6]=[(1,0,1),(2,0,1),(3,0,31),(4,0,31),(5,0,31),(6,0,31)]:=by decide
theorem AT:(∀ z∈([1,2,3,4,5,6]:List Int),1≤z)=True:=by simp
theorem Hg:bi [1,2,4,5]=[(1,0,1),(2,0,1),(4,0,31),(5,0,31)]:=by decide
theorem Im:(∀ z∈([1,2,4,5]:List Int),1≤z)=True:=by simp
theorem pY:bi [1,3]=[(1,0,1),(3,0,31)]:=by decide
theorem pP:(∀ z∈([1,3]:List Int),1≤z)=True:=by simp
theorem yy:bi [1,3,4]=[(1,0,1),(3,0,31),(4,0,31)]:=by decide
theorem yk:(∀ z∈([1,3,4]:List Int),1≤z)=True:=by simp
theorem vb:bi [1,3,4,5]=[(1,0,1),(3,0,31),(4,0,31),(5,0,31)]:=by decide
theorem uU:(∀ z∈([1,3,4,5]:List Int),1≤z)=True:=by simp
theorem Ge:bi [1,3,4,5,6]=[(1,0,1),(3,0,31),(4,0,31),(5,0,31),(6,0,31)]:=by decide
theorem Fq:(∀ z∈([1,3,4,5,6]:List Int),1≤z)=True:=by simp
theorem re_2:bi [2]=[(2,0,1)]:=by decide
theorem rz_2:(∀ z∈([2]:List Int),1≤z)=True:=by simp
theorem JO:bi [2,3,4,5]=[(2,0,1),(3,0,31),(4,0,31),(5,0,31)]:=by decide
theorem Hl:(∀ z∈([2,3,4,5]:List Int),1≤z)=True:=by simp
theorem IF:bi [2,3,4,6]=[(2,0,1),(3,0,31),(4,0,31),(6,0,31)]:=by decide
theorem JD:(∀ z∈([2,3,4,6]:List Int),1≤z)=True:=by simp
theorem Ir:bi [3]=[(3,0,31)]:=by decide
theorem Jw:(∀ z∈([3]:List Int),1≤z)=True:=by simp
theorem KA:bi [3,4]=[(3,0,31),(4,0,31)]:=by decide
theorem KX:(∀ z∈([3,4]:List Int),1≤z)=True:=by simp
theorem re_4:bi [4]=[(4,0,31)]:=by decide
theorem rz_4:(∀ z∈([4]:List Int),1≤z)=True:=by simp
theorem rw1:wiF [(1,0,1),(3,0,31)] ((7,-1048576,1048575),(0,0,0),(0,0,0))=an 1:=by decide
theorem rl1:an 1=[(1,0,1),(3,0,31),(7,-1048576,1048575)]:=by decide
theorem rw2:wiF [(1,0,1),(2,0,1),(3,0,31),(4,0,31)] ((7,0,4095),(8,0,1),(9,0,1))=an 2:=by decide
theorem rl2:an 2=[(1,0,1),(2,0,1),(3,0,31),(4,0,31),(7,0,4095),(8,0,1),(9,0,1)]:=by decide
theorem rw3:wiF [(1,0,1),(3,0,31),(4,0,31)] ((7,-9223372036854775808,9223372036854775807),(8,0,3),(0,0,0))=an 3:=by decide
theorem rl3:an 3=[(1,0,1),(3,0,31),(4,0,31),(7,-9223372036854775808,9223372036854775807),(8,0,3)]:=by decide
theorem rw4:wiF [(1,0,1),(3,0,31)] ((7,0,65535),(8,0,3),(9,0,3))=an 4:=by decide
theorem rl4:an 4=[(1,0,1),(3,0,31),(7,0,65535),(8,0,3),(9,0,3)]:=by decide
theorem rw5:wiF [(1,0,1),(3,0,31),(4,0,31)] ((7,0,63),(8,0,2),(9,0,63))=an 5:=by decide
theorem rl5:an 5=[(1,0,1),(3,0,31),(4,0,31),(7,0,63),(8,0,2),(9,0,63)]:=by decide
theorem rw6:wiF [(1,0,1),(3,0,31),(4,0,31),(5,0,31)] ((7,0,63),(0,0,0),(0,0,0))=an 6:=by decide
theorem rl6:an 6=[(1,0,1),(3,0,31),(4,0,31),(5,0,31),(7,0,63)]:=by decide
theorem rw7:wiF [] ((7,-262144,262143),(8,0,15),(0,0,0))=an 7:=by decide
theorem rl7:an 7=[(7,-262144,262143),(8,0,15)]:=by decide
theorem rw8:wiF [(2,0,1)] ((7,-33554432,33554431),(0,0,0),(0,0,0))=an 8:=by decide
theorem rl8:an 8=[(2,0,1),(7,-33554432,33554431)]:=by decide
theorem rw9:wiF [(1,0,1),(3,0,31)] ((7,-262144,262143),(8,0,1),(0,0,0))=an 9:=by decide
theorem rl9:an 9=[(1,0,1),(3,0,31),(7,-262144,262143),(8,0,1)]:=by decide
theorem rw10:wiF [(3,0,31)] ((7,-8192,8191),(8,0,1),(9,0,63))=an 10:=by decide
theorem rl10:an 10=[(3,0,31),(7,-8192,8191),(8,0,1),(9,0,63)]:=by decide
theorem rw11:wiF [(4,0,31)] ((0,0,0),(8,0,4),(0,0,0))=an 11:=by decide
theorem rl11:an 11=[(4,0,31),(8,0,4)]:=by decide
theorem rw12:wiF [] ((7,0,65535),(8,0,7),(0,0,0))=an 12:=by decide
theorem rl12:an 12=[(7,0,65535),(8,0,7)]:=by decide
theorem rw13:wiF [] ((7,0,127),(0,0,0),(0,0,0))=an 13:=by decide
theorem rl13:an 13=[(7,0,127)]:=by decide
theorem rw14:wiF [] ((7,0,15),(8,2,6),(0,0,0))=an 14:=by decide
theorem rl14:an 14=[(7,0,15),(8,2,6)]:=by decide
theorem rw15:wiF [(3,0,31)] ((7,0,32767),(8,0,1),(0,0,0))=an 15:=by decide
theorem rl15:an 15=[(3,0,31),(7,0,32767),(8,0,1)]:=by decide
theorem rw16:wiF [] ((7,0,15),(8,0,5),(0,0,0))=an 16:=by decide
theorem rl16:an 16=[(7,0,15),(8,0,5)]:=by decide
theorem rw17:wiF [(3,0,31)] ((7,0,16383),(8,0,1),(0,0,0))=an 17:=by decide
theorem rl17:an 17=[(3,0,31),(7,0,16383),(8,0,1)]:=by decide
theorem rw18:wiF [(3,0,31)] ((7,-262144,262143),(8,0,3),(0,0,0))=an 18:=by decide
theorem rl18:an 18=[(3,0,31),(7,-262144,262143),(8,0,3)]:=by decide
theorem rw19:wiF [(2,0,1),(3,0,31),(4,0,31),(6,0,31)] ((7,-64,63),(8,0,2),(9,0,3))=an 19:=by decide
theorem rl19:an 19=[(2,0,1),(3,0,31),(4,0,31),(6,0,31),(7,-64,63),(8,0,2),(9,0,3)]:=by decide
theorem rw20:wiF [(3,0,31),(4,0,31)] ((7,0,4095),(8,0,3),(9,0,3))=an 20:=by decide
theorem rl20:an 20=[(3,0,31),(4,0,31),(7,0,4095),(8,0,3),(9,0,3)]:=by decide
theorem rw21:wiF [(3,0,31),(4,0,31),(6,0,3)] ((7,-256,255),(8,0,3),(9,0,3))=an 21:=by decide
theorem rl21:an 21=[(3,0,31),(4,0,31),(6,0,3),(7,-256,255),(8,0,3),(9,0,3)]:=by decide
theorem rw22:wiF [(2,0,1),(3,0,31),(4,0,31),(5,0,31)] ((7,2,7),(8,0,3),(9,0,3))=an 22:=by decide
theorem rl22:an 22=[(2,0,1),(3,0,31),(4,0,31),(5,0,31),(7,2,7),(8,0,3),(9,0,3)]:=by decide
theorem rw23:wiF [(1,0,1),(2,0,1),(3,0,31),(4,0,31),(5,0,31),(6,0,31)] ((7,0,2),(8,0,3),(0,0,0))=an 23:=by decide
theorem rl23:an 23=[(1,0,1),(2,0,1),(3,0,31),(4,0,31),(5,0,31),(6,0,31),(7,0,2),(8,0,3)]:=by decide
theorem rw24:wiF [(1,0,1),(2,0,1),(3,0,31),(4,0,31),(5,0,31)] ((7,0,63),(8,0,3),(9,0,3))=an 24:=by decide
theorem rl24:an 24=[(1,0,1),(2,0,1),(3,0,31),(4,0,31),(5,0,31),(7,0,63),(8,0,3),(9,0,3)]:=by decide
theorem rw25:wiF [(1,0,1),(2,0,1),(3,0,31),(4,0,31),(5,0,31)] ((7,0,63),(8,0,1),(9,0,2))=an 25:=by decide
theorem rl25:an 25=[(1,0,1),(2,0,1),(3,0,31),(4,0,31),(5,0,31),(7,0,63),(8,0,1),(9,0,2)]:=by decide
theorem rw26:wiF [(1,0,1),(2,0,1),(3,0,31),(4,0,31),(5,0,31)] ((7,0,4),(8,0,1),(9,0,7))=an 26:=by decide
theorem rl26:an 26=[(1,0,1),(2,0,1),(3,0,31),(4,0,31),(5,0,31),(7,0,4),(8,0,1),(9,0,7)]:=by decide
theorem rw27:wiF [(1,0,1),(2,0,1),(3,0,31),(4,0,31),(5,0,31)] ((0,0,0),(8,0,1),(0,0,0))=an 27:=by decide
theorem rl27:an 27=[(1,0,1),(2,0,1),(3,0,31),(4,0,31),(5,0,31),(8,0,1)]:=by decide
theorem rw28:wiF [(1,0,1),(2,0,1),(4,0,31),(5,0,31)] ((7,0,15),(8,0,1),(9,0,15))=an 28:=by decide
theorem rl28:an 28=[(1,0,1),(2,0,1),(4,0,31),(5,0,31),(7,0,15),(8,0,1),(9,0,15)]:=by decide
theorem rw29:wiF [(1,0,1),(3,0,31),(4,0,31),(5,0,31)] ((7,0,15),(8,0,3),(0,0,0))=an 29:=by decide
theorem rl29:an 29=[(1,0,1),(3,0,31),(4,0,31),(5,0,31),(7,0,15),(8,0,3)]:=by decide
theorem rw30:wiF [(1,0,1),(3,0,31),(4,0,31)] ((0,0,0),(8,0,5),(0,0,0))=an 30:=by decide
theorem rl30:an 30=[(1,0,1),(3,0,31),(4,0,31),(8,0,5)]:=by decide
theorem rw31:wiF [(1,0,1),(3,0,31),(4,0,31),(5,0,31)] ((0,0,0),(8,2,23),(0,0,0))=an 31:=by decide
theorem rl31:an 31=[(1,0,1),(3,0,31),(4,0,31),(5,0,31),(8,2,23)]:=by decide
theorem rw32:wiF [(1,0,1),(3,0,31),(4,0,31),(5,0,31),(6,0,31)] ((0,0,0),(8,0,7),(0,0,0))=an 32:=by decide
theorem rl32:an 32=[(1,0,1),(3,0,31),(4,0,31),(5,0,31),(6,0,31),(8,0,7)]:=by decide
attribute [local go_sem] bw RowL.blk eJ xw3 lY ry fT Lz dx Li mr qA Mz dZ aH x2 ox List.nil_append Mq Cq List.map_cons xE kH xq co bK gOf List.map_nil LS Mv xN xw0 List.filter_nil BQ kU Az qv
theorem G7:SW Tryz.prog ⟨none,0⟩ Tryz.f65.ntmps (Tryz.f65.body.getD .skip) ⟨0,ag 0 [(ao .i64).enc 1],[]⟩ (ax Tryz.prog Tryz.f65.results.toList (.ret (bK (an 1)))):=by
 refine aa (ctx:=[⟨_,raS⟩]) 4000 ?_
 rw [Tryz.ntmps65,Tryz.results65]
 simp only [Tryz.f65,Option.getD_some,ag]
 simp only [go_sem]
 refine ab (ctx:=[⟨_,cz⟩,⟨_,raS⟩,⟨_,rbS⟩,⟨_,rcS⟩,⟨_,dM⟩,⟨_,dE⟩]) ak ⟨[5],[(1,[160])],[(3,[160]),(4,[160])]⟩ (by kernel_rfl) ?_
 simp only [go_sem,pY,pP,rw1,rl1]
 all_goals first | (intro z hz;omega) | exact ⟨fun z hz=>by omega,by unfold maxLen;omega⟩ | exact ⟨by unfold maxLen;omega,fun z hz=>by omega⟩
theorem EI:SW Tryz.prog ⟨none,0⟩ Tryz.f65.ntmps (Tryz.f65.body.getD .skip) ⟨0,ag 0 [(ao .i64).enc 2],[]⟩ (ax Tryz.prog Tryz.f65.results.toList (.ret (bK (an 2)))):=by
 refine aa (ctx:=[⟨_,cz⟩,⟨_,raS⟩,⟨_,rbS⟩,⟨_,rcS⟩,⟨_,dM⟩,⟨_,dE⟩]) 4000 ?_
 rw [Tryz.ntmps65,Tryz.results65]
 simp only [Tryz.f65,Option.getD_some,ag]
 simp only [go_sem,Hw,HB,rw2,rl2]
 all_goals first | (intro z hz;omega) | exact ⟨fun z hz=>by omega,by unfold maxLen;omega⟩ | exact ⟨by unfold maxLen;omega,fun z hz=>by omega⟩
theorem Di:SW Tryz.prog ⟨none,0⟩ Tryz.f65.ntmps (Tryz.f65.body.getD .skip) ⟨0,ag 0 [(ao .i64).enc 3],[]⟩ (ax Tryz.prog Tryz.f65.results.toList (.ret (bK (an 3)))):=by
 refine aa (ctx:=[⟨_,raS⟩]) 4000 ?_
 rw [Tryz.ntmps65,Tryz.results65]
 simp only [Tryz.f65,Option.getD_some,ag]
 simp only [go_sem]
 refine ab (ctx:=[⟨_,cz⟩,⟨_,raS⟩,⟨_,rbS⟩,⟨_,rcS⟩,⟨_,dM⟩,⟨_,dE⟩]) ak ⟨[5],[(1,[224])],[(4,[224])]⟩ (by kernel_rfl) ?_
 simp only [go_sem,yy,yk,rw3,rl3]
 all_goals first | (intro z hz;omega) | exact ⟨fun z hz=>by omega,by unfold maxLen;omega⟩ | exact ⟨by unfold maxLen;omega,fun z hz=>by omega⟩
theorem FS:SW Tryz.prog ⟨none,0⟩ Tryz.f65.ntmps (Tryz.f65.body.getD .skip) ⟨0,ag 0 [(ao .i64).enc 4],[]⟩ (ax Tryz.prog Tryz.f65.results.toList (.ret (bK (an 4)))):=by
 refine aa (ctx:=[⟨_,cz⟩,⟨_,raS⟩,⟨_,rbS⟩,⟨_,rcS⟩,⟨_,dM⟩,⟨_,dE⟩]) 4000 ?_
 rw [Tryz.ntmps65,Tryz.results65]
 simp only [Tryz.f65,Option.getD_some,ag]
 simp only [go_sem,pY,pP,rw4,rl4]
 all_goals first | (intro z hz;omega) | exact ⟨fun z hz=>by omega,by unfold maxLen;omega⟩ | exact ⟨by unfold maxLen;omega,fun z hz=>by omega⟩
theorem Dm:SW Tryz.prog ⟨none,0⟩ Tryz.f65.ntmps (Tryz.f65.body.getD .skip) ⟨0,ag 0 [(ao .i64).enc 5],[]⟩ (ax Tryz.prog Tryz.f65.results.toList (.ret (bK (an 5)))):=by
 refine aa (ctx:=[⟨_,cz⟩,⟨_,raS⟩,⟨_,rbS⟩,⟨_,rcS⟩,⟨_,dM⟩,⟨_,dE⟩]) 4000 ?_
 rw [Tryz.ntmps65,Tryz.results65]
 simp only [Tryz.f65,Option.getD_some,ag]
 simp only [go_sem,yy,yk,rw5,rl5]
 all_goals first | (intro z hz;omega) | exact ⟨fun z hz=>by omega,by unfold maxLen;omega⟩ | exact ⟨by unfold maxLen;omega,fun z hz=>by omega⟩
theorem EM:SW Tryz.prog ⟨none,0⟩ Tryz.f65.ntmps (Tryz.f65.body.getD .skip) ⟨0,ag 0 [(ao .i64).enc 6],[]⟩ (ax Tryz.prog Tryz.f65.results.toList (.ret (bK (an 6)))):=by
 refine aa (ctx:=[⟨_,raS⟩]) 4000 ?_
 rw [Tryz.ntmps65,Tryz.results65]
 simp only [Tryz.f65,Option.getD_some,ag]
 simp only [go_sem]
 refine ab (ctx:=[⟨_,cz⟩,⟨_,raS⟩,⟨_,rbS⟩,⟨_,rcS⟩,⟨_,dM⟩,⟨_,dE⟩]) ak ⟨[5],[(1,[320])],[(3,[320]),(4,[320])]⟩ (by kernel_rfl) ?_
 simp only [go_sem,vb,uU,rw6,rl6]
 all_goals first | (intro z hz;omega) | exact ⟨fun z hz=>by omega,by unfold maxLen;omega⟩ | exact ⟨by unfold maxLen;omega,fun z hz=>by omega⟩
theorem EJ:SW Tryz.prog ⟨none,0⟩ Tryz.f65.ntmps (Tryz.f65.body.getD .skip) ⟨0,ag 0 [(ao .i64).enc 7],[]⟩ (ax Tryz.prog Tryz.f65.results.toList (.ret (bK (an 7)))):=by
 refine aa (ctx:=[⟨_,raS⟩]) 4000 ?_
 rw [Tryz.ntmps65,Tryz.results65]
 simp only [Tryz.f65,Option.getD_some,ag]
 simp only [go_sem]
 refine ab (ctx:=[⟨_,cz⟩,⟨_,raS⟩,⟨_,rbS⟩,⟨_,rcS⟩,⟨_,dM⟩,⟨_,lE⟩]) ak ⟨[],[],[]⟩ (by kernel_rfl) ?_
 simp only [go_sem,pY,pP,rw7,rl7]
 all_goals first | (intro z hz;omega) | exact ⟨fun z hz=>by omega,by unfold maxLen;omega⟩ | exact ⟨by unfold maxLen;omega,fun z hz=>by omega⟩
theorem DP:SW Tryz.prog ⟨none,0⟩ Tryz.f65.ntmps (Tryz.f65.body.getD .skip) ⟨0,ag 0 [(ao .i64).enc 8],[]⟩ (ax Tryz.prog Tryz.f65.results.toList (.ret (bK (an 8)))):=by
 refine aa (ctx:=[⟨_,raS⟩]) 4000 ?_
 rw [Tryz.ntmps65,Tryz.results65]
 simp only [Tryz.f65,Option.getD_some,ag]
 simp only [go_sem]
 refine ab (ctx:=[⟨_,cz⟩,⟨_,raS⟩,⟨_,rbS⟩,⟨_,rcS⟩,⟨_,dM⟩,⟨_,dE⟩]) ak ⟨[5],[(1,[384])],[(3,[384]),(4,[384])]⟩ (by kernel_rfl) ?_
 simp only [go_sem,re_2,rz_2,rw8,rl8]
 all_goals first | (intro z hz;omega) | exact ⟨fun z hz=>by omega,by unfold maxLen;omega⟩ | exact ⟨by unfold maxLen;omega,fun z hz=>by omega⟩
theorem Fu:SW Tryz.prog ⟨none,0⟩ Tryz.f65.ntmps (Tryz.f65.body.getD .skip) ⟨0,ag 0 [(ao .i64).enc 9],[]⟩ (ax Tryz.prog Tryz.f65.results.toList (.ret (bK (an 9)))):=by
 refine aa (ctx:=[⟨_,raS⟩]) 4000 ?_
 rw [Tryz.ntmps65,Tryz.results65]
 simp only [Tryz.f65,Option.getD_some,ag]
 simp only [go_sem]
 refine ab (ctx:=[⟨_,cz⟩,⟨_,raS⟩,⟨_,rbS⟩,⟨_,rcS⟩,⟨_,dM⟩,⟨_,dE⟩]) ak ⟨[5],[(1,[416])],[(2,[416]),(4,[416])]⟩ (by kernel_rfl) ?_
 simp only [go_sem,pY,pP,rw9,rl9]
 all_goals first | (intro z hz;omega) | exact ⟨fun z hz=>by omega,by unfold maxLen;omega⟩ | exact ⟨by unfold maxLen;omega,fun z hz=>by omega⟩
theorem CV:SW Tryz.prog ⟨none,0⟩ Tryz.f65.ntmps (Tryz.f65.body.getD .skip) ⟨0,ag 0 [(ao .i64).enc 10],[]⟩ (ax Tryz.prog Tryz.f65.results.toList (.ret (bK (an 10)))):=by
 refine aa (ctx:=[⟨_,cz⟩,⟨_,raS⟩,⟨_,rbS⟩,⟨_,rcS⟩,⟨_,dM⟩,⟨_,dE⟩]) 4000 ?_
 rw [Tryz.ntmps65,Tryz.results65]
 simp only [Tryz.f65,Option.getD_some,ag]
 simp only [go_sem,Ir,Jw,rw10,rl10]
 all_goals first | (intro z hz;omega) | exact ⟨fun z hz=>by omega,by unfold maxLen;omega⟩ | exact ⟨by unfold maxLen;omega,fun z hz=>by omega⟩
theorem Cz:SW Tryz.prog ⟨none,0⟩ Tryz.f65.ntmps (Tryz.f65.body.getD .skip) ⟨0,ag 0 [(ao .i64).enc 11],[]⟩ (ax Tryz.prog Tryz.f65.results.toList (.ret (bK (an 11)))):=by
 refine aa (ctx:=[⟨_,raS⟩]) 4000 ?_
 rw [Tryz.ntmps65,Tryz.results65]
 simp only [Tryz.f65,Option.getD_some,ag]
 simp only [go_sem]
 refine ab (ctx:=[⟨_,cz⟩,⟨_,raS⟩,⟨_,rbS⟩,⟨_,rcS⟩,⟨_,dM⟩,⟨_,dE⟩]) ak ⟨[5],[(1,[480])],[(2,[480]),(4,[480])]⟩ (by kernel_rfl) ?_
 simp only [go_sem,re_4,rz_4,rw11,rl11]
 all_goals first | (intro z hz;omega) | exact ⟨fun z hz=>by omega,by unfold maxLen;omega⟩ | exact ⟨by unfold maxLen;omega,fun z hz=>by omega⟩
theorem A4:SW Tryz.prog ⟨none,0⟩ Tryz.f65.ntmps (Tryz.f65.body.getD .skip) ⟨0,ag 0 [(ao .i64).enc 12],[]⟩ (ax Tryz.prog Tryz.f65.results.toList (.ret (bK (an 12)))):=by
 refine aa (ctx:=[⟨_,raS⟩]) 4000 ?_
 rw [Tryz.ntmps65,Tryz.results65]
 simp only [Tryz.f65,Option.getD_some,ag]
 simp only [go_sem]
 refine ab (ctx:=[⟨_,cz⟩,⟨_,raS⟩,⟨_,rbS⟩,⟨_,rcS⟩,⟨_,dM⟩,⟨_,lE⟩]) ak ⟨[],[],[]⟩ (by kernel_rfl) ?_
 simp only [go_sem,pY,pP,rw12,rl12]
 all_goals first | (intro z hz;omega) | exact ⟨fun z hz=>by omega,by unfold maxLen;omega⟩ | exact ⟨by unfold maxLen;omega,fun z hz=>by omega⟩
theorem Cm:SW Tryz.prog ⟨none,0⟩ Tryz.f65.ntmps (Tryz.f65.body.getD .skip) ⟨0,ag 0 [(ao .i64).enc 13],[]⟩ (ax Tryz.prog Tryz.f65.results.toList (.ret (bK (an 13)))):=by
 refine aa (ctx:=[⟨_,raS⟩]) 4000 ?_
 rw [Tryz.ntmps65,Tryz.results65]
 simp only [Tryz.f65,Option.getD_some,ag]
 simp only [go_sem]
 refine ab (ctx:=[⟨_,cz⟩,⟨_,raS⟩,⟨_,rbS⟩,⟨_,rcS⟩,⟨_,dM⟩,⟨_,lE⟩]) ak ⟨[],[],[]⟩ (by kernel_rfl) ?_
 simp only [go_sem,pY,pP,rw13,rl13]
 all_goals first | (intro z hz;omega) | exact ⟨fun z hz=>by omega,by unfold maxLen;omega⟩ | exact ⟨by unfold maxLen;omega,fun z hz=>by omega⟩
theorem Bp:SW Tryz.prog ⟨none,0⟩ Tryz.f65.ntmps (Tryz.f65.body.getD .skip) ⟨0,ag 0 [(ao .i64).enc 14],[]⟩ (ax Tryz.prog Tryz.f65.results.toList (.ret (bK (an 14)))):=by
 refine aa (ctx:=[⟨_,raS⟩]) 4000 ?_
 rw [Tryz.ntmps65,Tryz.results65]
 simp only [Tryz.f65,Option.getD_some,ag]
 simp only [go_sem]
 refine ab (ctx:=[⟨_,cz⟩,⟨_,raS⟩,⟨_,rbS⟩,⟨_,rcS⟩,⟨_,dM⟩,⟨_,lE⟩]) ak ⟨[],[],[]⟩ (by kernel_rfl) ?_
 simp only [go_sem,pY,pP,rw14,rl14]
 all_goals first | (intro z hz;omega) | exact ⟨fun z hz=>by omega,by unfold maxLen;omega⟩ | exact ⟨by unfold maxLen;omega,fun z hz=>by omega⟩
theorem BK:SW Tryz.prog ⟨none,0⟩ Tryz.f65.ntmps (Tryz.f65.body.getD .skip) ⟨0,ag 0 [(ao .i64).enc 15],[]⟩ (ax Tryz.prog Tryz.f65.results.toList (.ret (bK (an 15)))):=by
 refine aa (ctx:=[⟨_,raS⟩]) 4000 ?_
 rw [Tryz.ntmps65,Tryz.results65]
 simp only [Tryz.f65,Option.getD_some,ag]
 simp only [go_sem]
 refine ab (ctx:=[⟨_,cz⟩,⟨_,raS⟩,⟨_,rbS⟩,⟨_,rcS⟩,⟨_,dM⟩,⟨_,dE⟩]) ak ⟨[5],[(1,[608])],[(4,[608])]⟩ (by kernel_rfl) ?_
 simp only [go_sem,Ir,Jw,rw15,rl15]
 all_goals first | (intro z hz;omega) | exact ⟨fun z hz=>by omega,by unfold maxLen;omega⟩ | exact ⟨by unfold maxLen;omega,fun z hz=>by omega⟩
theorem Cb:SW Tryz.prog ⟨none,0⟩ Tryz.f65.ntmps (Tryz.f65.body.getD .skip) ⟨0,ag 0 [(ao .i64).enc 16],[]⟩ (ax Tryz.prog Tryz.f65.results.toList (.ret (bK (an 16)))):=by
 refine aa (ctx:=[⟨_,raS⟩]) 4000 ?_
 rw [Tryz.ntmps65,Tryz.results65]
 simp only [Tryz.f65,Option.getD_some,ag]
 simp only [go_sem]
 refine ab (ctx:=[⟨_,cz⟩,⟨_,raS⟩,⟨_,rbS⟩,⟨_,rcS⟩,⟨_,dM⟩,⟨_,lE⟩]) ak ⟨[],[],[]⟩ (by kernel_rfl) ?_
 simp only [go_sem,pY,pP,rw16,rl16]
 all_goals first | (intro z hz;omega) | exact ⟨fun z hz=>by omega,by unfold maxLen;omega⟩ | exact ⟨by unfold maxLen;omega,fun z hz=>by omega⟩
theorem CP:SW Tryz.prog ⟨none,0⟩ Tryz.f65.ntmps (Tryz.f65.body.getD .skip) ⟨0,ag 0 [(ao .i64).enc 17],[]⟩ (ax Tryz.prog Tryz.f65.results.toList (.ret (bK (an 17)))):=by
 refine aa (ctx:=[⟨_,raS⟩]) 4000 ?_
 rw [Tryz.ntmps65,Tryz.results65]
 simp only [Tryz.f65,Option.getD_some,ag]
 simp only [go_sem]
 refine ab (ctx:=[⟨_,cz⟩,⟨_,raS⟩,⟨_,rbS⟩,⟨_,rcS⟩,⟨_,dM⟩,⟨_,dE⟩]) ak ⟨[5],[(1,[672])],[(4,[672])]⟩ (by kernel_rfl) ?_
 simp only [go_sem,Ir,Jw,rw17,rl17]
 all_goals first | (intro z hz;omega) | exact ⟨fun z hz=>by omega,by unfold maxLen;omega⟩ | exact ⟨by unfold maxLen;omega,fun z hz=>by omega⟩
theorem B4:SW Tryz.prog ⟨none,0⟩ Tryz.f137.ntmps (Tryz.f137.body.getD .skip) ⟨0,ag 0 [(ao .i64).enc 18],[]⟩ (ax Tryz.prog Tryz.f137.results.toList (.ret (bK (an 18)))):=by
 refine aa (ctx:=[⟨_,raS⟩]) 4000 ?_
 rw [Tryz.ntmps137,Tryz.results137]
 simp only [Tryz.f137,Option.getD_some,ag]
 simp only [go_sem]
 refine ab (ctx:=[⟨_,cz⟩,⟨_,raS⟩,⟨_,rbS⟩,⟨_,rcS⟩,⟨_,dM⟩,⟨_,dE⟩]) ak ⟨[5],[(1,[144])],[(4,[144])]⟩ (by kernel_rfl) ?_
 simp only [go_sem,Ir,Jw,rw18,rl18]
 all_goals first | (intro z hz;omega) | exact ⟨fun z hz=>by omega,by unfold maxLen;omega⟩ | exact ⟨by unfold maxLen;omega,fun z hz=>by omega⟩
theorem AK:SW Tryz.prog ⟨none,0⟩ Tryz.f137.ntmps (Tryz.f137.body.getD .skip) ⟨0,ag 0 [(ao .i64).enc 19],[]⟩ (ax Tryz.prog Tryz.f137.results.toList (.ret (bK (an 19)))):=by
 refine aa (ctx:=[⟨_,cz⟩,⟨_,raS⟩,⟨_,rbS⟩,⟨_,rcS⟩,⟨_,dM⟩,⟨_,dE⟩]) 4000 ?_
 rw [Tryz.ntmps137,Tryz.results137]
 simp only [Tryz.f137,Option.getD_some,ag]
 simp only [go_sem,IF,JD,rw19,rl19]
 all_goals first | (intro z hz;omega) | exact ⟨fun z hz=>by omega,by unfold maxLen;omega⟩ | exact ⟨by unfold maxLen;omega,fun z hz=>by omega⟩
theorem Ck:SW Tryz.prog ⟨none,0⟩ Tryz.f137.ntmps (Tryz.f137.body.getD .skip) ⟨0,ag 0 [(ao .i64).enc 20],[]⟩ (ax Tryz.prog Tryz.f137.results.toList (.ret (bK (an 20)))):=by
 refine aa (ctx:=[⟨_,cz⟩,⟨_,raS⟩,⟨_,rbS⟩,⟨_,rcS⟩,⟨_,dM⟩,⟨_,dE⟩]) 4000 ?_
 rw [Tryz.ntmps137,Tryz.results137]
 simp only [Tryz.f137,Option.getD_some,ag]
 simp only [go_sem,KA,KX,rw20,rl20]
 all_goals first | (intro z hz;omega) | exact ⟨fun z hz=>by omega,by unfold maxLen;omega⟩ | exact ⟨by unfold maxLen;omega,fun z hz=>by omega⟩
theorem AX:SW Tryz.prog ⟨none,0⟩ Tryz.f137.ntmps (Tryz.f137.body.getD .skip) ⟨0,ag 0 [(ao .i64).enc 21],[]⟩ (ax Tryz.prog Tryz.f137.results.toList (.ret (bK (an 21)))):=by
 refine aa (ctx:=[⟨_,cz⟩,⟨_,raS⟩,⟨_,rbS⟩,⟨_,rcS⟩,⟨_,dM⟩,⟨_,dE⟩]) 4000 ?_
 rw [Tryz.ntmps137,Tryz.results137]
 simp only [Tryz.f137,Option.getD_some,ag]
 simp only [go_sem,KA,KX,rw21,rl21]
 all_goals first | (intro z hz;omega) | exact ⟨fun z hz=>by omega,by unfold maxLen;omega⟩ | exact ⟨by unfold maxLen;omega,fun z hz=>by omega⟩
theorem Bq:SW Tryz.prog ⟨none,0⟩ Tryz.f137.ntmps (Tryz.f137.body.getD .skip) ⟨0,ag 0 [(ao .i64).enc 22],[]⟩ (ax Tryz.prog Tryz.f137.results.toList (.ret (bK (an 22)))):=by
 refine aa (ctx:=[⟨_,cz⟩,⟨_,raS⟩,⟨_,rbS⟩,⟨_,rcS⟩,⟨_,dM⟩,⟨_,dE⟩]) 4000 ?_
 rw [Tryz.ntmps137,Tryz.results137]
 simp only [Tryz.f137,Option.getD_some,ag]
 simp only [go_sem,JO,Hl,rw22,rl22]
 all_goals first | (intro z hz;omega) | exact ⟨fun z hz=>by omega,by unfold maxLen;omega⟩ | exact ⟨by unfold maxLen;omega,fun z hz=>by omega⟩
theorem BX:SW Tryz.prog ⟨none,0⟩ Tryz.f137.ntmps (Tryz.f137.body.getD .skip) ⟨0,ag 0 [(ao .i64).enc 23],[]⟩ (ax Tryz.prog Tryz.f137.results.toList (.ret (bK (an 23)))):=by
 refine aa (ctx:=[⟨_,raS⟩]) 4000 ?_
 rw [Tryz.ntmps137,Tryz.results137]
 simp only [Tryz.f137,Option.getD_some,ag]
 simp only [go_sem]
 refine ab (ctx:=[⟨_,cz⟩,⟨_,raS⟩,⟨_,rbS⟩,⟨_,rcS⟩,⟨_,dM⟩,⟨_,dE⟩]) ak ⟨[7],[(2,[64,320]),(3,[336])],[(6,[64,320,336])]⟩ (by kernel_rfl) ?_
 simp only [go_sem,CM,AT,mF,l3,rw23,rl23]
 all_goals first | (intro z hz;omega) | exact ⟨fun z hz=>by omega,by unfold maxLen;omega⟩ | exact ⟨by unfold maxLen;omega,fun z hz=>by omega⟩
theorem Ce:SW Tryz.prog ⟨none,0⟩ Tryz.f137.ntmps (Tryz.f137.body.getD .skip) ⟨0,ag 0 [(ao .i64).enc 24],[]⟩ (ax Tryz.prog Tryz.f137.results.toList (.ret (bK (an 24)))):=by
 refine aa (ctx:=[⟨_,cz⟩,⟨_,raS⟩,⟨_,rbS⟩,⟨_,rcS⟩,⟨_,dM⟩,⟨_,dE⟩]) 4000 ?_
 rw [Tryz.ntmps137,Tryz.results137]
 simp only [Tryz.f137,Option.getD_some,ag]
 simp only [go_sem,mF,l3,rw24,rl24]
 all_goals first | (intro z hz;omega) | exact ⟨fun z hz=>by omega,by unfold maxLen;omega⟩ | exact ⟨by unfold maxLen;omega,fun z hz=>by omega⟩
theorem BN:SW Tryz.prog ⟨none,0⟩ Tryz.f137.ntmps (Tryz.f137.body.getD .skip) ⟨0,ag 0 [(ao .i64).enc 25],[]⟩ (ax Tryz.prog Tryz.f137.results.toList (.ret (bK (an 25)))):=by
 refine aa (ctx:=[⟨_,cz⟩,⟨_,raS⟩,⟨_,rbS⟩,⟨_,rcS⟩,⟨_,dM⟩,⟨_,dE⟩]) 4000 ?_
 rw [Tryz.ntmps137,Tryz.results137]
 simp only [Tryz.f137,Option.getD_some,ag]
 simp only [go_sem,mF,l3,rw25,rl25]
 all_goals first | (intro z hz;omega) | exact ⟨fun z hz=>by omega,by unfold maxLen;omega⟩ | exact ⟨by unfold maxLen;omega,fun z hz=>by omega⟩
theorem B8:SW Tryz.prog ⟨none,0⟩ Tryz.f137.ntmps (Tryz.f137.body.getD .skip) ⟨0,ag 0 [(ao .i64).enc 26],[]⟩ (ax Tryz.prog Tryz.f137.results.toList (.ret (bK (an 26)))):=by
 refine aa (ctx:=[⟨_,cz⟩,⟨_,raS⟩,⟨_,rbS⟩,⟨_,rcS⟩,⟨_,dM⟩,⟨_,dE⟩]) 4000 ?_
 rw [Tryz.ntmps137,Tryz.results137]
 simp only [Tryz.f137,Option.getD_some,ag]
 simp only [go_sem,mF,l3,rw26,rl26]
 all_goals first | (intro z hz;omega) | exact ⟨fun z hz=>by omega,by unfold maxLen;omega⟩ | exact ⟨by unfold maxLen;omega,fun z hz=>by omega⟩
theorem AS:SW Tryz.prog ⟨none,0⟩ Tryz.f137.ntmps (Tryz.f137.body.getD .skip) ⟨0,ag 0 [(ao .i64).enc 27],[]⟩ (ax Tryz.prog Tryz.f137.results.toList (.ret (bK (an 27)))):=by
 refine aa (ctx:=[⟨_,raS⟩]) 4000 ?_
 rw [Tryz.ntmps137,Tryz.results137]
 simp only [Tryz.f137,Option.getD_some,ag]
 simp only [go_sem]
 refine ab (ctx:=[⟨_,cz⟩,⟨_,raS⟩,⟨_,rbS⟩,⟨_,rcS⟩,⟨_,dM⟩,⟨_,dE⟩]) ak ⟨[5],[(1,[64])],[(2,[64]),(4,[64])]⟩ (by kernel_rfl) ?_
 simp only [go_sem,mF,l3,rw27,rl27]
 all_goals first | (intro z hz;omega) | exact ⟨fun z hz=>by omega,by unfold maxLen;omega⟩ | exact ⟨by unfold maxLen;omega,fun z hz=>by omega⟩
theorem AM:SW Tryz.prog ⟨none,0⟩ Tryz.f137.ntmps (Tryz.f137.body.getD .skip) ⟨0,ag 0 [(ao .i64).enc 28],[]⟩ (ax Tryz.prog Tryz.f137.results.toList (.ret (bK (an 28)))):=by
 refine aa (ctx:=[⟨_,cz⟩,⟨_,raS⟩,⟨_,rbS⟩,⟨_,rcS⟩,⟨_,dM⟩,⟨_,dE⟩]) 4000 ?_
 rw [Tryz.ntmps137,Tryz.results137]
 simp only [Tryz.f137,Option.getD_some,ag]
 simp only [go_sem,Hg,Im,rw28,rl28]
 all_goals first | (intro z hz;omega) | exact ⟨fun z hz=>by omega,by unfold maxLen;omega⟩ | exact ⟨by unfold maxLen;omega,fun z hz=>by omega⟩
theorem Bn:SW Tryz.prog ⟨none,0⟩ Tryz.f137.ntmps (Tryz.f137.body.getD .skip) ⟨0,ag 0 [(ao .i64).enc 29],[]⟩ (ax Tryz.prog Tryz.f137.results.toList (.ret (bK (an 29)))):=by
 refine aa (ctx:=[⟨_,raS⟩]) 4000 ?_
 rw [Tryz.ntmps137,Tryz.results137]
 simp only [Tryz.f137,Option.getD_some,ag]
 simp only [go_sem]
 refine ab (ctx:=[⟨_,cz⟩,⟨_,raS⟩,⟨_,rbS⟩,⟨_,rcS⟩,⟨_,dM⟩,⟨_,dE⟩]) ak ⟨[5],[(1,[496])],[(4,[496])]⟩ (by kernel_rfl) ?_
 simp only [go_sem,vb,uU,rw29,rl29]
 all_goals first | (intro z hz;omega) | exact ⟨fun z hz=>by omega,by unfold maxLen;omega⟩ | exact ⟨by unfold maxLen;omega,fun z hz=>by omega⟩
theorem CF:SW Tryz.prog ⟨none,0⟩ Tryz.f137.ntmps (Tryz.f137.body.getD .skip) ⟨0,ag 0 [(ao .i64).enc 30],[]⟩ (ax Tryz.prog Tryz.f137.results.toList (.ret (bK (an 30)))):=by
 refine aa (ctx:=[⟨_,raS⟩]) 4000 ?_
 rw [Tryz.ntmps137,Tryz.results137]
 simp only [Tryz.f137,Option.getD_some,ag]
 simp only [go_sem]
 refine ab (ctx:=[⟨_,cz⟩,⟨_,raS⟩,⟨_,rbS⟩,⟨_,rcS⟩,⟨_,dM⟩,⟨_,dE⟩]) ak ⟨[5],[(1,[528])],[(2,[528]),(4,[528])]⟩ (by kernel_rfl) ?_
 simp only [go_sem,yy,yk,rw30,rl30]
 all_goals first | (intro z hz;omega) | exact ⟨fun z hz=>by omega,by unfold maxLen;omega⟩ | exact ⟨by unfold maxLen;omega,fun z hz=>by omega⟩
theorem C0:SW Tryz.prog ⟨none,0⟩ Tryz.f137.ntmps (Tryz.f137.body.getD .skip) ⟨0,ag 0 [(ao .i64).enc 31],[]⟩ (ax Tryz.prog Tryz.f137.results.toList (.ret (bK (an 31)))):=by
 refine aa (ctx:=[⟨_,raS⟩]) 4000 ?_
 rw [Tryz.ntmps137,Tryz.results137]
 simp only [Tryz.f137,Option.getD_some,ag]
 simp only [go_sem]
 refine ab (ctx:=[⟨_,cz⟩,⟨_,raS⟩,⟨_,rbS⟩,⟨_,rcS⟩,⟨_,dM⟩,⟨_,dE⟩]) ak ⟨[5],[(1,[560])],[(2,[560]),(4,[560])]⟩ (by kernel_rfl) ?_
 simp only [go_sem,vb,uU,rw31,rl31]
 all_goals first | (intro z hz;omega) | exact ⟨fun z hz=>by omega,by unfold maxLen;omega⟩ | exact ⟨by unfold maxLen;omega,fun z hz=>by omega⟩
theorem BE:SW Tryz.prog ⟨none,0⟩ Tryz.f137.ntmps (Tryz.f137.body.getD .skip) ⟨0,ag 0 [(ao .i64).enc 32],[]⟩ (ax Tryz.prog Tryz.f137.results.toList (.ret (bK (an 32)))):=by
 refine aa (ctx:=[⟨_,raS⟩]) 4000 ?_
 rw [Tryz.ntmps137,Tryz.results137]
 simp only [Tryz.f137,Option.getD_some,ag]
 simp only [go_sem]
 refine ab (ctx:=[⟨_,cz⟩,⟨_,raS⟩,⟨_,rbS⟩,⟨_,rcS⟩,⟨_,dM⟩,⟨_,dE⟩]) ak ⟨[5],[(1,[592])],[(2,[592]),(4,[592])]⟩ (by kernel_rfl) ?_
 simp only [go_sem,Ge,Fq,rw32,rl32]
 all_goals first | (intro z hz;omega) | exact ⟨fun z hz=>by omega,by unfold maxLen;omega⟩ | exact ⟨by unfold maxLen;omega,fun z hz=>by omega⟩
theorem xz {op:Int} (h:op<1∨32<op):SW Tryz.prog ⟨none,0⟩ Tryz.f137.ntmps (Tryz.f137.body.getD .skip) ⟨0,ag 0 [(ao .i64).enc op],[]⟩ (ax Tryz.prog Tryz.f137.results.toList (.ret jb)):=by
 refine aa (ctx:=[]) 4000 ?_
 rw [Tryz.ntmps137,Tryz.results137]
 simp only [Tryz.f137,Option.getD_some,ag]
 have b18:(op==18)=false:=by
  simp only [beq_eq_false_iff_ne,ne_eq]
  omega
 have b19:(op==19)=false:=by
  simp only [beq_eq_false_iff_ne,ne_eq]
  omega
 have b20:(op==20)=false:=by
  simp only [beq_eq_false_iff_ne,ne_eq]
  omega
 have b21:(op==21)=false:=by
  simp only [beq_eq_false_iff_ne,ne_eq]
  omega
 have b22:(op==22)=false:=by
  simp only [beq_eq_false_iff_ne,ne_eq]
  omega
 have b23:(op==23)=false:=by
  simp only [beq_eq_false_iff_ne,ne_eq]
  omega
 have b24:(op==24)=false:=by
  simp only [beq_eq_false_iff_ne,ne_eq]
  omega
 have b25:(op==25)=false:=by
  simp only [beq_eq_false_iff_ne,ne_eq]
  omega
 have b26:(op==26)=false:=by
  simp only [beq_eq_false_iff_ne,ne_eq]
  omega
 have b27:(op==27)=false:=by
  simp only [beq_eq_false_iff_ne,ne_eq]
  omega
 have b28:(op==28)=false:=by
  simp only [beq_eq_false_iff_ne,ne_eq]
  omega
 have b29:(op==29)=false:=by
  simp only [beq_eq_false_iff_ne,ne_eq]
  omega
 have b30:(op==30)=false:=by
  simp only [beq_eq_false_iff_ne,ne_eq]
  omega
 have b31:(op==31)=false:=by
  simp only [beq_eq_false_iff_ne,ne_eq]
  omega
 have b32:(op==32)=false:=by
  simp only [beq_eq_false_iff_ne,ne_eq]
  omega
 simp only [go_sem,b18,b19,b20,b21,b22,b23,b24,b25,b26,b27,b28,b29,b30,b31,b32,jb]
def xp:aJ Tryz.prog 137 :=
 mk1 _ _ _ Tryz.func137 rfl (fun _ _=>by go_simp) (ao .i64) ((fun op=>op<1∨17<op)) ((fun op=>.ret (cD op))) (by rw [Tryz.ntmps137];decide) (fun op h=>by
 by_cases hq:18≤op∧op≤32
 ·have e:cD op=bK (an op):=by unfold cD;rw [if_pos (by omega)]
  rw [e]
  have:op=18∨op=19∨op=20∨op=21∨op=22∨op=23∨op=24∨op=25∨op=26∨op=27∨op=28∨op=29∨op=30∨op=31∨op=32:=by omega
  rcases this with rfl | rfl | rfl | rfl | rfl | rfl | rfl | rfl | rfl | rfl | rfl | rfl | rfl | rfl | rfl
  ·exact B4
  ·exact AK
  ·exact Ck
  ·exact AX
  ·exact Bq
  ·exact BX
  ·exact Ce
  ·exact BN
  ·exact B8
  ·exact AS
  ·exact AM
  ·exact Bn
  ·exact CF
  ·exact C0
  ·exact BE
 ·have e:cD op=jb:=by unfold cD;rw [if_neg (by omega)]
  rw [e]
  exact xz (by omega))
theorem tL {id:Nat} {h:am} {args:List AV}:(xp).run id h args=aY (au (ao .i64) ((fun op=>op<1∨17<op))) ((fun op=>.ret (cD op))) h args:=rfl
theorem tJ {id:Nat} {h:am} {args:List AV}:(xp).pan id h args=aZ (au (ao .i64) ((fun op=>op<1∨17<op))) ((fun op=>.ret (cD op))) h args:=rfl
theorem tQ (op:Int) (h:op<1∨17<op):SW Tryz.prog ⟨none,0⟩ Tryz.f65.ntmps (Tryz.f65.body.getD .skip) ⟨0,ag 0 [(ao .i64).enc op],[]⟩ (ax Tryz.prog Tryz.f65.results.toList (.ret (cD op))):=by
 refine aa (ctx:=[⟨_,raS⟩,⟨_,xp⟩]) 4000 ?_
 rw [Tryz.ntmps65,Tryz.results65]
 simp only [Tryz.f65,Option.getD_some,ag]
 have b1:(op==1)=false:=by
  simp only [beq_eq_false_iff_ne,ne_eq]
  omega
 have b2:(op==2)=false:=by
  simp only [beq_eq_false_iff_ne,ne_eq]
  omega
 have b3:(op==3)=false:=by
  simp only [beq_eq_false_iff_ne,ne_eq]
  omega
 have b4:(op==4)=false:=by
  simp only [beq_eq_false_iff_ne,ne_eq]
  omega
 have b5:(op==5)=false:=by
  simp only [beq_eq_false_iff_ne,ne_eq]
  omega
 have b6:(op==6)=false:=by
  simp only [beq_eq_false_iff_ne,ne_eq]
  omega
 have b7:(op==7)=false:=by
  simp only [beq_eq_false_iff_ne,ne_eq]
  omega
 have b8:(op==8)=false:=by
  simp only [beq_eq_false_iff_ne,ne_eq]
  omega
 have b9:(op==9)=false:=by
  simp only [beq_eq_false_iff_ne,ne_eq]
  omega
 have b10:(op==10)=false:=by
  simp only [beq_eq_false_iff_ne,ne_eq]
  omega
 have b11:(op==11)=false:=by
  simp only [beq_eq_false_iff_ne,ne_eq]
  omega
 have b12:(op==12)=false:=by
  simp only [beq_eq_false_iff_ne,ne_eq]
  omega
 have b13:(op==13)=false:=by
  simp only [beq_eq_false_iff_ne,ne_eq]
  omega
 have b14:(op==14)=false:=by
  simp only [beq_eq_false_iff_ne,ne_eq]
  omega
 have b15:(op==15)=false:=by
  simp only [beq_eq_false_iff_ne,ne_eq]
  omega
 have b16:(op==16)=false:=by
  simp only [beq_eq_false_iff_ne,ne_eq]
  omega
 have b17:(op==17)=false:=by
  simp only [beq_eq_false_iff_ne,ne_eq]
  omega
 by_cases h2:1≤op∧op≤32
 ·have e:cD op=bK (an op):=by unfold cD;rw [if_pos h2]
  rw [e]
  simp only [go_sem,b1,b2,b3,b4,b5,b6,b7,b8,b9,b10,b11,b12,b13,b14,b15,b16,b17,tL,tJ,h,e]
 ·have e:cD op=jb:=by unfold cD;rw [if_neg h2]
  rw [e]
  simp only [go_sem,b1,b2,b3,b4,b5,b6,b7,b8,b9,b10,b11,b12,b13,b14,b15,b16,b17,tL,tJ,h,e,jb]
def mu:aJ Tryz.prog 65 :=
 mk1 _ _ _ Tryz.func65 rfl (fun _ _=>by go_simp) (ao .i64) ((fun _=>True)) ((fun op=>.ret (cD op))) (by rw [Tryz.ntmps65];decide) (fun op _=>by
 by_cases hq:1≤op∧op≤17
 ·have e:cD op=bK (an op):=by unfold cD;rw [if_pos (by omega)]
  rw [e]
  have:op=1∨op=2∨op=3∨op=4∨op=5∨op=6∨op=7∨op=8∨op=9∨op=10∨op=11∨op=12∨op=13∨op=14∨op=15∨op=16∨op=17:=by omega
  rcases this with rfl | rfl | rfl | rfl | rfl | rfl | rfl | rfl | rfl | rfl | rfl | rfl | rfl | rfl | rfl | rfl | rfl
  ·exact G7
  ·exact EI
  ·exact Di
  ·exact FS
  ·exact Dm
  ·exact EM
  ·exact EJ
  ·exact DP
  ·exact Fu
  ·exact CV
  ·exact Cz
  ·exact A4
  ·exact Cm
  ·exact Bp
  ·exact BK
  ·exact Cb
  ·exact CP
 ·exact tQ op (by omega))
theorem mB {id:Nat} {h:am} {args:List AV}:(mu).run id h args=aY (au (ao .i64) ((fun _=>True))) ((fun op=>.ret (cD op))) h args:=rfl
theorem mj {id:Nat} {h:am} {args:List AV}:(mu).pan id h args=aZ (au (ao .i64) ((fun _=>True))) ((fun op=>.ret (cD op))) h args:=rfl
end Go.Proofs.YtpjlafmhoifkmaaGreat
