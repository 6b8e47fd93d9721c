import Derived.Test.YtnhbidpdadkcjaaGreatDoorJ50
import Derived.Test.YtnhbidpdadkcjaaGreatDoorJ43
set_option linter.unusedVariables false
set_option linter.unusedSimpArgs false
set_option maxRecDepth 100000
set_option maxHeartbeats 8000000
namespace Go.Proofs.YtnhbidpdadkcjaaGreatDoor
section
open Go.RowKit
theorem xu (p:ByteArray) {K:Nat}:∀ (r:List ByteArray) (x:ByteArray),(∀ y∈r,y.size≤K)→(r.foldl (fun a y=>a++p++y) x).size≤x.size+r.length*(K+p.size)
 | [],x,_=>by simp
 | y::r,x,h=>by
  have h1:=h y (by simp)
  have h2:=xu p r (x++p++y) fun z hz=>h z (by simp [hz])
  rw [List.foldl_cons,List.length_cons,Nat.add_mul]
  simp only [ByteArray.size_append] at h2
  omega
theorem mO {l:List ByteArray} {K:Nat} (h:∀ y∈l,y.size≤K):(kl l).size≤l.length*(K+2):=by
 cases l with
 | nil=>exact Nat.zero_le _
 | cons x r =>
  have h1:=h x (by simp)
  have h2:=xu gQ r x fun y hy=>h y (by simp [hy])
  have h3:gQ.size=2:=rfl
  rw [h3] at h2
  show (r.foldl _ x).size≤_
  rw [List.length_cons,Nat.add_mul]
  omega
theorem vw:∀ (r:List ByteArray) (x:ByteArray),(r.foldl (fun a y=>a++(⟨#[32]⟩:ByteArray)++y) x).data.toList=x.data.toList++Lib.joinTail [32] (r.map (·.data.toList))
 | [],x=>by simp [Lib.joinTail]
 | y::r,x=>by
  rw [List.foldl_cons,vw r]
  have e:(x++(⟨#[32]⟩:ByteArray)++y).data.toList=x.data.toList++([32]++y.data.toList):=by simp [ByteArray.data_append,Array.toList_append]
  rw [e,List.map_cons]
  simp [Lib.joinTail,List.append_assoc]
theorem If (l:List ByteArray):lC l (⟨#[32]⟩:ByteArray)=oh l:=by
 cases l with
 | nil=>rfl
 | cons x r =>
  apply ByteArray.ext
  rw [← Array.toList_inj]
  show _=(r.foldl (fun a y=>a++(⟨#[32]⟩:ByteArray)++y) x).data.toList
  rw [vw]
  show Lib.join ((x::r).map (·.data.toList)) [32]=_
  rw [← Lib.join_cons]
  rfl
def SR (l:List Val) (i:Nat):St:=⟨1,[(3,.s (.l (.sl 0 0 l.length))),(9,zW.enc l),(10,iv l.length),(11,iv i)],[(0,some ⟨true,9,1,lz (cJ l) i⟩)]⟩
theorem ws (l:List Val):(cJ l).length=l.length:=by unfold cJ;rw [List.length_map]
theorem JE (l:List Val) (hz:l.length≤1000000) (hO:∀ v∈l,gW v):SW Tryz.prog ⟨none,0⟩ Tryz.f92.ntmps (Tryz.f92.body.getD .skip) ⟨0,aC 0 [zW.enc l],[]⟩ (es Tryz.prog Tryz.f92.results.toList (.ret (.s (.l (.d (.sd 1 ((cJ l).map dQ.enc))))))):=by
 refine aa (ctx:=[]) 4000 ?_
 rw [Tryz.ntmps92,Tryz.results92]
 simp only [Tryz.f92,Option.getD_some,aC]
 have hm:maxLen=9223372036854775807:=rfl
 have hlen:=ws l
 simp only [go_sem,List.length_map,Int.toNat_natCast]
 refine ⟨by rw [hm];omega,?_⟩
 refine cW (ι:=Nat) (fun i=>i≤l.length) (SR l) (fun i=>l.length-i) 0 (Nat.zero_le _) (Wk.renL [48] (by simp) (Nat.le_add_left 1 _) (by simp) rfl (by simp [SR,hget,Blk.ren,xe,LV.ren,hlen])) ?_
 intro i hi
 unfold SR
 refine aa (ctx:=[⟨_,uI⟩]) 4000 ?_
 by_cases hlt:i<l.length
 ·have hltI:(i:Int)<l.length:=by omega
  have hlt2:i<(cJ l).length:=by omega
  obtain ⟨v,hv⟩:∃ v,l[i]? = some v:=⟨_,List.getElem?_eq_getElem hlt⟩
  have hok:=hO v (List.mem_of_getElem? hv)
  have ei:IntKind.i64.wrap ((i:Int)+1)=((i+1:Nat):Int):=by rw [IntKind.wrap_i64];omega
  have hx:(cJ l)[i]? = some (Ex.printF v).1:=by unfold cJ;rw [List.getElem?_map,hv];rfl
  have hset:=uo hx
  simp only [rA] at hset
  rcases hp:Ex.printF v with ⟨t,z⟩
  rw [hp] at hset
  simp only [go_sem,hltI,hlt,hv,v7,gJ,jh,jg,hok,hp,ii,ei,qY (Nat.le_of_lt hlt2),xd hlt2,hlen,hset]
  exact ⟨i+1,hlt,by omega,Wk.renL [0] (by simp) (Nat.le_add_left 1 _) (by simp) rfl (by simp [hget,Blk.ren,zi])⟩
 obtain rfl:i=l.length:=by omega
 have hI:¬(l.length:Int)<l.length:=by omega
 have hq:∀ h:ah,ez (ez (LV.toD h 3)) ((lz (cJ l) l.length).take l.length)=some (True,[],(cJ l).map dQ.enc):=fun h=>by
  rw [← hlen,zh,List.take_of_length_le (by simp)]
  exact im
 have hfl:(lz (cJ l) l.length).length=l.length:=by rw [qY (by omega)];exact hlen
 simp only [go_sem,hI]
 rw [hq]
 exact ⟨⟨by rw [hfl];exact Nat.le_refl _,trivial⟩,rfl⟩
def nS:bi Tryz.prog 92 :=
 mk1 _ _ _ Tryz.func92 rfl (fun _ _=>by go_simp) (zW) ((fun l=>l.length≤1000000∧∀ v∈l,gW v)) ((fun l=>.ret (.s (.l (.d (.sd 1 ((cJ l).map dQ.enc))))))) (by rw [Tryz.ntmps92];decide) (fun l h=>JE l h.1 h.2)
theorem nz {id:Nat} {h:ah} {args:List AV}:(nS).run id h args=bT (ba (zW) ((fun l=>l.length≤1000000∧∀ v∈l,gW v))) ((fun l=>.ret (.s (.l (.d (.sd 1 ((cJ l).map dQ.enc))))))) h args:=rfl
theorem ny {id:Nat} {h:ah} {args:List AV}:(nS).pan id h args=bU (ba (zW) ((fun l=>l.length≤1000000∧∀ v∈l,gW v))) ((fun l=>.ret (.s (.l (.d (.sd 1 ((cJ l).map dQ.enc))))))) h args:=rfl
structure ChkOk (s:StV):Prop where
 ok:vW s
 labels:s.labels.length≤8
 uses:rS s=true
 counts:bG s=true
 names:s.names.length≤64
 vals:s.vals.length≤64
 good:∀ v∈s.vals,(Ex.printF v).2=0
 opers:(gl s.opers).2=0
theorem Q4 {s:StV} (H:vW s) (h:e7 s=0):ChkOk s:=by
 unfold e7 at h
 split at h
 ·cases h
 rename_i c1
 split at h
 ·cases h
 rename_i c2
 split at h
 ·cases h
 rename_i c3
 split at h
 ·cases h
 split at h
 ·rename_i c5;exact absurd h c5
 rename_i c5
 simp only [Bool.not_eq_false,Bool.and_eq_true] at c1 c3
 refine ⟨H,by omega,c1.2,c3.1,by omega,by omega,Dx (Decidable.not_not.1 c5),?_⟩
 unfold sA at h
 split at h
 ·cases h
 ·exact h
theorem ChkOk.text {s:StV} (h:ChkOk s):∀ t∈cJ s.vals,t.size≤4000:=by
 intro t ht
 unfold cJ at ht
 obtain ⟨v,hv,rfl⟩:=List.mem_map.1 ht
 have h1:=P5 (h.good v hv) (h.ok.valT v hv)
 have h2:=vF v
 have h3:v.plus.size≤512:=by
  rcases h1.p with h | h
  ·rw [h];exact Nat.zero_le _
  ·exact Ex.symB_size h
 have h4:v.minus.size≤512:=by
  rcases h1.m with h | h
  ·rw [h];exact Nat.zero_le _
  ·exact Ex.symB_size h
 omega
def zzu5 (s:StV):PO:=.ret (.tup [.l (.v (.string (bK s).1)),.l (.v (.string (bK s).2))])
theorem Nm (s:StV) (H:ChkOk s):SW Tryz.prog ⟨none,0⟩ Tryz.f40.ntmps (Tryz.f40.body.getD .skip) ⟨0,aC 0 [lh.enc s],[]⟩ (es Tryz.prog Tryz.f40.results.toList (zzu5 s)):=by
 refine aa (ctx:=[⟨_,uX⟩,⟨_,tw⟩,⟨_,nS⟩,⟨_,Ly.quoteS⟩]) 4000 ?_
 rw [Tryz.ntmps40,Tryz.results40]
 simp only [Tryz.f40,Option.getD_some,aC]
 have hD:∀ l:List ByteArray,dT dQ.dec (l.map dQ.enc)=some l:=ac dQ
 simp only [dQ] at hD
 have hC:=H.counts
 have o1:=H.ok.opers
 have o2:=H.ok.operT
 have o3:=H.ok.names
 have o4:=H.ok.vals
 have o5:=H.ok.valT
 unfold bG at hC
 unfold zzu5
 by_cases k1:s.kind=1
 ·rcases hT:gl s.opers with ⟨t,z⟩
  have e:bK s=(s.name,t):=by unfold bK;rw [if_pos k1,hT]
  rw [e]
  simp only [go_sem,dt,bN,eq_true k1,uZ,uY,ac,o1,hT,nu]
  exact o2
 rw [if_neg k1] at hC
 by_cases k2:s.kind=2
 ·rw [if_pos k2] at hC
  obtain ⟨n,hn⟩:=List.length_eq_one_iff.1 (of_decide_eq_true hC)
  have g0:s.names[0]? = some n:=by rw [hn];rfl
  have g1:s.names.getD 0 emp=n:=by rw [hn];rfl
  have hl:(0:Nat)<s.names.length:=by rw [hn];exact Nat.one_pos
  have hlI:(0:Int)<s.names.length:=by omega
  by_cases t1:n=jX
  ·have e:bK s=(n,emp):=by unfold bK;rw [if_neg k1,if_pos k2,g1,if_pos (.inl t1)]
   rw [e]
   have t1':n=((⟨#[46,116,101,120,116]⟩:ByteArray)):=t1
   simp only [go_sem,dt,bN,k1,eq_true k2,List.length_map,hl,hlI,g0,eq_true t1',aR]
  have t1':¬n=((⟨#[46,116,101,120,116]⟩:ByteArray)):=t1
  by_cases t2:n=ke
  ·have e:bK s=(n,emp):=by unfold bK;rw [if_neg k1,if_pos k2,g1,if_pos (.inr t2)]
   rw [e]
   have t2':n=((⟨#[46,100,97,116,97]⟩:ByteArray)):=t2
   simp only [go_sem,dt,bN,k1,eq_true k2,List.length_map,hl,hlI,g0,t1',eq_true t2',aR]
  have t2':¬n=((⟨#[46,100,97,116,97]⟩:ByteArray)):=t2
  have e:bK s=(f7,n):=by unfold bK;rw [if_neg k1,if_pos k2,g1,if_neg (by rintro (h | h);exact t1 h;exact t2 h)]
  rw [e]
  simp only [go_sem,dt,bN,k1,eq_true k2,List.length_map,hl,hlI,g0,t1',t2']
  refine bI (ctx:=[]) mixed [] (by kernel_rfl) ?_
  simp only [go_sem,List.length_map,hl,hlI,g0,f7]
 rw [if_neg k2] at hC
 by_cases k3:s.kind=3
 ·have e:bK s=(jd,kl s.names):=by unfold bK;rw [if_neg k1,if_neg k2,if_pos k3]
  have hj:(lC s.names gQ).size≤140737488355328:=by
   rw [qs]
   have h1:=mO H.ok.nameT
   have h2:=H.names
   have:=Nat.mul_le_mul_right (1099511627776+2) h2
   omega
  have hj':lC s.names (⟨#[44,32]⟩:ByteArray)=kl s.names:=qs s.names
  have hj2:(lC s.names (⟨#[44,32]⟩:ByteArray)).size≤140737488355328:=hj
  rw [hj'] at hj2
  rw [e]
  simp only [go_sem,dt,bN,k1,k2,eq_true k3,mQ,mP,hD,o3,hj',hj2,jd]
 rw [if_neg k3] at hC
 by_cases k4:s.kind=4
 ·rw [if_pos k4] at hC
  obtain ⟨v,hv⟩:=List.length_eq_one_iff.1 (of_decide_eq_true hC)
  have g0:(cJ s.vals)[0]? = some (Ex.printF v).1:=by rw [hv];rfl
  have g1:(cJ s.vals).getD 0 emp=(Ex.printF v).1:=by rw [hv];rfl
  have hl:(0:Nat)<(cJ s.vals).length:=by rw [hv];exact Nat.one_pos
  have hlI:(0:Int)<(cJ s.vals).length:=by omega
  have e:bK s=(jG,(Ex.printF v).1):=by unfold bK;rw [if_neg k1,if_neg k2,if_neg k3,if_pos k4,g1]
  rw [e]
  simp only [go_sem,dt,bN,k1,k2,k3,eq_true k4]
  refine bI (ctx:=[⟨_,nS⟩]) mixed [] (by kernel_rfl) ?_
  simp only [go_sem,nz,ny,ac,o4,List.length_map,hl,hlI,g0,jG]
  exact o5
 rw [if_neg k4] at hC
 by_cases k5:s.kind=5
 ·rw [if_pos k5,Bool.and_eq_true] at hC
  have hj:(lC (cJ s.vals) gQ).size≤140737488355328:=by
   rw [qs]
   have h1:=mO H.text
   rw [ws] at h1
   have h2:=H.vals
   have:=Nat.mul_le_mul_right (4000+2) h2
   omega
  have hj':lC (cJ s.vals) (⟨#[44,32]⟩:ByteArray)=kl (cJ s.vals):=qs _
  have hj2:(lC (cJ s.vals) (⟨#[44,32]⟩:ByteArray)).size≤140737488355328:=hj
  rw [hj'] at hj2
  have o6:(cJ s.vals).length≤1000000:=by rw [ws];exact o4
  have ew:bK s=(if s.size=1 then pX else if s.size=4 then nA else rM,kl (cJ s.vals)):=by unfold bK;rw [if_neg k1,if_neg k2,if_neg k3,if_neg k4,if_pos k5]
  rcases of_decide_eq_true hC.2 with z | z | z
  ·have e:bK s=(pX,kl (cJ s.vals)):=by rw [ew,if_pos z]
   rw [e]
   simp only [go_sem,dt,bN,k1,k2,k3,k4,eq_true k5,z]
   refine bI (ctx:=[⟨_,nS⟩,⟨_,tw⟩]) mixed [] (by kernel_rfl) ?_
   simp only [go_sem,nz,ny,ac,o4,hD,mQ,mP,o6,hj',hj2,pX]
   exact o5
  ·have e:bK s=(nA,kl (cJ s.vals)):=by rw [ew,if_neg (by omega),if_pos z]
   rw [e]
   simp only [go_sem,dt,bN,k1,k2,k3,k4,eq_true k5,z]
   refine bI (ctx:=[⟨_,nS⟩,⟨_,tw⟩]) mixed [] (by kernel_rfl) ?_
   simp only [go_sem,nz,ny,ac,o4,hD,mQ,mP,o6,hj',hj2,nA]
   exact o5
  ·have e:bK s=(rM,kl (cJ s.vals)):=by rw [ew,if_neg (by omega),if_neg (by omega)]
   rw [e]
   simp only [go_sem,dt,bN,k1,k2,k3,k4,eq_true k5,z]
   refine bI (ctx:=[⟨_,nS⟩,⟨_,tw⟩]) mixed [] (by kernel_rfl) ?_
   simp only [go_sem,nz,ny,ac,o4,hD,mQ,mP,o6,hj',hj2,rM]
   exact o5
 rw [if_neg k5] at hC
 by_cases k6:s.kind=6
 ·have e:bK s=(nE,uK s.bytes):=by unfold bK;rw [if_neg k1,if_neg k2,if_neg k3,if_neg k4,if_neg k5,if_pos k6]
  have hb:ab (bu s.bytes)=s.bytes:=cN H.ok.bytes
  have hz:(bu s.bytes).size≤1000000:=by rw [← aW,hb];exact H.ok.byteT
  rw [e]
  simp only [go_sem,dt,bN,k1,k2,k3,k4,k5,eq_true k6,dZ,Ly.quote_run,Ly.quote_pan,hz,hb,nE,uK]
 by_cases k7:s.kind=7
 ·rw [if_pos k7,Bool.and_eq_true] at hC
  obtain ⟨n,hn⟩:=List.length_eq_one_iff.1 (of_decide_eq_true hC.1)
  obtain ⟨v,hv⟩:=List.length_eq_one_iff.1 (of_decide_eq_true hC.2)
  have n0:s.names[0]? = some n:=by rw [hn];rfl
  have n1:s.names.getD 0 emp=n:=by rw [hn];rfl
  have hm:(0:Nat)<s.names.length:=by rw [hn];exact Nat.one_pos
  have hmI:(0:Int)<s.names.length:=by omega
  have g0:(cJ s.vals)[0]? = some (Ex.printF v).1:=by rw [hv];rfl
  have g1:(cJ s.vals).getD 0 emp=(Ex.printF v).1:=by rw [hv];rfl
  have hl:(0:Nat)<(cJ s.vals).length:=by rw [hv];exact Nat.one_pos
  have hlI:(0:Int)<(cJ s.vals).length:=by omega
  have e:bK s=(xb,n++gQ++(Ex.printF v).1):=by unfold bK;rw [if_neg k1,if_neg k2,if_neg k3,if_neg k4,if_neg k5,if_neg k6,if_pos k7,n1,g1]
  rw [e]
  simp only [go_sem,dt,bN,k1,k2,k3,k4,k5,k6,eq_true k7]
  refine bI (ctx:=[⟨_,nS⟩]) mixed [] (by kernel_rfl) ?_
  simp only [go_sem,nz,ny,ac,o4,List.length_map,hl,hlI,g0,hm,hmI,n0,xb,gQ]
  have x1:=H.ok.nameT n (by rw [hn];simp)
  have x2:=H.text (Ex.printF v).1 (by rw [hv];simp [cJ])
  have x3:maxLen=9223372036854775807:=rfl
  exact ⟨by omega,o5,by omega⟩
 have e:bK s=(emp,emp):=by unfold bK;rw [if_neg k1,if_neg k2,if_neg k3,if_neg k4,if_neg k5,if_neg k6,if_neg k7]
 rw [e]
 simp only [go_sem,dt,bN,k1,k2,k3,k4,k5,k6,k7,aR]
def FS:bi Tryz.prog 40 :=
 mk1 _ _ _ Tryz.func40 rfl (fun _ _=>by go_simp) (lh) (ChkOk) ((fun s=>zzu5 s)) (by rw [Tryz.ntmps40];decide) (fun s h=>Nm s h)
theorem Aa {id:Nat} {h:ah} {args:List AV}:(FS).run id h args=bT (ba (lh) (ChkOk)) ((fun s=>zzu5 s)) h args:=rfl
theorem JH {id:Nat} {h:ah} {args:List AV}:(FS).pan id h args=bU (ba (lh) (ChkOk)) ((fun s=>zzu5 s)) h args:=rfl
end
section
open Go.RowKit
def C0 (r:ByteArray×Int):AV:=.tup [.l (.v (.string r.1)),.l (.v (.int .i64 r.2))]
def oj (s:StV):List ByteArray:=s.labels.map fun n=>n++gy
def d5 (s:StV) (i:Nat):List ByteArray:=oj s++(([(bK s).1,(bK s).2].take i).filter fun w=>!decide (w=emp))
def TO (s:StV) (i:Nat):St:=⟨2,[(1,pv 0 0 0),(5,.s (.l (.sl 1 0 i))),(19,jm.enc s.labels),(20,iv s.labels.length),(21,iv i)],bB 0 [eE s,stK ((oj s).take i)]⟩
def Pv (s:StV) (i:Nat):St:=⟨2,[(5,.s (.l (.sl 1 0 (d5 s i).length))),(38,.s (.agg [.v (.string (bK s).1),.v (.string (bK s).2)])),(39,iv i)],bB 0 [eE s,stK (d5 s i)]⟩
theorem Ew (l:List ByteArray):(oh l).size≤(l.map fun x=>x.size+1).sum:=by
 have key:∀ (r:List ByteArray) (x:ByteArray),(r.foldl (fun a y=>a++(⟨#[32]⟩:ByteArray)++y) x).size=x.size+(r.map fun x=>x.size+1).sum:=by
  intro r
  induction r with
  | nil=>intro x;simp
  | cons y r ih =>
   intro x
   rw [List.foldl_cons,ih,List.map_cons,List.sum_cons]
   simp only [ByteArray.size_append]
   have:(⟨#[32]⟩:ByteArray).size=1:=rfl
   omega
 cases l with
 | nil=>exact Nat.zero_le _
 | cons x r =>
  show (r.foldl _ x).size≤_
  rw [key,List.map_cons,List.sum_cons]
  omega
theorem MZ {K:Nat}:∀ {l:List ByteArray},(∀ y∈l,y.size≤K)→(l.map fun x=>x.size+1).sum≤l.length*(K+1)
 | [],_=>by simp
 | y::r,h=>by
  have h1:=h y (by simp)
  have h2:=MZ (l:=r) fun z hz=>h z (by simp [hz])
  rw [List.map_cons,List.sum_cons,List.length_cons,Nat.add_mul]
  omega
theorem yq (p:ByteArray→Bool):∀ l:List ByteArray,((l.filter p).map fun x=>x.size+1).sum≤(l.map fun x=>x.size+1).sum
 | []=>by simp
 | y::r=>by
  have h:=yq p r
  rw [List.filter_cons]
  split
  ·simp only [List.map_cons,List.sum_cons];omega
  ·simp only [List.map_cons,List.sum_cons];omega
theorem ChkOk.wordsz {s:StV} (h:ChkOk s):(bK s).1.size≤1099511627776∧(bK s).2.size≤72567767433216:=by
 have hC:=h.counts
 unfold bG at hC
 have e0:emp.size=0:=rfl
 unfold bK
 by_cases k1:s.kind=1
 ·rw [if_pos k1]
  refine ⟨h.ok.name,?_⟩
  obtain ⟨e,hO,-,h8⟩:=Jy (s:=(gl s.opers).1) h.ok.operT (by rw [← h.opers])
  have h2:=mO (l:=s.opers.map cD) (K:=2199023255800) (by
   intro y hy
   obtain ⟨o,ho,rfl⟩:=List.mem_map.1 hy
   exact sI (h.ok.operT o ho))
  rw [List.length_map] at h2
  have:=Nat.mul_le_mul_right (2199023255800+2) h8
  rw [e]
  show (kl _).size≤_
  omega
 rw [if_neg k1] at hC ⊢
 by_cases k2:s.kind=2
 ·rw [if_pos k2] at hC ⊢
  obtain ⟨n,hn⟩:=List.length_eq_one_iff.1 (of_decide_eq_true hC)
  have g1:s.names.getD 0 emp=n:=by rw [hn];rfl
  have:=h.ok.nameT n (by rw [hn];simp)
  rw [g1]
  split
  ·exact ⟨this,by show (0:Nat)≤_;omega⟩
  ·exact ⟨by show (8:Nat)≤_;omega,by show n.size≤_;omega⟩
 rw [if_neg k2] at hC ⊢
 by_cases k3:s.kind=3
 ·rw [if_pos k3]
  have h1:=mO h.ok.nameT
  have h2:=h.names
  have:=Nat.mul_le_mul_right (1099511627776+2) h2
  exact ⟨by show (7:Nat)≤_;omega,by show (kl s.names).size≤_;omega⟩
 rw [if_neg k3] at hC ⊢
 have hget:((cJ s.vals).getD 0 emp).size≤4000:=by
  cases hv:cJ s.vals with
  | nil=>exact Nat.zero_le _
  | cons t r=>exact h.text t (by rw [hv];simp)
 by_cases k4:s.kind=4
 ·rw [if_pos k4]
  exact ⟨by show (6:Nat)≤_;omega,by show ((cJ s.vals).getD 0 emp).size≤_;omega⟩
 rw [if_neg k4] at hC ⊢
 by_cases k5:s.kind=5
 ·rw [if_pos k5]
  have h1:=mO h.text
  rw [ws] at h1
  have h2:=h.vals
  have:=Nat.mul_le_mul_right (4000+2) h2
  refine ⟨?_,by show (kl (cJ s.vals)).size≤_;omega⟩
  split
  ·show (5:Nat)≤_;omega
  split
  ·show (5:Nat)≤_;omega
  ·show (5:Nat)≤_;omega
 rw [if_neg k5] at hC ⊢
 by_cases k6:s.kind=6
 ·rw [if_pos k6]
  have h1:=Ly.quoteB_len s.bytes
  have h2:=h.ok.byteT
  refine ⟨by show (6:Nat)≤_;omega,?_⟩
  show (uK s.bytes).size≤_
  have e:(uK s.bytes).size=(sD s.bytes).length:=by unfold uK bu;simp [ByteArray.size]
  rw [e]
  unfold sD
  simp only [List.length_cons,List.length_append,List.length_nil]
  omega
 rw [if_neg k6]
 by_cases k7:s.kind=7
 ·rw [if_pos k7]
  refine ⟨by show (4:Nat)≤_;omega,?_⟩
  show (s.names.getD 0 emp++gQ++(cJ s.vals).getD 0 emp).size≤_
  have h2:(s.names.getD 0 emp).size≤1099511627776:=by
   cases hn:s.names with
   | nil=>exact Nat.zero_le _
   | cons n r=>exact h.ok.nameT n (by rw [hn];simp)
  have h3:gQ.size=2:=rfl
  simp only [ByteArray.size_append]
  omega
 ·rw [if_neg k7]
  exact ⟨by show (0:Nat)≤_;omega,by show (0:Nat)≤_;omega⟩
theorem zV (l:List ByteArray):l.map nr=(l.map fun s=>[D.v (.string s)]).map cG:=by rw [List.map_map];rfl
theorem zzu3 {a b c d:Option Blk} (h1:a=b) (h2:c=d):[a,c]=[b,d]:=by rw [h1,h2]
theorem Jl (s:StV) (H:vW s):SW Tryz.prog ⟨none,0⟩ Tryz.f18.ntmps (Tryz.f18.body.getD .skip) ⟨0,aC 0 [lh.enc s],[]⟩ (es Tryz.prog Tryz.f18.results.toList (.ret (C0 (nh s)))):=by
 refine aa (ctx:=[⟨_,MV⟩,⟨_,FS⟩,⟨_,tw⟩]) 4000 ?_
 rw [Tryz.ntmps18,Tryz.results18]
 simp only [Tryz.f18,Option.getD_some,aC]
 have hSt:=Bq.back s
 simp only [dt,bN,dQ,gj] at hSt
 by_cases hc:e7 s=0
 case neg =>
  have e:nh s=(emp,e7 s):=by unfold nh;rw [if_pos hc]
  rw [e]
  simp only [go_sem,dt,bN,Dh,Dg,hSt,H,hc,C0,aR]
 have HC:=Q4 H hc
 have x3:maxLen=9223372036854775807:=rfl
 have hlz:=H.labels
 simp only [go_sem,dt,bN,Dh,Dg,hSt,H,hc]
 refine cW (ι:=Nat) (fun i=>i≤s.labels.length) (TO s) (fun i=>s.labels.length-i) 0 (Nat.zero_le _) ?_ ?_
 ·exact (Wk.nil 5 9 1 rfl).trans (Wk.renL [0,208] (by simp) (Nat.le_add_left _ _) (by simp) rfl rfl)
 intro i hi
 unfold TO
 refine aa (ctx:=[]) 4000 ?_
 by_cases hlt:i<s.labels.length
 ·have hltI:(i:Int)<s.labels.length:=by omega
  obtain ⟨n,hn⟩:∃ n,s.labels[i]? = some n:=⟨_,List.getElem?_eq_getElem hlt⟩
  have hnz:=H.labelT n (List.mem_of_getElem? hn)
  have ei:IntKind.i64.wrap ((i:Int)+1)=((i+1:Nat):Int):=by rw [IntKind.wrap_i64];omega
  have hT:(oj s).take (i+1)=(oj s).take i++[n++gy]:=by rw [List.take_add_one];unfold oj;rw [List.getElem?_map,hn];rfl
  have hlen:((oj s).take i).length=i:=by simp [oj];omega
  obtain ⟨T,hTT⟩:∃ T,(oj s).take i=T:=⟨_,rfl⟩
  rw [hTT] at hT hlen
  have hK:List.take i (T.map nr)=T.map nr:=List.take_of_length_le (by simp [hlen])
  have hK2:T.map nr++[[LV.v (.string (n++(⟨#[58]⟩:ByteArray)))]]=(T++[n++gy]).map nr:=oW _ _
  have m1:i+1≤maxLen:=by have:=H.labels;omega
  have m2:(i+1)*16≤140737488355328:=by have:=H.labels;omega
  simp only [go_sem,hltI,hlt,hn,eE,hTT,stK,List.length_map,hK,hK2,hlen,m1,m2,ei]
  exact ⟨by omega,i+1,hlt,by omega,Wk.renL [0,130] (by simp) (Nat.le_add_left 2 _) (by simp) rfl (by rw [hT];exact zzu3 rfl (congrArg some (ee _ _).symm))⟩
 obtain rfl:i=s.labels.length:=by omega
 have hI:¬(s.labels.length:Int)<s.labels.length:=by omega
 have hl8:=HC.labels
 have hlab:(oj s).take s.labels.length=oj s:=List.take_of_length_le (by simp [oj])
 have hp0:d5 s 0=oj s:=by unfold d5;simp
 have hn0:(d5 s 0).length=s.labels.length:=by rw [hp0];simp [oj]
 rw [hlab]
 simp only [go_sem,hI,eE,Aa,JH,hSt,bN,HC,zzu5]
 refine cW (ι:=Nat) (fun i=>i≤2) (Pv s) (fun i=>2-i) 0 (Nat.zero_le _) ?_ ?_
 ·exact Wk.renL [0,1] (by simp) (Nat.le_add_left 2 _) (by simp) (by simp only [Pv,hn0];rfl) (by simp only [Pv,hp0];exact zzu3 rfl (congrArg some (ee _ _).symm))
 intro i hi
 unfold Pv
 refine aa (ctx:=[⟨_,tw⟩]) 4000 ?_
 have fin:∀ (j:Nat) (w:ByteArray),j<2→[(bK s).1,(bK s).2][j]? = some w→d5 s (j+1)=if w=emp then d5 s j else d5 s j++[w]:=by
  intro j w hj hw
  unfold d5
  rw [List.take_add_one,hw,List.filter_append,← List.append_assoc]
  by_cases h:w=emp
  ·rw [if_pos h];simp [h]
  ·rw [if_neg h];simp [h]
 have step:∀ (j:Nat),j<2→(d5 s j).length+1≤maxLen∧((d5 s j).length+1)*16≤140737488355328:=by
  intro j hj
  have h1:(d5 s j).length≤10:=by
   unfold d5
   rw [List.length_append]
   have h2:(oj s).length≤8:=by simp [oj];exact hl8
   have h3:=List.length_filter_le (fun w=>!decide (w=emp)) ([(bK s).1,(bK s).2].take j)
   have h4:([(bK s).1,(bK s).2].take j).length≤2:=by rw [List.length_take];exact Nat.min_le_right _ _
   omega
  omega
 have hK:∀ j,List.take (d5 s j).length ((d5 s j).map nr)=(d5 s j).map nr:=fun j=>List.take_of_length_le (by simp)
 have hi3:i=0∨i=1∨i=2:=by omega
 rcases hi3 with rfl | rfl | rfl
 ·obtain ⟨s1,s2⟩:=step 0 (by decide)
  have hf:=fin 0 (bK s).1 (by decide) rfl
  by_cases hw:(bK s).1=emp
  ·rw [if_pos hw] at hf
   simp only [go_sem,aR,eq_true hw]
   exact ⟨1,by decide,by decide,Wk.renL [0,1] (by simp) (Nat.le_add_left 2 _) (by simp) (by rw [hf];rfl) (by rw [hf];exact zzu3 rfl (congrArg some (ee _ _).symm))⟩
  ·rw [if_neg hw] at hf
   have hK2:(d5 s 0).map nr++[[LV.v (.string (bK s).1)]]=(d5 s 0++[(bK s).1]).map nr:=oW _ _
   have hl:(d5 s 1).length=(d5 s 0).length+1:=by rw [hf];simp
   simp only [go_sem,aR,hw,stK,List.length_map,hK,hK2,s1,s2]
   exact ⟨1,by decide,by decide,Wk.renL [0,130] (by simp) (Nat.le_add_left 2 _) (by simp) (by simp only [hl];rfl) (by rw [hf];exact zzu3 rfl (congrArg some (ee _ _).symm))⟩
 ·obtain ⟨s1,s2⟩:=step 1 (by decide)
  have hf:=fin 1 (bK s).2 (by decide) rfl
  by_cases hw:(bK s).2=emp
  ·rw [if_pos hw] at hf
   simp only [go_sem,aR,eq_true hw]
   exact ⟨2,by decide,by decide,Wk.renL [0,1] (by simp) (Nat.le_add_left 2 _) (by simp) (by rw [hf];rfl) (by rw [hf];exact zzu3 rfl (congrArg some (ee _ _).symm))⟩
  ·rw [if_neg hw] at hf
   have hK2:(d5 s 1).map nr++[[LV.v (.string (bK s).2)]]=(d5 s 1++[(bK s).2]).map nr:=oW _ _
   have hl:(d5 s 2).length=(d5 s 1).length+1:=by rw [hf];simp
   simp only [go_sem,aR,hw,stK,List.length_map,hK,hK2,s1,s2]
   exact ⟨2,by decide,by decide,Wk.renL [0,130] (by simp) (Nat.le_add_left 2 _) (by simp) (by simp only [hl];rfl) (by rw [hf];exact zzu3 rfl (congrArg some (ee _ _).symm))⟩
 ·have hl:Gn s=oh (d5 s 2):=rfl
  have hj:lC (d5 s 2) (⟨#[32]⟩:ByteArray)=oh (d5 s 2):=If _
  have hlen:(d5 s 2).length≤10:=by
   unfold d5
   rw [List.length_append]
   have h2:(oj s).length≤8:=by simp [oj];exact hl8
   have h3:=List.length_filter_le (fun w=>!decide (w=emp)) ([(bK s).1,(bK s).2].take 2)
   have h4:([(bK s).1,(bK s).2].take 2).length=2:=rfl
   omega
  have hsz:(oh (d5 s 2)).size≤140737488355328:=by
   have h1:=Ew (d5 s 2)
   have hws:=HC.wordsz
   unfold d5 at h1
   rw [List.map_append,List.sum_append] at h1
   have h2:=MZ (l:=oj s) (K:=1099511627777) (by
    intro y hy
    unfold oj at hy
    obtain ⟨n,hn,rfl⟩:=List.mem_map.1 hy
    have:=H.labelT n hn
    rw [ByteArray.size_append]
    have:gy.size=1:=rfl
    omega)
   have h3:(oj s).length≤8:=by simp [oj];exact hl8
   have h4:=Nat.mul_le_mul_right (1099511627777+1) h3
   have h5:=yq (fun w=>!decide (w=emp)) ([(bK s).1,(bK s).2].take 2)
   have h6:(([(bK s).1,(bK s).2].take 2).map fun x=>x.size+1).sum=((bK s).1.size+1)+((bK s).2.size+1+0):=rfl
   unfold d5
   omega
  have hL6:(d5 s 2).length≤1000000:=by omega
  have hD:∀ l:List ByteArray,dT dQ.dec (l.map dQ.enc)=some l:=ac dQ
  simp only [dQ] at hD
  by_cases h5:512<(oh (d5 s 2)).size
  ·have e:nh s=(emp,3):=by unfold nh;rw [if_neg (by rw [hc];simp),hl,if_pos h5]
   have h5I:(512:Int)<(oh (d5 s 2)).size:=by omega
   rw [e]
   simp only [go_sem,stK,List.length_map,hK,zV,hD,mQ,mP,hj,hL6,hsz,eq_true h5I,C0,aR]
  ·have e:nh s=(oh (d5 s 2),0):=by unfold nh;rw [if_neg (by rw [hc];simp),hl,if_neg h5]
   have h5I:¬(512:Int)<(oh (d5 s 2)).size:=by omega
   rw [e]
   simp only [go_sem,stK,List.length_map,hK,zV,hD,mQ,mP,hj,hL6,hsz,h5I,C0,aR]
def Bp:bi Tryz.prog 18 :=
 mk1 _ _ _ Tryz.func18 rfl (fun _ _=>by go_simp) (lh) (vW) ((fun s=>.ret (C0 (nh s)))) (by rw [Tryz.ntmps18];decide) (fun s h=>Jl s h)
theorem FE {id:Nat} {h:ah} {args:List AV}:(Bp).run id h args=bT (ba (lh) (vW)) ((fun s=>.ret (C0 (nh s)))) h args:=rfl
theorem FD {id:Nat} {h:ah} {args:List AV}:(Bp).pan id h args=bU (ba (lh) (vW)) ((fun s=>.ret (C0 (nh s)))) h args:=rfl
end
end Go.Proofs.YtnhbidpdadkcjaaGreatDoor
