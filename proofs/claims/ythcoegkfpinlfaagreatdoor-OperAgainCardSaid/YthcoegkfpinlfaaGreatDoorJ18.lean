import Derived.Test.YthcoegkfpinlfaaGreatDoorJ17
set_option linter.unusedVariables false
set_option linter.unusedSimpArgs false
set_option maxRecDepth 100000
set_option maxHeartbeats 8000000
namespace Go.Proofs.YthcoegkfpinlfaaGreatDoor
open Go.RowKit
def tPI:Ty Int where
 dec:=fun | .s (.l (.d (.pd [.v (.int .i64 z)])))=>some z | _=>none
 enc:=fun z=>.s (.l (.d (.pd [.v (.int .i64 z)])))
 ok:=by
  intro A x h ρ al v hr
  split at h
  ·injection h with h;subst h;exact hr
  ·cases h
theorem M1 (i:Nat) (hi:i≤62) (x:Int) (h0:0≤x) (h1:x<4611686018427387904):bits .and .i64 x (2 ^ i-1)=x % 2 ^ i :=
 bits_mask .i64 62 (by decide) (fun n h0 h1=>by rw [IntKind.wrap_i64];omega) i hi x h0 h1
theorem Il (n:Int) (h0:0≤n) (h1:n<32768) (lo wd:Nat) (hl:lo≤62) (hw:wd≤10):bits .and .i64 (n.fdiv (2 ^ min lo 64)) (IntKind.i64.wrap (IntKind.i64.wrap (1*2 ^ min wd 64)-1))=n / 2 ^ lo % 2 ^ wd:=by
 have hp:(0:Int)<2 ^ lo:=Int.pow_pos (by decide)
 have hq:(1:Int)≤2 ^ wd:=Int.pow_pos (by decide)
 have hq2:(2:Int) ^ wd≤1024:=by
  have h2:((2 ^ wd:Nat):Int)≤((1024:Nat):Int):=Int.ofNat_le.2 (Nat.pow_le_pow_right (n:=2) (by decide) hw)
  rw [Int.natCast_pow] at h2
  exact h2
 have e1:min lo 64=lo:=by omega
 have e2:min wd 64=wd:=by omega
 have e3:IntKind.i64.wrap (1*2 ^ wd)=2 ^ wd:=by rw [IntKind.wrap_i64];omega
 have e4:IntKind.i64.wrap (2 ^ wd-1)=2 ^ wd-1:=by rw [IntKind.wrap_i64];omega
 rw [e1,e2,e3,e4,Int.fdiv_eq_ediv_of_nonneg _ (Int.le_of_lt hp)]
 have h2:0≤n / 2 ^ lo:=Int.ediv_nonneg h0 (Int.le_of_lt hp)
 have h3:n / 2 ^ lo≤n:=Int.ediv_le_self _ h0
 exact M1 wd (by omega) _ h2 (by omega)
theorem oE (n:Int) (lo wd:Nat) (hw:wd≤4):0≤n / 2 ^ lo % 2 ^ wd∧n / 2 ^ lo % 2 ^ wd<16:=by
 have hq:(0:Int)<2 ^ wd:=Int.pow_pos (by decide)
 have hq2:(2:Int) ^ wd≤16:=by
  have h2:((2 ^ wd:Nat):Int)≤((16:Nat):Int):=Int.ofNat_le.2 (Nat.pow_le_pow_right (n:=2) (by decide) hw)
  rw [Int.natCast_pow] at h2
  exact h2
 have:=Int.emod_nonneg (n / 2 ^ lo) (Int.ne_of_gt hq)
 have:=Int.emod_lt_of_pos (n / 2 ^ lo) hq
 omega
def pH (low width n:Int):Prop:=(0≤n∧n<32768)∧(low=11∧width=3∨low=7∧width=4∨low=3∧width=4∨low=0∧width=3)
theorem N8 (low width n:Int) (h:pH low width n) :
  SW Tryz.prog ⟨none,0⟩ Tryz.f124.ntmps (Tryz.f124.body.getD .skip) ⟨0,aw 0 [(bA .i64).enc low,(bA .i64).enc width,tPI.enc n],[]⟩ (eK Tryz.prog Tryz.f124.results.toList (.ret (sv (nq n low.toNat width.toNat)))):=by
 obtain ⟨⟨h0,h1⟩,h⟩:=h
 refine ab (ctx:=[⟨_,su⟩]) 4000 ?_
 rw [Tryz.ntmps124,Tryz.results124]
 simp only [Tryz.f124,Option.getD_some,aw]
 have hb:=Il n h0 h1
 rcases h with ⟨rfl,rfl⟩ | ⟨rfl,rfl⟩ | ⟨rfl,rfl⟩ | ⟨rfl,rfl⟩
 ·have hr:=oE n 11 3 (by decide)
  simp only [go_sem,tPI]
  refine cr (ctx:=[⟨_,su⟩]) mixed [] (by kernel_rfl) ?_
  simp only [go_sem,tPI,nL,nK]
  rw [hb 11 3 (by decide) (by decide)]
  exact ⟨by omega,rfl⟩
 ·have hr:=oE n 7 4 (by decide)
  simp only [go_sem,tPI]
  refine cr (ctx:=[⟨_,su⟩]) mixed [] (by kernel_rfl) ?_
  simp only [go_sem,tPI,nL,nK]
  rw [hb 7 4 (by decide) (by decide)]
  exact ⟨by omega,rfl⟩
 ·have hr:=oE n 3 4 (by decide)
  simp only [go_sem,tPI]
  refine cr (ctx:=[⟨_,su⟩]) mixed [] (by kernel_rfl) ?_
  simp only [go_sem,tPI,nL,nK]
  rw [hb 3 4 (by decide) (by decide)]
  exact ⟨by omega,rfl⟩
 ·have hr:=oE n 0 3 (by decide)
  simp only [go_sem,tPI]
  refine cr (ctx:=[⟨_,su⟩]) mixed [] (by kernel_rfl) ?_
  simp only [go_sem,tPI,nL,nK]
  rw [hb 0 3 (by decide) (by decide)]
  exact ⟨by omega,rfl⟩
def K2:bq Tryz.prog 124 :=
 mk3 _ _ _ Tryz.func124 rfl (fun _ _=>by go_simp) (bA .i64) (bA .i64) (tPI) ((fun l w n=>pH l w n)) ((fun l w n=>.ret (sv (nq n l.toNat w.toNat)))) (by rw [Tryz.ntmps124];decide) (fun l w n h=>N8 l w n h)
theorem K4 {id:Nat} {h:ag} {args:List AV}:(K2).run id h args=bV (xC (bA .i64) (bA .i64) (tPI) ((fun l w n=>pH l w n))) (fun x=>((fun l w n=>.ret (sv (nq n l.toNat w.toNat)))) x.1 x.2.1 x.2.2) h args:=rfl
theorem K3 {id:Nat} {h:ag} {args:List AV}:(K2).pan id h args=ca (xC (bA .i64) (bA .i64) (tPI) ((fun l w n=>pH l w n))) (fun x=>((fun l w n=>.ret (sv (nq n l.toNat w.toNat)))) x.1 x.2.1 x.2.2) h args:=rfl
theorem Fa (n:Int) (h:0≤n∧n<32768):SW Tryz.prog ⟨none,0⟩ Tryz.f67.ntmps (Tryz.f67.body.getD .skip) ⟨0,aw 0 [(bA .i64).enc n],[]⟩ (eK Tryz.prog Tryz.f67.results.toList (.ret (sv (cW n)))):=by
 obtain ⟨h0,h1⟩:=h
 refine ab (ctx:=[⟨_,su⟩,⟨_,K2⟩]) 4000 ?_
 rw [Tryz.ntmps67,Tryz.results67]
 simp only [Tryz.f67,Option.getD_some,aw]
 have e1:n.fdiv (2 ^ min 14 64)=n / 16384:=by
  rw [show min (14:Nat) 64=14 from rfl,Int.fdiv_eq_ediv_of_nonneg _ (by decide)]
  rfl
 have e2:IntKind.i64.wrap (n / 16384+2)=n / 16384+2:=by rw [IntKind.wrap_i64];omega
 have q1:pH 11 3 n:=⟨⟨h0,h1⟩,by omega⟩
 have q2:pH 7 4 n:=⟨⟨h0,h1⟩,by omega⟩
 have q3:pH 3 4 n:=⟨⟨h0,h1⟩,by omega⟩
 have q4:pH 0 3 n:=⟨⟨h0,h1⟩,by omega⟩
 have sz:=rj
 have z1:=sz (n / 16384+2)
 have z2:(nq n 11 3).size≤3:=sz _
 have z3:(nq n 7 4).size≤3:=sz _
 have z4:(nq n 3 4).size≤3:=sz _
 have z5:(nq n 0 3).size≤3:=sz _
 have hm:maxLen=9223372036854775807:=rfl
 have c1:(⟨#[115]⟩:ByteArray).size=1:=rfl
 have c2:(⟨#[95]⟩:ByteArray).size=1:=rfl
 have c3:(⟨#[95,99]⟩:ByteArray).size=2:=rfl
 have er:cW n=⟨#[115]⟩++dK (n / 16384+2)++⟨#[95]⟩++nq n 11 3++⟨#[95,99]⟩++nq n 7 4++⟨#[95,99]⟩++nq n 3 4++⟨#[95]⟩++nq n 0 3:=by
  unfold cW nq
  rw [show n / 2 ^ 0 % 2 ^ 3=n % 8 by omega]
  rfl
 simp only [go_sem,nL,nK,K4,K3,tPI,e1,e2,q1,q2,q3,q4,er,ByteArray.size_append,c1,c2,c3,hm]
 omega
def sq:bq Tryz.prog 67 :=
 mk1 _ _ _ Tryz.func67 rfl (fun _ _=>by go_simp) (bA .i64) ((fun n=>0≤n∧n<32768)) ((fun n=>.ret (sv (cW n)))) (by rw [Tryz.ntmps67];decide) (fun n h=>Fa n h)
theorem CK {id:Nat} {h:ag} {args:List AV}:(sq).run id h args=bV (aI (bA .i64) ((fun n=>0≤n∧n<32768))) ((fun n=>.ret (sv (cW n)))) h args:=rfl
theorem CJ {id:Nat} {h:ag} {args:List AV}:(sq).pan id h args=ca (aI (bA .i64) ((fun n=>0≤n∧n<32768))) ((fun n=>.ret (sv (cW n)))) h args:=rfl
theorem NN (k n:Int):SW Tryz.prog ⟨none,0⟩ Tryz.f30.ntmps (Tryz.f30.body.getD .skip) ⟨0,aw 0 [(bA .i64).enc k,(bA .i64).enc n],[]⟩ (eK Tryz.prog Tryz.f30.results.toList (.ret (eW (ay k n)))):=by
 refine ab (ctx:=[⟨_,wv⟩,⟨_,lY⟩,⟨_,Ak⟩,⟨_,sq⟩]) 4000 ?_
 rw [Tryz.ntmps30,Tryz.results30]
 simp only [Tryz.f30,Option.getD_some,aw]
 by_cases hk:k=1
 ·subst hk
  by_cases h1:n<0
  ·simp only [go_sem,h1,eW,ay,ax]
  by_cases h2:128≤n
  ·simp only [go_sem,h1,h2,eW,ay,ax]
  have h3:0≤n∧n<128:=by omega
  simp only [go_sem,h1,h2,h3,eW,ay,ax,td,ta,kS,kR,EK,gk]
 ·have loop:∀ (l:List (ByteArray×Int)) (Q:Exit→St→Prop) (c:Code) (s0:St),gK k=l→l.length≤100→Wk ⟨none,0⟩ s0 ⟨0,[(0,iv k),(1,iv n),(22,fV l),(23,iv l.length),(24,iv 0)],[]⟩→(∀ i,i≤l.length→(∀ (j:Nat) (r:ByteArray×Int),j<i→l[j]? = some r→¬r.2=n)→SW Tryz.prog ⟨none,0⟩ 47 c ⟨0,[(0,iv k),(1,iv n),(22,fV l),(23,iv l.length),(24,iv i)],[]⟩ (tg ⟨none,0⟩ (fun i=>i≤l.length∧∀ (j:Nat) (r:ByteArray×Int),j<i→l[j]? = some r→¬r.2=n) (fun (i:Nat)=>(⟨0,[(0,iv k),(1,iv n),(22,fV l),(23,iv l.length),(24,iv i)],[]⟩:St)) (fun i=>l.length-i) i Q))→SW Tryz.prog ⟨none,0⟩ 47 (.loop c) s0 Q :=
   fun l Q c s0 _ _ hw hr=>dG (ι:=Nat) (fun i=>i≤l.length∧∀ (j:Nat) (r:ByteArray×Int),j<i→l[j]? = some r→¬r.2=n) _ (fun i=>l.length-i) 0 ⟨Nat.zero_le _,fun j r hj=>absurd hj (Nat.not_lt_zero j)⟩ hw (fun i hi=>hr i hi.1 hi.2)
  obtain ⟨l,hl⟩:∃ l,gK k=l:=⟨_,rfl⟩
  have hlen:l.length≤100:=by
   rw [← hl]
   unfold gK
   repeat' split
   all_goals decide
  by_cases hnil:l=[]
  have e:nJ k=Ia:=by unfold nJ;rw [hl,if_pos hnil]
  simp only [go_sem,hk,qo,qn,e,Ia]
  refine loop l _ _ _ hl hlen ((Wk.nilD 22 2 rfl).trans (Wk.renL [] (by simp) (by simp) (by simp) (by subst hnil;rfl) rfl)) (fun i hi hn=>?_)
  rotate_left
  have e:nJ k=fV l:=by unfold nJ;rw [hl,if_neg hnil]
  simp only [go_sem,hk,qo,qn,e,List.length_map]
  refine loop l _ _ _ hl hlen (Wk.renL [] (by simp) (by simp) (by simp) rfl rfl) (fun i hi hn=>?_)
  all_goals
   refine ab (ctx:=[⟨_,sq⟩]) 4000 ?_
   rcases Nat.lt_or_ge i l.length with hlt | hge
   ·have hltI:(i:Int)<l.length:=by omega
    obtain ⟨r,hr⟩:∃ r,l[i]? = some r:=⟨_,List.getElem?_eq_getElem hlt⟩
    have ei:IntKind.i64.wrap ((i:Int)+1)=((i+1:Nat):Int):=by rw [IntKind.wrap_i64];omega
    by_cases hrn:r.2=n
    ·have er:ay k n=(r.1,0):=by unfold ay;rw [if_neg hk,hl,H8 hn hr hrn]
     simp only [go_sem,hltI,hr,lV,hrn,er,eW]
    ·simp only [go_sem,hltI,hr,lV,hrn,ei]
     refine ⟨i+1,⟨hlt,fun j r' hj hr'=>?_⟩,by omega,Wk.renL [] (by simp) (by simp) (by simp) rfl rfl⟩
     by_cases e2:j=i
     ·subst e2
      rw [hr] at hr'
      injection hr' with hr'
      rw [← hr']
      exact hrn
     ·exact hn j r' (by omega) hr'
   ·obtain rfl:i=l.length:=by omega
    have hI:¬(l.length:Int)<l.length:=by omega
    have hno:=BD hn
    by_cases hs:k=6∧0≤n∧n<32768
    ·have er:ay k n=(cW n,0):=by unfold ay;rw [if_neg hk,hl,hno];simp only [hs,and_self,if_true]
     simp only [go_sem,hI,eq_true hs.1,hs.2.1,hs.2.2,CK,CJ,er,eW]
    ·have er:ay k n=(emp,30):=by unfold ay;rw [if_neg hk,hl,hno];simp only [hs,if_false]
     by_cases a1:k=6
     ·by_cases a2:0≤n
      ·have a3:¬n<32768:=fun h=>hs ⟨a1,a2,h⟩
       simp only [go_sem,hI,eq_true a1,a2,a3,er,eW,ax]
      ·simp only [go_sem,hI,eq_true a1,a2,er,eW,ax]
     ·simp only [go_sem,hI,a1,er,eW,ax]
def BE:bq Tryz.prog 30 :=
 mk2 _ _ _ Tryz.func30 rfl (fun _ _=>by go_simp) (bA .i64) (bA .i64) ((fun _ _=>True)) ((fun k n=>.ret (eW (ay k n)))) (by rw [Tryz.ntmps30];decide) (fun k n _=>NN k n)
theorem kM {id:Nat} {h:ag} {args:List AV}:(BE).run id h args=bV (cA (bA .i64) (bA .i64) ((fun _ _=>True))) (fun x=>((fun k n=>.ret (eW (ay k n)))) x.1 x.2) h args:=rfl
theorem kL {id:Nat} {h:ag} {args:List AV}:(BE).pan id h args=ca (cA (bA .i64) (bA .i64) ((fun _ _=>True))) (fun x=>((fun k n=>.ret (eW (ay k n)))) x.1 x.2) h args:=rfl
end Go.Proofs.YthcoegkfpinlfaaGreatDoor
