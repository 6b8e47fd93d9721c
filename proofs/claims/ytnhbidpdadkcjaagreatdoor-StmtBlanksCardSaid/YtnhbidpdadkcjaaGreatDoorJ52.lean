import Derived.Test.YtnhbidpdadkcjaaGreatDoorJ51
import Derived.Test.YtnhbidpdadkcjaaGreatDoorJ45
import Derived.Test.YtnhbidpdadkcjaaGreatDoorJ48
import Derived.Test.YtnhbidpdadkcjaaGreatDoorJ42
import Derived.Test.YtnhbidpdadkcjaaGreatDoorRows
import Derived.Test.YtnhbidpdadkcjaaGreatDoorCards
import Derived.Test.YtnhbidpdadkcjaaGreatDoorTie
import Derived.Test.YtnhbidpdadkcjaaGreatDoorJ01
import Derived.ProofKit
import Derived.OpenShut
import Derived.ShutString
import Derived.ChangeOld
import Derived.SizedLaws
import Derived.LaidMore
import Derived.Lay
import Derived.LaidOnce
import Derived.SevenTiedAt
import Derived.Deep.DeepHandedRow
import Derived.Stop.LaidErr
set_option linter.unusedVariables false
set_option linter.unusedSimpArgs false
set_option maxRecDepth 100000
set_option maxHeartbeats 8000000
namespace Go.Proofs.YtnhbidpdadkcjaaGreatDoor
section
open Go.RowKit
def Gq:ByteArray:=(⟨#[108,111,111,112,58,32,46,119,111,114,100,32,97,32,43,32,52,44,32,45,49]⟩:ByteArray)
def Qy:ByteArray:=(⟨#[108,111,111,112,58,32,46,119,111,114,100,32,97,43,52,44,32,45,49]⟩:ByteArray)
def mS:StV:=⟨[(⟨#[108,111,111,112]⟩:ByteArray)],5,emp,[],[],4,[⟨4,(⟨#[97]⟩:ByteArray),emp⟩,⟨-1,emp,emp⟩],[]⟩
theorem EG:nh mS=(Qy,0):=by kernel_rfl
def Tv (r:Except Int StV) (s:StV):Bool:=match r with
 | .ok u=>decide (u=s)
 | .error _=>false
theorem O0:Tv (fi (ab Gq)) mS=true:=by decide +kernel
theorem EF:fi (ab Gq)=.ok mS:=by
 have h:=O0
 unfold Tv at h
 split at h
 ·rename_i u e;rw [e,of_decide_eq_true h]
 ·cases h
theorem Ik:∀ v∈mS.vals,gW v:=by
 intro v hv
 simp only [mS,List.mem_cons,List.not_mem_nil,or_false] at hv
 rcases hv with rfl | rfl<;>exact ⟨Nat.le_of_ble_eq_true rfl,Nat.le_of_ble_eq_true rfl,by decide,by decide⟩
theorem O1:vW mS:=⟨by decide,by intro n hn;simp only [mS,List.mem_singleton] at hn;rw [hn];exact Nat.le_of_ble_eq_true rfl,by decide,by decide,fun o ho=>(by cases ho),by decide,fun n hn=>(by cases hn),by decide,Ik,fun z hz=>(by cases hz),by decide⟩
def Fy:bi Tryz.prog 16 :=
 mk0 _ _ _ Tryz.func16 rfl (fun _ _=>by go_simp) (True) ((.ret (bv true))) (fun _=>by
 refine aa (ctx:=[⟨_,tY⟩,⟨_,Bp⟩]) 4000 ?_
 rw [Tryz.ntmps16,Tryz.results16]
 simp only [Tryz.f16,Option.getD_some,aC]
 have h1:nM Gq=.ret (.tup [.agg (cG (bN mS)),.l (.v (.int .i64 0))]):=by unfold nM;rw [EF]
 have h2:=EG
 have h3:=O1
 have h5:(⟨#[108,111,111,112,58,32,46,119,111,114,100,32,97,32,43,32,52,44,32,45,49]⟩:ByteArray)=Gq:=rfl
 have hSt:=Bq.back mS
 simp only [dt,bN,dQ,gj] at hSt
 have k1:mS.kind=5:=rfl
 have k2:mS.size=4:=rfl
 have k3:(mS.vals.length:Int)=2:=rfl
 have b1:(mS.kind==5)=true:=rfl
 have b2:(mS.size==4)=true:=rfl
 have b3:((mS.vals.length:Int)==2)=true:=rfl
 have h6:Qy=(⟨#[108,111,111,112,58,32,46,119,111,114,100,32,97,43,52,44,32,45,49]⟩:ByteArray):=rfl
 simp only [go_sem,qI,qH,h5,h1,bN,FE,FD,hSt,h2,h3,C0,eq_true k1,eq_true k2,eq_true k3,b1,b2,b3,h6,List.length_map])
theorem zS {id:Nat} {h:ah} {args:List AV}:(Fy).run id h args=bT (jl (True)) (fun _=>(.ret (bv true))) h args:=rfl
theorem zR {id:Nat} {h:ah} {args:List AV}:(Fy).pan id h args=bU (jl (True)) (fun _=>(.ret (bv true))) h args:=rfl
end
section
open Go.RowKit
def Kp (p q:PsV):Prop:=q.s.labels=p.s.labels∧q.s.opers=p.s.opers∧q.s.bytes=p.s.bytes
theorem Kp.trans {a b c:PsV} (h:Kp a b) (k:Kp b c):Kp a c:=⟨k.1.trans h.1,k.2.1.trans h.2.1,k.2.2.trans h.2.2⟩
theorem xJ {p q:PsV} (e:nameR p=.ok q):Kp p q:=by
 unfold nameR at e
 split at e
 ·cases e
 ·injection e with e;subst e;exact ⟨rfl,rfl,rfl⟩
theorem yD {p q:PsV} (e:valR2 p=.ok q):Kp p q:=by
 unfold valR2 at e
 split at e
 ·cases e
 ·injection e with e;subst e;exact ⟨rfl,rfl,rfl⟩
theorem Bl {rd:PsV→Except Int PsV} (hr:∀ {p q},rd p=.ok q→Kp p q):∀ {N:Nat} {p q:PsV},fh rd N p=.ok q→Kp p q
 | N,p,q,e=>by
  unfold fh at e
  rcases h1:rd p with x | p1
  ·rw [h1] at e;cases e
  ·rw [h1] at e
   simp only at e
   split at e
   ·cases N with
    | zero=>cases e
    | succ N=>exact (hr h1).trans (Bl hr (p:=⟨p1.l.drop 1,p1.s⟩) e)
   ·injection e with e
    subst e
    exact hr h1
theorem MC {name:ByteArray} {p q:PsV} (h0:∀ z∈p.s.bytes,0≤z∧z≤255) (e:readR name p=.ok q):q.s.labels=p.s.labels∧q.s.opers=p.s.opers∧∀ z∈q.s.bytes,0≤z∧z≤255:=by
 have ok:∀ {a:PsV},a.s.labels=p.s.labels→a.s.opers=p.s.opers→a.s.bytes=p.s.bytes→Kp a q→q.s.labels=p.s.labels∧q.s.opers=p.s.opers∧∀ z∈q.s.bytes,0≤z∧z≤255:=fun h1 h2 h3 k=>⟨k.1.trans h1,k.2.1.trans h2,by rw [k.2.2,h3];exact h0⟩
 unfold readR at e
 split at e
 ·injection e with e;subst e;exact ⟨rfl,rfl,h0⟩
 split at e
 ·exact ok (a:=iB 2 p) rfl rfl rfl (xJ e)
 split at e
 ·exact ok (a:=iB 3 p) rfl rfl rfl (Bl (fun a=>xJ a) e)
 split at e
 ·unfold jn at e
  rcases hv:valR2 (iB 4 p) with x | p1
  ·rw [hv] at e;cases e
  ·rw [hv] at e
   simp only at e
   split at e
   ·injection e with e;subst e;exact ok (a:=iB 4 p) rfl rfl rfl (yD hv)
   ·cases e
 have data:∀ n,eU n p=.ok q→q.s.labels=p.s.labels∧q.s.opers=p.s.opers∧∀ z∈q.s.bytes,0≤z∧z≤255:=fun n e=>ok (a:=⟨p.l,{ p.s with kind:=5,size:=n }⟩) rfl rfl rfl (Bl (fun a=>yD a) e)
 split at e
 ·exact data 1 e
 split at e
 ·exact data 4 e
 split at e
 ·exact data 8 e
 split at e
 ·unfold jo at e
  split at e
  ·cases e
  ·injection e with e;subst e;exact ⟨rfl,rfl,fun z hz=>lq hz⟩
 split at e
 ·unfold p9 at e
  rcases hn:nameR (iB 7 p) with x | p1
  ·rw [hn] at e;cases e
  ·rw [hn] at e
   simp only at e
   split at e
   ·exact ok (a:=iB 7 p) rfl rfl rfl ((xJ hn).trans (yD (p:=⟨p1.l.drop 1,p1.s⟩) e))
   ·cases e
 ·cases e
theorem Mp {l:List Tok} {s:StV} (h:RdOk l) (e:pF l=.ok s):vV s:=by
 unfold pF at e
 rcases hl:labelsF l.length [] l with x | ⟨ls,r⟩
 ·rw [hl] at e;cases e
 rw [hl] at e
 simp only at e
 obtain ⟨hr,h8⟩:=su h (by simp) hl
 split at e
 ·injection e with e
  subst e
  exact ⟨by show ls.length≤_;omega,Nat.zero_le _,Nat.zero_le _,Nat.zero_le _,fun z hz=>(by cases hz)⟩
 rcases hq:restR ⟨r,{ st0 with labels:=ls }⟩ with x | q
 ·rw [hq] at e;cases e
 rw [hq] at e
 simp only [Except.ok.injEq] at e
 subst e
 unfold restR at hq
 rcases hn:nextF 1 110 r with x | ⟨name,l1⟩
 ·simp only [hn] at hq;cases hq
 simp only [hn] at hq
 obtain ⟨g1,-⟩:=tK hr hn
 split at hq
 ·cases hq
 split at hq
 ·unfold yL at hq
  rcases hd:readR name ⟨l1,{ st0 with labels:=ls }⟩ with x | q1
  ·rw [hd] at hq;cases hq
  ·rw [hd] at hq
   simp only at hq
   split at hq
   ·injection hq with hq
    subst hq
    have hb:BodyOk 64 64 q1:=MD (p:=⟨l1,{ st0 with labels:=ls }⟩) ⟨g1,Nat.le_refl _,Nat.le_refl _,fun v hv=>(by cases hv)⟩ hd
    obtain ⟨k1,k2,k3⟩:=MC (p:=⟨l1,{ st0 with labels:=ls }⟩) (fun z hz=>(by cases hz)) hd
    exact ⟨by rw [k1];show ls.length≤_;omega,by have:=hb.names;omega,by rw [k2];exact Nat.zero_le _,by have:=hb.vals;omega,k3⟩
   ·cases hq
 rcases ho:listF l1 with x | o
 ·rw [ho] at hq;cases hq
 rw [ho] at hq
 injection hq with hq
 subst hq
 have:=(Lj g1 ho).few
 exact ⟨by show ls.length≤_;omega,Nat.zero_le _,by show o.length≤_;omega,Nat.zero_le _,fun z hz=>(by cases hz)⟩
theorem Sn:vV st0:=⟨Nat.zero_le _,Nat.zero_le _,Nat.zero_le _,Nat.zero_le _,fun z hz=>(by cases hz)⟩
theorem PU {t:ByteArray} {s:StV} (e:fi (ab t)=.ok s):vV s:=by
 unfold fi at e
 split at e
 ·rename_i h0
  rcases hl:kr (ab t) with ⟨ts,n,z⟩
  rw [hl] at h0 e
  simp only at h0
  subst h0
  exact Mp (Li hl) e
 ·cases e
end
section
open Go.RowKit
def CL:ByteArray:=⟨#[32,32,32,32,32,32,32,32,32]⟩
theorem Gv (n:Nat) (h:n<9):ab (CL.extract 0 n)=List.replicate n 32∧(CL.extract 0 n).size=n:=by
 have:n=0∨n=1∨n=2∨n=3∨n=4∨n=5∨n=6∨n=7∨n=8:=by omega
 rcases this with rfl | rfl | rfl | rfl | rfl | rfl | rfl | rfl | rfl<;>exact ⟨rfl,rfl⟩
theorem Dt {z:Int} {n:Nat} (h:0≤z) (hn:0<n):∃ m:Nat,z.tmod (n:Int)=(m:Int)∧m<n:=by
 have h1:=Int.tmod_nonneg (n:Int) h
 have h2:=Int.tmod_lt_of_pos z (b:=(n:Int)) (by omega)
 exact ⟨(z.tmod n).toNat,by omega,by omega⟩
def KP:ByteArray:=⟨#[32,47,47,32,97]⟩
theorem EV {line:ByteArray} {m n:Nat} (hm:m<9) (hn:n<9) (hl:line.size≤482):nM (CL.extract 0 m++line++CL.extract 0 n++KP)=nM line:=by
 have e:fi (ab (CL.extract 0 m++line++CL.extract 0 n++KP))=fi (ab line):=by
  rw [qL,qL,qL,(Gv m hm).1,(Gv n hn).1,show ab KP=[32,47,47,32,97] from rfl,List.append_assoc,List.append_assoc]
  exact Dn hm hn (by rw [aW];exact hl)
 unfold nM
 rw [e]
theorem IT (t:ByteArray):∃ s e,nM t=.ret (.tup [.agg (cG (bN s)),.l (.v (.int .i64 e))])∧vV s∧((fi (ab t)=.ok s∧e=0)∨(fi (ab t)=.error e∧s=st0)):=by
 unfold nM
 rcases h:fi (ab t) with e | s
 ·exact ⟨st0,e,rfl,Sn,.inr ⟨rfl,rfl⟩⟩
 ·exact ⟨s,0,rfl,PU h,.inl ⟨rfl,rfl⟩⟩
theorem Fr (line:ByteArray) (a b:Int) (ha:0≤a∧a≤255) (hb:0≤b∧b≤255):SW Tryz.prog ⟨none,0⟩ Tryz.f6.ntmps (Tryz.f6.body.getD .skip) ⟨0,aC 0 [bx.enc line,(bq .u8).enc a,(bq .u8).enc b],[]⟩ (es Tryz.prog Tryz.f6.results.toList (.ret (bv true))):=by
 refine aa (ctx:=[⟨_,Fy⟩,⟨_,tY⟩,⟨_,Sj⟩]) 4000 ?_
 rw [Tryz.ntmps6,Tryz.results6]
 simp only [Tryz.f6,Option.getD_some,aC]
 by_cases hl:(482:Int)<line.size
 ·simp only [go_sem,zS,zR,hl]
 obtain ⟨m,hm,hm9⟩:=Dt (n:=9) ha.1 (by decide)
 obtain ⟨n,hn,hn9⟩:=Dt (n:=9) hb.1 (by decide)
 have hm':a.tmod 9=(m:Int):=hm
 have hn':b.tmod 9=(n:Int):=hn
 have w1:IntKind.i64.wrap a=a:=by rw [IntKind.wrap_i64];omega
 have w2:IntKind.i64.wrap b=b:=by rw [IntKind.wrap_i64];omega
 have w3:IntKind.i64.wrap (m:Int)=m:=by rw [IntKind.wrap_i64];omega
 have w4:IntKind.i64.wrap (n:Int)=n:=by rw [IntKind.wrap_i64];omega
 obtain ⟨s,e,hS,hsm,-⟩:=IT line
 have hT:=EV hm9 hn9 (line:=line) (by omega)
 rw [hS] at hT
 have hSt:=Bq.back s
 simp only [dt,bN,dQ,gj] at hSt
 have n1:=(Gv m hm9).2
 have n2:=(Gv n hn9).2
 simp only [go_sem,zS,zR,hl,hm',hn',w1,w2,w3,w4,qI,qH,hS,bN]
 refine bI (ctx:=[]) mixed [] (by kernel_rfl) ?_
 have x3:maxLen=9223372036854775807:=rfl
 have q0:(⟨#[32,32,32,32,32,32,32,32,32]⟩:ByteArray)=CL:=rfl
 have q1:(⟨#[32,47,47,32,97]⟩:ByteArray)=KP:=rfl
 have o1:(m:Int)≤9:=by omega
 have o2:(n:Int)≤9:=by omega
 have p1:m+line.size≤maxLen:=by omega
 have p2:m+line.size+n≤maxLen:=by omega
 have p3:m+line.size+n+5≤maxLen:=by omega
 have heq:(e==e)=true:=beq_self_eq_true e
 have hss:decide (s=s)=true:=decide_eq_true rfl
 simp only [go_sem,Int.toNat_natCast,q0,q1,o1,o2,n1,n2,p1,p2,p3,qI,qH,hT,bN,heq,hSt,PJ,PI,hsm]
 have r0:CL.size=9:=rfl
 have r1:KP.size=5:=rfl
 exact ⟨by rw [r0];omega,by rw [r0];omega,by rw [r1];omega⟩
end
section
open Go.ChangeShapes Go.WideShapes Go.ChangeAt Go.RowKit
theorem Rt:ownKnob Tryz.prog.godebug=none:=by kernel_rfl
theorem AX:laidOutB Tryz.prog=true:=by kernel_rfl
def tA:List (String×DataW Unit):=[("math/bits.deBruijn32tab",Rows.laid_math_bits_deBruijn32tab),("math/bits.deBruijn64tab",Rows.laid_math_bits_deBruijn64tab),("internal/strconv.uint64pow10",Rows.laid_internal_strconv_uint64pow10),("unicode/utf8.acceptRanges",Rows.laid_unicode_utf8_acceptRanges),("strconv.ErrRange",Rows.laid_strconv_ErrRange),("strconv.ErrSyntax",Rows.laid_strconv_ErrSyntax),("unicode/utf8.first",Rows.laid_unicode_utf8_first)]
theorem Dv {n:Int} (h:(Lit.int .u8 n).wf=true):0≤n∧n≤255:=by
 have h':IntKind.u8.min≤n∧n≤IntKind.u8.max:=by simpa [Lit.wf] using h
 rw [show IntKind.u8.min=0 from rfl,show IntKind.u8.max=255 from rfl] at h'
 omega
theorem TZ : "*" ++ "errors.errorString" = "*errors.errorString":=by decide
theorem R6 (u:TypeId) (h:Tryz.prog.typeName? 3 u=some "*errors.errorString"):u=292 :=
 typeName_ptr_named (nm := "errors.errorString") (by rw [TZ];kernel_rfl) (by kernel_rfl) (by decide) u (by rw [TZ];exact h)
theorem Cn {W:World} (h:laidMetH Tryz.prog tA W):Gok fun b o=>W.cell? ⟨b,o,none⟩:=by
 rw [MakeChecks.laidMetH_plain _ _ _ (by kernel_rfl)] at h
 have h3:=h.tail.tail
 constructor
 ·obtain ⟨a0,s0,hv0,-,-,-⟩:=laid_sentinel (g:=3) (ti:=109) (tp:=292) (te:=294) (ts:=9) h3.tail.tail (by kernel_rfl) (by kernel_rfl) Tryz.underlying109 R6 Tryz.underlying292 Tryz.underlying294 rfl rfl Tryz.underlying9 (by kernel_rfl) (by kernel_rfl)
  exact ⟨_,by have h0:=World.var?_cell (P:=Tryz.prog) (g:=3) (by kernel_rfl) hv0 0;simpa using h0,.inr ⟨_,_,rfl⟩⟩
 ·intro i hi
  obtain ⟨ps,⟨g,t,cs,fuel,p,q,hg,ht,hv,hd,_,_⟩,_,_⟩:=h3
  obtain rfl:=Option.some.inj ((show Tryz.prog.globalNamed "internal/strconv.uint64pow10" = some 1 by kernel_rfl).symm.trans hg)
  obtain rfl:=Option.some.inj ((show (Tryz.prog.globals[1]?).map (·.type)=some 271 by kernel_rfl).symm.trans ht)
  obtain ⟨xs,m,_,ex,_,hl,hel⟩:=DataW.trod_array Tryz.underlying271 hd
  have c5:Tryz.prog.cellsOf 135=1:=by kernel_rfl
  have hE:=hel i hi
  rw [c5,Nat.mul_one,List.getElem?_eq_getElem (by omega)] at hE
  obtain ⟨z,e1,e2,_⟩:=DataW.trod_int Tryz.underlying135 hE
  have e3:(xs.map (·.1))=((List.range 20).map fun n=>(DataW.lit (.int .u64 (10 ^ n)):DataW Unit)):=by
   rw [← (DataW.agg.inj (Prod.mk.inj ex).1)]
   rfl
  have e4:(xs.map (·.1))[i]? = ((List.range 20).map fun n=>(DataW.lit (.int .u64 (10 ^ n)):DataW Unit))[i]?:=by rw [e3]
  rw [List.getElem?_map,List.getElem?_map,List.getElem?_eq_getElem (by omega:i<xs.length),List.getElem?_range hi,e2] at e4
  have hz:z=10 ^ i:=by
   simp only [Option.map_some,Option.some.injEq,DataW.lit.injEq,Lit.int.injEq,true_and] at e4
   exact e4
  show W.cell? ⟨1,i,none⟩=_
  rw [World.var?_cell hg hv i,← hz]
  have:cs.toList[i]? = some (.int .u64 z):=by
   have h0:((cs.toList.drop i).take 1)[0]? = some (.int .u64 z):=by rw [e1];rfl
   simpa using h0
  simpa using this
end
end Go.Proofs.YtnhbidpdadkcjaaGreatDoor
