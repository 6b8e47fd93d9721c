import Derived.Test.YtnhbidpdadkcjaaGreatDoorG49
import Derived.Test.YtnhbidpdadkcjaaGreatDoorRows
import Derived.Test.YtnhbidpdadkcjaaGreatDoorCards
import Derived.Test.YtnhbidpdadkcjaaGreatDoorTie
import Derived.ProofKit
import Derived.ShutString
import Derived.ChangeOld
import Derived.SizedLaws
import Derived.LaidMore
import Derived.Lay
import Derived.LaidOnce
import Derived.SevenTiedAt
import Derived.Deep.DeepHandedRow
import Derived.Stop.LaidErr
open Go.RowKit
set_option linter.unusedVariables false
set_option linter.unusedSimpArgs false
set_option maxRecDepth 100000
set_option maxHeartbeats 8000000
open Nat (zero_le)
namespace Go.Proofs.YtnhbidpdadkcjaaGreatDoor
open Go.Proofs.Tryz
def SmT (l:List Tok):Prop:=∀t∈l,t.text.size≤1000000
structure SzS (s:StV):Prop where
 labels:∀n∈s.labels,n.size≤1000000
 name:s.name.size≤1000000
 names:∀n∈s.names,n.size≤1000000
 bytes:s.bytes.length≤1000000
structure SzP (p:PsV):Prop where
 l:SmT p.l
 s:SzS p.s
theorem SmT.drop {l:List Tok}(h:SmT l)(n:Nat):SmT (l.drop n):=fun t ht=>h t (List.mem_of_mem_drop ht)
theorem SmT.at {l:List Tok}(h:SmT l)(k:Int)(n:Nat):(atF l k n).size≤1000000:=by
 unfold atF;split
 ·rename_i t ht;split
  ·exact h t (List.mem_of_getElem? ht)
  ·exact zero_le _
 ·exact zero_le _
theorem vZ {k e:Int}{t:ByteArray}{l r:List Tok}(h:SmT l)(hn:aL k e l=.ok (t,r)):SmT r∧t.size≤1000000:=by
 unfold aL at hn;split at hn
 ·injection hn with hn;injection hn with h1 h2;subst h1 h2;exact⟨h.drop 1,h.at k 0⟩
 ·cases hn
theorem vW {p q:PsV}(h:SzP p)(e:bM p=.ok q):SzP q:=by
 unfold bM at e;rcases hn:aL 1 112 p.l with x | ⟨t,l⟩
 ·rw[hn]at e;cases e
 ·rw[hn]at e;injection e with e;subst e;obtain⟨h1,h2⟩:=vZ h.l hn;refine⟨h1,h.s.labels,h.s.name,fun n hn=>?_,h.s.bytes⟩;rcases List.mem_append.1 hn with hn | hn
  ·exact h.s.names n hn
  ·rw[List.mem_singleton]at hn;rw[hn];exact h2
theorem w7 {p q:PsV}(h:SzP p)(e:bV p=.ok q):SzP q:=by
 unfold bV at e;rcases hn:aP p.l with x | ⟨v,l⟩
 ·rw[hn]at e;cases e
 ·rw[hn]at e;injection e with e;subst e;refine⟨?_,h.s.labels,h.s.name,h.s.names,h.s.bytes⟩;unfold aP at hn;split at hn
  ·cases hn
  ·split at hn
   ·injection hn with hn;injection hn with h1 h2;subst h2;exact h.l.drop _
   ·cases hn
theorem zO {rd:PsV→Except Int PsV}(hr:∀{p q},SzP p→rd p=.ok q→SzP q):∀{N:Nat} {p q:PsV},SzP p→dm rd N p=.ok q→SzP q
 |N,p,q,h,e=>by
  unfold dm at e;rcases h1:rd p with x | p1
  ·rw[h1]at e;cases e
  ·rw[h1]at e;have g:=hr h h1;simp only at e;split at e
   ·cases N with
    |zero=>cases e
    |succ N=>exact zO hr (p:=⟨p1.l.drop 1,p1.s⟩) ⟨g.l.drop 1,g.s⟩ e
   ·injection e with e;subst e;exact g
theorem SzP.kind {p:PsV}(h:SzP p)(k:Int):SzP (dK k p):=⟨h.l,h.s.labels,h.s.name,h.s.names,h.s.bytes⟩
theorem LF {name:ByteArray}{p q:PsV}(h:SzP p)(e:mI name p=.ok q):SzP q:=by
 unfold mI at e;split at e
 ·rename_i hc;injection e with e;subst e;refine⟨h.l,h.s.labels,h.s.name,fun n hn=>?_,h.s.bytes⟩;rw[List.mem_singleton]at hn;subst hn;rcases hc with rfl | rfl<;>exact Nat.le_of_ble_eq_true rfl
 split at e
 ·exact vW (h.kind 2) e
 split at e
 ·exact zO (fun a b=>vW a b) (h.kind 3) e
 split at e
 ·unfold jZ at e;rcases hv:bV (dK 4 p) with x | p1
  ·rw[hv]at e;cases e
  ·rw[hv]at e;simp only at e;split at e
   ·injection e with e;subst e;exact w7 (h.kind 4) hv
   ·cases e
 have data:∀n,dA n p=.ok q→SzP q:=fun n e=>zO (fun a b=>w7 a b) (p:=⟨p.l,{ p.s with kind:=5,size:=n }⟩) ⟨h.l,h.s.labels,h.s.name,h.s.names,h.s.bytes⟩ e;split at e
 ·exact data 1 e
 split at e
 ·exact data 4 e
 split at e
 ·exact data 8 e
 split at e
 ·unfold j0 at e;rcases hn:aL 3 112 (dK 6 p).l with x | ⟨t,r⟩
  ·rw[hn]at e;cases e
  ·rw[hn]at e;injection e with e;subst e;obtain⟨h1,h2⟩:=vZ h.l hn;exact⟨h1,h.s.labels,h.s.name,h.s.names,by show(aa t).length≤_;rw[ae];exact h2⟩
 split at e
 ·unfold rh at e;rcases hn:bM (dK 7 p) with x | p1
  ·rw[hn]at e;cases e
  ·rw[hn]at e;have g:=vW (h.kind 7) hn;simp only at e;split at e
   ·exact w7 (p:=⟨p1.l.drop 1,p1.s⟩) ⟨g.l.drop 1,g.s⟩ e
   ·cases e
 ·cases e
theorem vJ:∀{N:Nat} {out ls:List ByteArray} {l r:List Tok},SmT l→(∀n∈out,n.size≤1000000)→bm N out l=.ok (ls,r)→∀n∈ls,n.size≤1000000
 |0,out,ls,l,r,h,ho,e=>by
  injection e with e;injection e with e1 e2;subst e1;exact ho
 |N+1,out,ls,l,r,h,ho,e=>by
  unfold bm at e;split at e
  ·split at e
   ·cases e
   ·split at e
    ·cases e
    ·refine vJ (h.drop 2) (fun n hn=>?_) e;rcases List.mem_append.1 hn with hn | hn
     ·exact ho n hn
     ·rw[List.mem_singleton]at hn;rw[hn];exact h.at 1 0
  ·injection e with e;injection e with e1 e2;subst e1;exact ho
theorem Ih {l:List Tok}{s:StV}(h:SmT l)(e:lW l=.ok s):SzS s:=by
 unfold lW at e;rcases hl:bm l.length [] l with x | ⟨ls,r⟩
 ·rw[hl]at e;cases e
 rw[hl]at e;simp only at e;have h1:=vJ h (fun n hn=>by cases hn) hl;have h2:SmT r:=lV h hl;have h0:SzS { st0 with labels:=ls }:=⟨h1,zero_le _,fun n hn=>(by cases hn),zero_le _⟩;split at e
 ·injection e with e;subst e;exact h0
 rcases hq:lF ⟨r,{ st0 with labels:=ls }⟩ with x | q
 ·rw[hq]at e;cases e
 rw[hq]at e;simp only[Except.ok.injEq]at e;subst e;unfold lF at hq;rcases hn:aL 1 110 r with x | ⟨name,l1⟩
 ·simp only[hn]at hq;cases hq
 simp only[hn]at hq;obtain⟨g1,g2⟩:=vZ h2 hn;split at hq
 ·cases hq
 split at hq
 ·unfold Dz at hq;rcases hd:mI name ⟨l1,{ st0 with labels:=ls }⟩ with x | q1
  ·rw[hd]at hq;cases hq
  ·rw[hd]at hq;simp only at hq;split at hq
   ·injection hq with hq;subst hq;exact(LF ⟨g1,h0⟩ hd).s
   ·cases hq
 rcases ho:fP l1 with x | o
 ·rw[ho]at hq;cases hq
 rw[ho]at hq;injection hq with hq;subst hq;exact⟨h1,g2,fun n hn=>(by cases hn),zero_le _⟩
theorem EU {t:ByteArray}{s:StV}(e:eh (aa t)=.ok s):StOk s:=by
 have hr:=IP e;unfold eh at e;split at e
 ·rename_i h0;rcases hl:eF (aa t) with ⟨ts,n,z⟩;rw[hl]at h0 e;simp only at h0;subst h0;have hz:=Ih (wW hl) e;have hc:=hr.chk;unfold FT at hc;split at hc
  ·cases hc
  split at hc
  ·cases hc
  rename_i c2;split at hc
  ·cases hc
  split at hc
  ·cases hc
  split at hc
  ·rename_i c5;exact absurd hc c5
  have h8:s.opers.length≤8:=by
   unfold sT at hc;split at hc
   ·cases hc
   ·exact(yG (s:=(ll s.opers).1) hr.good.opers (by rw[←hc])).2.2.2
  exact⟨by omega,fun n hn=>by have:=hz.labels n hn;omega,by have:=hz.name;omega,by omega,hr.good.opers,by omega,fun n hn=>by have:=hz.names n hn;omega,by omega,hr.good.vals,hr.good.bytes,hz.bytes⟩
 ·cases e
theorem StOk.sm {s:StV}(h:StOk s):yS s:=⟨h.labels,h.names,h.opers,h.vals,h.bytes⟩
def Kp (p q:PsV):Prop:=q.s.labels=p.s.labels∧q.s.opers=p.s.opers∧q.s.bytes=p.s.bytes
theorem Kp.trans {a b c:PsV}(h:Kp a b)(k:Kp b c):Kp a c:=⟨k.1.trans h.1,k.2.1.trans h.2.1,k.2.2.trans h.2.2⟩
section
open Go.ChangeShapes Go.WideShapes Go.ChangeAt Go.RowKit
theorem Qx:ownKnob Tryz.prog.godebug=none:=by kernel_rfl
theorem FA:laidOutB prog=true:=by kernel_rfl
def rC:List (String×DataW Unit):=[("math/bits.deBruijn32tab",Rows.laid_math_bits_deBruijn32tab),("math/bits.deBruijn64tab",Rows.laid_math_bits_deBruijn64tab),("internal/strconv.uint64pow10",Rows.laid_internal_strconv_uint64pow10),("unicode/utf8.acceptRanges",Rows.laid_unicode_utf8_acceptRanges),("strconv.ErrRange",Rows.laid_strconv_ErrRange),("strconv.ErrSyntax",Rows.laid_strconv_ErrSyntax),("unicode/utf8.first",Rows.laid_unicode_utf8_first)]
theorem Mo {n:Int}(h:(Lit.int .u8 n).wf=true):0≤n∧n≤255:=by
 have h':IntKind.u8.min≤n∧n≤IntKind.u8.max:=by simpa[Lit.wf] using h
 rw[show IntKind.u8.min=0 from rfl,show IntKind.u8.max=255 from rfl]at h';omega
theorem TP : "*" ++ "errors.errorString" = "*errors.errorString":=by decide
theorem Re (u:TypeId)(h:Tryz.prog.typeName? 3 u=some "*errors.errorString"):u=292 :=
 typeName_ptr_named (nm := "errors.errorString") (by rw[TP];kernel_rfl) (by kernel_rfl) (by decide) u (by rw[TP];exact h)
theorem A9 {W:World}(h:laidMetH prog rC W):Gok fun b o=>W.cell? ⟨b,o,none⟩:=by
 rw[MakeChecks.laidMetH_plain _ _ _ (by kernel_rfl)]at h;have h3:=h.tail.tail;constructor
 ·obtain⟨a0,s0,hv0,-,-,-⟩:=laid_sentinel (g:=3) (ti:=109) (tp:=292) (te:=294) (ts:=9) h3.tail.tail (by kernel_rfl) (by kernel_rfl) Tryz.underlying109 Re Tryz.underlying292 Tryz.underlying294 rfl rfl Tryz.underlying9 (by kernel_rfl) (by kernel_rfl);exact⟨_,by have h0:=World.var?_cell (P:=prog) (g:=3) (by kernel_rfl) hv0 0;simpa using h0,.inr ⟨_,_,rfl⟩⟩
 ·intro i hi;obtain⟨ps,⟨g,t,cs,fuel,p,q,hg,ht,hv,hd,_,_⟩,_,_⟩:=h3;obtain rfl:=Option.some.inj ((show Tryz.prog.globalNamed "internal/strconv.uint64pow10" = some 1 by kernel_rfl).symm.trans hg);obtain rfl:=Option.some.inj ((show(Tryz.prog.globals[1]?).map (·.type)=some 271 by kernel_rfl).symm.trans ht);obtain⟨xs,m,_,ex,_,hl,hel⟩:=DataW.trod_array Tryz.underlying271 hd;have c5:Tryz.prog.cellsOf 135=1:=by kernel_rfl
  have hE:=hel i hi;rw[c5,Nat.mul_one,List.getElem?_eq_getElem (by omega)]at hE;obtain⟨z,e1,e2,_⟩:=DataW.trod_int Tryz.underlying135 hE
  have e3:(xs.map (·.1))=((List.range 20).map fun n=>(DataW.lit (.int .u64 (10 ^ n)):DataW Unit)):=by
   rw[←(DataW.agg.inj (Prod.mk.inj ex).1)];rfl
  have e4:(xs.map (·.1))[i]? = ((List.range 20).map fun n=>(DataW.lit (.int .u64 (10 ^ n)):DataW Unit))[i]?:=by rw[e3]
  rw[List.getElem?_map,List.getElem?_map,List.getElem?_eq_getElem (by omega:i<xs.length),List.getElem?_range hi,e2]at e4
  have hz:z=10 ^ i:=by
   simp only[Option.map_some,Option.some.injEq,DataW.lit.injEq,Lit.int.injEq,true_and]at e4;exact e4
  show W.cell? ⟨1,i,none⟩=_;rw[World.var?_cell hg hv i,←hz]
  have:cs.toList[i]? = some (.int .u64 z):=by
   have h0:((cs.toList.drop i).take 1)[0]? = some (.int .u64 z):=by rw[e1];rfl
   simpa using h0
  simpa using this
end
end Go.Proofs.YtnhbidpdadkcjaaGreatDoor
