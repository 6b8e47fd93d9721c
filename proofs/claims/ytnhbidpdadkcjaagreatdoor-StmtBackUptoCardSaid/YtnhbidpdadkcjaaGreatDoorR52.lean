import Derived.Test.YtnhbidpdadkcjaaGreatDoorR49
import Derived.Test.YtnhbidpdadkcjaaGreatDoorRows
import Derived.Test.YtnhbidpdadkcjaaGreatDoorCards
import Derived.Test.YtnhbidpdadkcjaaGreatDoorTie
import Derived.ProofKit
import Derived.ShutString
import Derived.ChangeOld
import Derived.SizedLaws
import Derived.LaidMore
import Derived.Lay
import Derived.LaidOnce
import Derived.SevenTiedAt
import Derived.Deep.DeepHandedRow
import Derived.Stop.LaidErr
set_option linter.unusedVariables false
set_option linter.unusedSimpArgs false
set_option maxRecDepth 100000
set_option maxHeartbeats 8000000
namespace Go.Proofs.YtnhbidpdadkcjaaGreatDoor
open Go.Proofs.Tryz
section
open Go.RowKit
def JV:ByteArray:=(⟨#[108,111,111,112,58,32,46,119,111,114,100,32,97,32,43,32,52,44,32,45,49]⟩:ByteArray)
def UN:ByteArray:=(⟨#[108,111,111,112,58,32,46,119,111,114,100,32,97,43,52,44,32,45,49]⟩:ByteArray)
def mq:StV:=⟨[(⟨#[108,111,111,112]⟩:ByteArray)],5,emp,[],[],4,[⟨4,(⟨#[97]⟩:ByteArray),emp⟩,⟨-1,emp,emp⟩],[]⟩
theorem HA:kF mq=(UN,0):=by kernel_rfl
def X3 (r:Except Int StV)(s:StV):Bool:=match r with
 |.ok u=>decide (u=s)
 |.error _=>false
theorem SU:X3 (gl (aa JV)) mq=true:=by decide +kernel
theorem Hz:gl (aa JV)=.ok mq:=by
 have h:=SU;unfold X3 at h;split at h
 ·rename_i u e;rw[e,of_decide_eq_true h]
 ·cases h
theorem LC:∀v∈mq.vals,jg v:=by
 intro v hv;simp only[mq,List.mem_cons,List.not_mem_nil,or_false]at hv;rcases hv with rfl | rfl<;>exact⟨Nat.le_of_ble_eq_true rfl,Nat.le_of_ble_eq_true rfl,by decide,by decide⟩
theorem SX:Au mq:=⟨by decide,by intro n hn;simp only[mq,List.mem_singleton]at hn;rw[hn];exact Nat.le_of_ble_eq_true rfl,by decide,by decide,fun o ho=>(by cases ho),by decide,fun n hn=>(by cases hn),by decide,LC,fun z hz=>(by cases hz),by decide⟩
abbrev WI:ap prog 16 :=
 mz0 func16 (True) ((.ret (bv true))) (asP fun _=>by
 refine aq [⟨_,uE⟩,⟨_,J9⟩] rfl ?_;have h1:qJ JV=.ret (.tup [.agg (bu (aR mq)),.l (.v (.int .i64 0))]):=by unfold qJ;rw[Hz]
 have h2:=HA;have h3:=SX;have h5:(⟨#[108,111,111,112,58,32,46,119,111,114,100,32,97,32,43,32,52,44,32,45,49]⟩:ByteArray)=JV:=rfl;have hSt:=AU.back mq;simp only[bD,aR,dr,fU]at hSt;have k1:mq.kind=5:=rfl;have k2:mq.size=4:=rfl;have k3:(mq.vals.length:Int)=2:=rfl;have b1:(mq.kind==5)=true:=rfl;have b2:(mq.size==4)=true:=rfl;have b3:((mq.vals.length:Int)==2)=true:=rfl;have h6:UN=(⟨#[108,111,111,112,58,32,46,119,111,114,100,32,97,43,52,44,32,45,49]⟩:ByteArray):=rfl;simp only[go_sem,wQ,wP,h5,h1,aR,hSt,h2,h3,FB,eq_true k1,eq_true k2,eq_true k3,b1,b2,b3,h6])
end
section
open Go.ChangeShapes Go.WideShapes Go.ChangeAt Go.RowKit
theorem VF:ownKnob Tryz.prog.godebug=none:=by kernel_rfl
theorem SQ:laidOutB prog=true:=by kernel_rfl
def tW:List (String×DataW Unit):=[("math/bits.deBruijn32tab",Rows.laid_math_bits_deBruijn32tab),("math/bits.deBruijn64tab",Rows.laid_math_bits_deBruijn64tab),("internal/strconv.uint64pow10",Rows.laid_internal_strconv_uint64pow10),("unicode/utf8.acceptRanges",Rows.laid_unicode_utf8_acceptRanges),("strconv.ErrRange",Rows.laid_strconv_ErrRange),("strconv.ErrSyntax",Rows.laid_strconv_ErrSyntax),("unicode/utf8.first",Rows.laid_unicode_utf8_first)]
theorem YG : "*" ++ "errors.errorString" = "*errors.errorString":=by decide
theorem Wq (u:TypeId)(h:Tryz.prog.typeName? 3 u=some "*errors.errorString"):u=292 :=
 typeName_ptr_named (nm := "errors.errorString") (by rw[YG];kernel_rfl) (by kernel_rfl) (by decide) u (by rw[YG];exact h)
theorem EO {W:World}(h:laidMetH prog tW W):Gok fun b o=>W.cell? ⟨b,o,none⟩:=by
 rw[MakeChecks.laidMetH_plain _ _ _ (by kernel_rfl)]at h;have h3:=h.tail.tail;constructor
 ·obtain⟨a0,s0,hv0,-,-,-⟩:=laid_sentinel (g:=3) (ti:=109) (tp:=292) (te:=294) (ts:=9) h3.tail.tail (by kernel_rfl) (by kernel_rfl) Tryz.underlying109 Wq Tryz.underlying292 Tryz.underlying294 rfl rfl Tryz.underlying9 (by kernel_rfl) (by kernel_rfl);exact⟨_,by have h0:=World.var?_cell (P:=prog) (g:=3) (by kernel_rfl) hv0 0;simpa using h0,.inr ⟨_,_,rfl⟩⟩
 ·intro i hi;obtain⟨ps,⟨g,t,cs,fuel,p,q,hg,ht,hv,hd,_,_⟩,_,_⟩:=h3;obtain rfl:=Option.some.inj ((show Tryz.prog.globalNamed "internal/strconv.uint64pow10" = some 1 by kernel_rfl).symm.trans hg);obtain rfl:=Option.some.inj ((show(Tryz.prog.globals[1]?).map (·.type)=some 271 by kernel_rfl).symm.trans ht);obtain⟨xs,m,_,ex,_,hl,hel⟩:=DataW.trod_array Tryz.underlying271 hd;have c5:Tryz.prog.cellsOf 135=1:=by kernel_rfl
  have hE:=hel i hi;rw[c5,Nat.mul_one,List.getElem?_eq_getElem (by omega)]at hE;obtain⟨z,e1,e2,_⟩:=DataW.trod_int Tryz.underlying135 hE
  have e3:(xs.map (·.1))=((List.range 20).map fun n=>(DataW.lit (.int .u64 (10 ^ n)):DataW Unit)):=by
   rw[←(DataW.agg.inj (Prod.mk.inj ex).1)];rfl
  have e4:(xs.map (·.1))[i]? = ((List.range 20).map fun n=>(DataW.lit (.int .u64 (10 ^ n)):DataW Unit))[i]?:=by rw[e3]
  rw[List.getElem?_map,List.getElem?_map,List.getElem?_eq_getElem (by omega:i<xs.length),List.getElem?_range hi,e2]at e4
  have hz:z=10 ^ i:=by
   simp only[Option.map_some,Option.some.injEq,DataW.lit.injEq,Lit.int.injEq,true_and]at e4;exact e4
  show W.cell? ⟨1,i,none⟩=_;rw[World.var?_cell hg hv i,←hz]
  have:cs.toList[i]? = some (.int .u64 z):=by
   have h0:((cs.toList.drop i).take 1)[0]? = some (.int .u64 z):=by rw[e1];rfl
   simpa using h0
  simpa using this
end
end Go.Proofs.YtnhbidpdadkcjaaGreatDoor
