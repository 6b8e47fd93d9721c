/- The statement of SourceCut: called with any arguments the law returns true, and the arguments read aS0 before. No condition; its card is tied to the program's text. -/
import Derived.Test.YtnhbidpdadkcjaaGreatDoorG58
import Derived.Lib.SmallJoins
open Go.RowKit
set_option linter.unusedVariables false
set_option linter.unusedSimpArgs false
set_option maxRecDepth 100000
set_option maxHeartbeats 8000000
namespace Go.Proofs.YtnhbidpdadkcjaaGreatDoor
open Go.Proofs.Tryz
def lG (l:List fI):SV:=if l=[] then .l (.v (.slice none 0 0)) else .l (.d (.sd 9 (l.map rwR.enc)))
def rk (l:List Flt):SV:=.l (.d (.sd 3 (l.map DI.enc)))
def Cx (f:Int)(s:ByteArray):AV:=.tup [lG (dF (aB s)),rk (dI f (aB s)),.l (.v (.int .i64 0))]
theorem OQ (f:Int)(s:ByteArray)(h:(0≤f∧f<16)∧s.size≤60000):Sw f12 0 ⟨0,ax 0 [iv f,aT.enc s],[]⟩ (oQ f12 (.ret (Cx f s))):=by
 refine aq [⟨_,Qy⟩] rfl ?_;obtain⟨⟨h1,h2⟩,h3⟩:=h;have f1:¬f<0:=by omega
 have f2:¬f≥16:=by omega
 have f2':¬16≤f:=by omega
 have f3:¬(65536:Int)<s.size:=by omega
 simp only[go_sem,f1,f2,f2',f3];have hs:s.size≤100000:=by omega
 refine SW.wk (IM f s hs _ ?_) (((Wk.fnD (s:=⟨_,_,_⟩) 25 rfl rfl rfl).trans (Wk.virt 43 9)).trans ((Wk.virt 31 3).trans (Wk.renL [0,240,256,304,305] (by simp) (by simp) (by decide) rfl rfl)));unfold Cx;obtain⟨R,hR⟩:∃R,dF (aB s)=R:=⟨_,rfl⟩;obtain⟨F,hF⟩:∃F,dI f (aB s)=F:=⟨_,rfl⟩;rw[hR,hF];by_cases hR0:R=[]
 ·by_cases hF0:F=[]
  ·subst hR0 hF0;simp only[go_sem,r4,xy,kM,iX,lA,jG,eg,lB,lG,rk];refine SW.wk ?_ (Wk.deepC 2 0 3 rfl rfl rfl);refine sD mixed [] [] ?_;simp only[go_sem]
  ·have hFl0:¬F.length=0:=fun h=>hF0 (List.eq_nil_of_length_eq_zero h);subst hR0;simp only[go_sem,r4,xy,kM,iX,lA,jG,eg,lB,lG,rk,hFl0];refine sD mixed [] [] ?_;simp only[go_sem]
 ·have hRl0:¬R.length=0:=fun h=>hR0 (List.eq_nil_of_length_eq_zero h);by_cases hF0:F=[]
  ·subst hF0;simp only[go_sem,r4,xy,kM,iX,lA,jG,eg,lB,lG,rk,hR0,hRl0];refine SW.wk ?_ (Wk.deepC 2 0 3 rfl rfl rfl);refine sD mixed [] [] ?_;simp only[go_sem]
  ·have hFl0:¬F.length=0:=fun h=>hF0 (List.eq_nil_of_length_eq_zero h);simp only[go_sem,r4,xy,kM,iX,lA,jG,eg,lB,lG,rk,hR0,hRl0,hFl0];refine sD mixed [] [] ?_;simp only[go_sem]
abbrev PQ:am prog 12 :=
 mz2 func12 (bq .i64) (aT) ((fun f s=>(0≤f∧f<16)∧s.size≤60000)) ((fun f s=>.ret (Cx f s))) (asP fun f s h=>OQ f s h)
theorem Ke {x y:Operand}{a b:Flt}:iU prog (do eqGuard .eql 31 x y (.agg #[.int .i64 a.file,.int .i64 a.line,.int .i64 a.err]) (.agg #[.int .i64 b.file,.int .i64 b.line,.int .i64 b.err]);binOp .eql 31 (.agg #[.int .i64 a.file,.int .i64 a.line,.int .i64 a.err]) (.agg #[.int .i64 b.file,.int .i64 b.line,.int .i64 b.err]))=some (.bool (decide (a=b))):=by
  have h:eU prog 31 [.int .i64 a.file,.int .i64 a.line,.int .i64 a.err] [.int .i64 b.file,.int .i64 b.line,.int .i64 b.err]=some (decide (a=b)):=by
    obtain⟨a1,a2,a3⟩:=a;obtain⟨b1,b2,b3⟩:=b;simp only[eU,A0,fN];by_cases h1:a1=b1<;>by_cases h2:a2=b2<;>by_cases h3:a3=b3<;>simp[h1,h2,h3]
  have:=fp (P:=prog) (t:=31) (x:=x) (y:=y) (xs:=[.int .i64 a.file,.int .i64 a.line,.int .i64 a.err]) (ys:=[.int .i64 b.file,.int .i64 b.line,.int .i64 b.err]);rw[h,ky]at this;exact this
def Bn:ByteArray:=⟨#[97,58,32,110,111,112,10,10,102,111,111,58,32,46,120,10,114,101,116]⟩
def lvA:fI:=⟨1,⟨[(⟨#[97]⟩:ByteArray)],1,(⟨#[110,111,112]⟩:ByteArray),[],[],0,[],[]⟩⟩
def lvB:fI:=⟨4,⟨[],1,(⟨#[114,101,116]⟩:ByteArray),[],[],0,[],[]⟩⟩
def lvF:Flt:=⟨0,3,111⟩
theorem DY:dF (aB Bn)=[lvA,lvB]:=by decide +kernel
theorem DX:dI 0 (aB Bn)=[lvF]:=by decide +kernel
abbrev UP:am prog 10 :=
 mz0 func10 (True) ((.ret (bv true))) (asP fun _=>by
 refine aq [⟨_,PQ⟩] rfl ?_;have h1:Cx 0 Bn=.tup [.l (.d (.sd 9 [rwE lvA,rwE lvB])),.l (.d (.sd 3 [DI.enc lvF])),.l (.v (.int .i64 0))]:=by unfold Cx;rw[DY,DX];rfl
 have h2:Bn.size≤60000:=Nat.le_of_ble_eq_true rfl;have h5:(⟨#[97,58,32,110,111,112,10,10,102,111,111,58,32,46,120,10,114,101,116]⟩:ByteArray)=Bn:=rfl;have hE:=@Ke (.tmp 38) (.tmp 39) lvF lvF;simp only[lvF]at hE;simp only[go_sem,h5,h1,h2,rwE,lvA,lvB,lvF,Qn,↓hE])
theorem ua {s:ByteArray}{r:fI}(h:r∈dF (aB s)):(0≤r.line∧r.line≤(1+s.size:Nat))∧yS r.s:=by
 unfold dF at h;obtain⟨l,hl,he⟩:=List.mem_filterMap.1 h;have hs:=pg _ _ _ l hl;unfold row1 at he;split at he
 ·rename_i u hu;split at he
  ·injection he with he;subst he;exact⟨hs,(EU hu).sm⟩
  ·cases he
 ·cases he
theorem A5 {s:ByteArray}{f:Int}{r:Flt}(h:r∈dI f (aB s)):0≤r.line∧r.line≤(1+s.size:Nat):=by
 unfold dI at h;obtain⟨l,hl,he⟩:=List.mem_filterMap.1 h;have hs:=pg _ _ _ l hl;unfold flt1 at he;split at he
 ·cases he
 ·injection he with he;subst he;exact hs
theorem ta (s:ByteArray):(dF (aB s)).length≤s.size:=by
 unfold dF;exact Nat.le_trans (List.length_filterMap_le _ _) (kq _ _ _)
theorem GV (f:Int)(s:ByteArray):(dI f (aB s)).length≤s.size:=by
 unfold dI;exact Nat.le_trans (List.length_filterMap_le _ _) (kq _ _ _)
theorem yk (s:ByteArray)(a b:Nat):(s.extract a b).size≤s.size:=by
 rw[ByteArray.size_extract];omega
theorem wX {a b c d e f:AV}{l l':List AV}(h1:a=b)(h2:c=d)(h3:e=f)(h4:l=l'):a::c::e::l=b::d::f::l':=by rw[h1,h2,h3,h4]
theorem zP (R:List fI):∃x,lG R=SV.l x∧∀g,LV.ren g x=x:=by
 unfold lG;split
 ·exact⟨_,rfl,fun _=>rfl⟩
 ·exact⟨_,rfl,fun _=>rfl⟩
theorem pL {x:LV}(h:lG []=SV.l x):x=.v (.slice none 0 0):=by
 unfold lG at h;rw[if_pos rfl]at h;injection h with h;exact h.symm
theorem jt {R:List fI}{x:LV}(hR:¬R=[])(h:lG R=SV.l x):x=.d (.sd 9 (R.map rwR.enc)):=by
 unfold lG at h;rw[if_neg hR]at h;injection h with h;exact h.symm
theorem RC (t:ByteArray)(o:Int)(ho:0≤o∧o≤255):Sw f3 0 ⟨0,ax 0 [aT.enc t,(bq .u8).enc o],[]⟩ (oQ f3 (.ret (bv true))):=by
 refine aq [⟨_,UP⟩,⟨_,TL⟩,⟨_,PQ⟩,⟨_,AB⟩,⟨_,L0⟩,⟨_,Rw⟩] rfl ?_;by_cases hl:(5000:Int)<t.size
 ·simp only[go_sem,hl]
 obtain⟨m,rfl⟩:=Int.eq_ofNat_of_zero_le ho.1;have hm:m≤255:=by omega
 have hz:t.size≤5000:=by omega
 have w1:IntKind.i64.wrap (m:Int)=m:=by rw[IntKind.wrap_i64];omega
 have q1:((0:Int)≤(m:Int)∧(m:Int)≤100000)∧t.size≤1000000:=⟨⟨by omega,by omega⟩,by omega⟩;obtain⟨a,ha⟩:∃a,(cF m t.data.toList).1=a:=⟨_,rfl⟩;obtain⟨k,hk⟩:∃k,(cF m t.data.toList).2=k:=⟨_,rfl⟩;obtain⟨A,hA⟩:∃A,t.extract 0 a=A:=⟨_,rfl⟩;obtain⟨B,hB⟩:∃B,t.extract a t.size=B:=⟨_,rfl⟩;have hAs:A.size≤5000:=by have:=yk t 0 a;rw[hA]at this;omega
 have hBs:B.size≤5000:=by have:=yk t a t.size;rw[hB]at this;omega
 have hcl:=ow m t.data.toList;have hw:=GB m t;have hL:=Hf m t;have hC:Dn t m=.tup [.l (.v (.string A)),.l (.v (.string B)),.l (.v (.int .i64 k))]:=by unfold Dn;rw[ha,hk,hA,hB]
 rw[ha,hA,hB]at hw;rw[ha,hk,hA,hB]at hL;rw[hk]at hcl;have hkm:k≤m:=hcl.2;have hkI:¬(m:Int)<(k:Int):=by omega
 have q2:((0:Int)≤2∧(2:Int)<16)∧A.size≤60000:=⟨by decide,by omega⟩;have q3:((0:Int)≤2∧(2:Int)<16)∧B.size≤60000:=⟨by decide,by omega⟩;have q4:((0:Int)≤2∧(2:Int)<16)∧t.size≤60000:=⟨by decide,by omega⟩
 have hR:dF (aB t)=dF (aB A)++(dF (aB B)).map (lh k):=by
  rw[hL];unfold dF;rw[List.filterMap_append];congr 1;exact Ci k (aB B)
 have hF:dI 2 (aB t)=dI 2 (aB A)++(dI 2 (aB B)).map (nK k):=by
  rw[hL];unfold dI;rw[List.filterMap_append];congr 1;exact A4 2 k (aB B)
 have hSt:∀r∈dF (aB t),yS r.s:=fun r h=>(ua h).2;have hSl:=ta t;have hBl:∀r∈dF (aB B),0≤r.line∧r.line≤1000000:=fun r h=>by have:=(ua h).1;omega
 have hBf:∀r∈dI 2 (aB B),0≤r.line∧r.line≤1000000:=fun r h=>by have:=A5 h;omega
 have hAl:=ta A;have hBn:=ta B;have hFl:=GV 2 t;have oA:Cx 2 A=.tup [lG (dF (aB A)),rk (dI 2 (aB A)),.l (.v (.int .i64 0))]:=rfl;have oB:Cx 2 B=.tup [lG (dF (aB B)),rk (dI 2 (aB B)),.l (.v (.int .i64 0))]:=rfl;have oT:Cx 2 t=.tup [lG (dF (aB t)),rk (dI 2 (aB t)),.l (.v (.int .i64 0))]:=rfl;rw[hR]at oT hSt hSl;rw[hF]at oT hFl;obtain⟨R1,hR1⟩:∃R,dF (aB A)=R:=⟨_,rfl⟩;obtain⟨R2,hR2⟩:∃R,dF (aB B)=R:=⟨_,rfl⟩;obtain⟨F1,hF1⟩:∃R,dI 2 (aB A)=R:=⟨_,rfl⟩;obtain⟨F2,hF2⟩:∃R,dI 2 (aB B)=R:=⟨_,rfl⟩;rw[hR1]at oA oT hSt hSl hAl;rw[hR2]at oB oT hSt hSl hBl hBn;rw[hF1]at oA oT hFl;rw[hF2]at oB oT hFl hBf;obtain⟨FF,hFF⟩:∃F,F1++F2.map (nK k)=F:=⟨_,rfl⟩;have hFFl:FF.length=F1.length+F2.length:=by rw[←hFF,List.length_append,List.length_map]
 rw[hFF]at oT hFl;have w2:IntKind.i64.wrap ((F1.length:Int)+(F2.length:Int))=(FF.length:Int):=by rw[IntKind.wrap_i64];omega
 obtain⟨RA,hRA,rA⟩:=zP R1;obtain⟨RB,hRB,rB⟩:=zP R2;obtain⟨RT,hRT,rT⟩:=zP (R1++R2.map (lh k));rw[hRA]at oA;rw[hRB]at oB;rw[hRT]at oT;simp only[go_sem,hl,w1,q1,hC,hw,hkI,q2,q3,q4,oA,oB,oT,rk,w2,bne_self_eq_false,Bool.and_false];refine⟨zr (by omega),?_⟩;refine bF (ι:=Nat) (fun i=>i≤FF.length) (fun i=>⟨0,[(8,.s (.l RA)),(11,.s (.l RB)),(14,.s (.l RT)),(7,iv k),(9,Mg.enc F1),(12,Mg.enc F2),(82,Mg.enc FF),(83,iv FF.length),(84,iv i)],[]⟩) (fun i=>FF.length-i) 0 (Nat.zero_le _) (Wk.renL [] (by simp) (by simp) (by simp) (wX (congrArg (fun x=>AV.s (.l x)) (rA _).symm) (congrArg (fun x=>AV.s (.l x)) (rB _).symm) (congrArg (fun x=>AV.s (.l x)) (rT _).symm) rfl) rfl) ?_;intro i hi;refine aw [] ?_;by_cases hlt:i<FF.length
 ·have hltI:(i:Int)<FF.length:=by omega
  obtain⟨y,hy⟩:∃y,FF[i]? = some y:=⟨_,List.getElem?_eq_getElem hlt⟩;have ei:=wI i;by_cases hc:i<F1.length
  ·have hcI:(i:Int)<F1.length:=by omega
   have h1:F1[i]? = some y:=by rw[←hFF,List.getElem?_append_left hc]at hy;exact hy
   simp only[go_sem,hltI,hlt,hy,hcI,hc,h1,Qn,↓Fs,ei];exact⟨i+1,hlt,by omega,Wk.renL [] (by simp) (by simp) (by simp) (wX (congrArg (fun x=>AV.s (.l x)) (rA _).symm) (congrArg (fun x=>AV.s (.l x)) (rB _).symm) (congrArg (fun x=>AV.s (.l x)) (rT _).symm) rfl) rfl⟩
  ·have hcI:¬(i:Int)<F1.length:=by omega
   have h1:(F2.map (nK k))[i-F1.length]? = some y:=by rw[←hFF,List.getElem?_append_right (by omega)]at hy;exact hy
   rw[List.getElem?_map,Option.map_eq_some_iff]at h1;obtain⟨z,hz2,rfl⟩:=h1;have hzl:=hBf z (List.mem_of_getElem? hz2);have w3:IntKind.i64.wrap ((i:Int)-(F1.length:Int))=((i-F1.length:Nat):Int):=by rw[IntKind.wrap_i64];omega
   have w4:IntKind.i64.wrap (z.line+(k:Int))=z.line+k:=by rw[IntKind.wrap_i64];omega
   have hlt2:i-F1.length<F2.length:=by omega
   have hlt3:((i-F1.length:Nat):Int)<F2.length:=by omega
   have hE:=@Fs (.tmp 110) (.tmp 111) (nK k z) (nK k z);simp only[nK]at hE;simp only[go_sem,hltI,hlt,hy,hcI,hlt2,hlt3,hz2,Qn,nK,w3,w4,↓hE,ei];exact⟨i+1,hlt,by omega,Wk.renL [] (by simp) (by simp) (by simp) (wX (congrArg (fun x=>AV.s (.l x)) (rA _).symm) (congrArg (fun x=>AV.s (.l x)) (rB _).symm) (congrArg (fun x=>AV.s (.l x)) (rT _).symm) rfl) rfl⟩
 ·obtain rfl:i=FF.length:=by omega
  have hI:¬(FF.length:Int)<FF.length:=by omega
  obtain⟨S2,hS2⟩:∃S2,R2.map (lh k)=S2:=⟨_,rfl⟩;have hS2l:S2.length=R2.length:=by rw[←hS2,List.length_map]
  rw[hS2]at hSl hSt hRT;have hql:(R1++S2).length≤1000000:=by omega
  by_cases h1:R1=[]
  ·subst h1;obtain rfl:=pL hRA;by_cases h2:R2=[]
   ·subst h2;obtain rfl:[]=S2:=hS2;obtain rfl:=pL hRB;obtain rfl:=pL hRT;simp only[go_sem,hI,mo,mm,wC,ur,rZ,rY];exact Nat.zero_le _
   ·obtain rfl:=jt h2 hRB;have h3:¬S2=[]:=fun h=>h2 (by rw[h]at hS2l;exact List.eq_nil_of_length_eq_zero hS2l.symm);rw[List.nil_append]at hRT hSt hql;obtain rfl:=jt h3 hRT;have hq:FQ R2 k:=⟨⟨h2,by omega⟩,⟨by omega,by omega⟩,hBl⟩;have hm:S2.length≤maxLen:=zr (by omega);have hb:S2.length*160≤140737488355328:=by omega
    simp only[go_sem,hI,mo,mm,wC,zQ,ur,rZ,rY,Co,hq,hS2,eg,←hS2l,hm,hb];exact⟨hSt,hql⟩
  ·obtain rfl:=jt h1 hRA;have hq1:Fj R1:=⟨h1,by omega⟩;by_cases h2:R2=[]
   ·subst h2;obtain rfl:[]=S2:=hS2;obtain rfl:=pL hRB;rw[List.append_nil]at hRT hSt hql;obtain rfl:=jt h1 hRT;simp only[go_sem,hI,mo,mm,wC,zQ,ur,rZ,rY,Co,hq1,eg];exact⟨⟨zr (by omega),by omega⟩,hSt,hql⟩
   ·obtain rfl:=jt h2 hRB;have h3:¬S2=[]:=fun h=>h2 (by rw[h]at hS2l;exact List.eq_nil_of_length_eq_zero hS2l.symm);have hq:FQ R2 k:=⟨⟨h2,by omega⟩,⟨by omega,by omega⟩,hBl⟩;obtain⟨M,hM⟩:∃M,R1++S2=M:=⟨_,rfl⟩;have hMl:R1.length+S2.length=M.length:=by rw[←hM,List.length_append]
    have hM0:¬M=[]:=fun h=>h1 (by rw[←hM]at h;exact(List.append_eq_nil_iff.1 h).1);rw[hM]at hRT hSt hql;obtain rfl:=jt hM0 hRT;have hE:((R1.map rwR.enc).map bp)++((S2.map rwR.enc).map bp)=(M.map rwR.enc).map bp:=by rw[←hM,List.map_append,List.map_append]
    have hm:M.length≤maxLen:=zr (by omega);have hb:M.length*160≤140737488355328:=by omega
    simp only[go_sem,hI,mo,mm,wC,zQ,ur,rZ,rY,Co,hq1,hq,hS2,eg,←hS2l,hm,hb,hMl,hE];exact⟨hSt,hql⟩
section
open Go.ChangeShapes Go.WideShapes Go.ChangeAt Go.RowKit Go.Joins
theorem lawSourceCut.lifted (os:Os)(started:os.Started)(H:Type)(enc:TypeId×Value→H) :
  ReturnsInHanded {} Tryz.checked os 3 .any (fun w args=>(Rows.sourceCutSpec.pre enc prog f3 [] false w args∧laidMetH prog rC w)∧sizedMet enc prog f3 (OpenSpec.ofChange Rows.sourceCutSpec) false w args)
   (Rows.sourceCutSpec.post enc prog f3 false true false false):=by
 refine returnsInHanded_of_change_and (C:=Tryz.checked) (X:=fun w _=>laidMetH prog rC w) (fun _ _ _ hh h=>h.of_heap hh) Qx started (by kernel_rfl) func3
  (ChangeSpec.witness_shaped (enc:=enc) (C:=Tryz.checked) (os:=os) (X:=fun w _=>laidMetH prog rC w) false (World.laidAll prog os rC) #[.string ⟨#[]⟩,.int .u8 0] 8 (World.laidAll_os _ _ _)
   (World.shaped_of_ZipB (by kernel_rfl) (by kernel_rfl)) (by kernel_rfl) (by kernel_rfl) (by kernel_rfl)
   (by rw[MakeChecks.laidMetH_plain _ _ _ (by kernel_rfl)];exact laidMet_laidAll _ (by kernel_rfl) (by kernel_rfl))) ?_
 intro W base args ds gs before hval0 hW _ hsz0 hL _;have hval:∀(j:Nat) t v,f3.params[j]? = some t→args[j]? = some v→Value.okWide prog W .any base t v:=hval0;have hW':=hW;obtain⟨p,q,hA0,hV,rfl,hfz,hnd⟩:=hW;have hA:DataW.TrodAll enc prog W 0 (fun _=>true) true f3.params.toList args.toList ds p:=hA0;have hsz:(DataW.weightsEach prog (f3.params.toList++Rows.sourceCutSpec.plain.varTypes prog) (ds++gs)).all (·≤reachBytes)=true:=hsz0;rw[params3]at hA hval hsz;obtain⟨v0,vs0,d0,ds0,p0,q0,hargs,rfl,rfl,h0,r0⟩:=trodAll_cons hA;obtain⟨v1,vs1,d1,ds1,p1,q1,rfl,rfl,rfl,h1,r1⟩:=trodAll_cons r0;obtain⟨rfl,rfl,rfl⟩:=trodAll_nil r1;obtain rfl:args = #[v0,v1]:=by cases args;simp_all
 obtain⟨rfl,rfl⟩:=trodVars_none hV;have k0:=h0;have lt0:∀x∈p0,x.block<W.heap.size:=by obtain⟨m,hm⟩:=k0;exact DataW.trod_lt m _ _ _ hm
 have k1:=h1;have lt1:∀x∈p1,x.block<W.heap.size:=by obtain⟨m,hm⟩:=k1;exact DataW.trod_lt m _ _ _ hm
 obtain⟨s0,rfl,rfl,_,ws0⟩:=Go.ChangeMaps.open_string Tryz.underlying9 (hval 0 9 v0 rfl rfl) h0;obtain⟨x1,rfl,rfl,_,wx1⟩:=open_int Tryz.underlying5 (hval 1 5 v1 rfl rfl) h1;clear hA0 hval0 hsz0;have hG:=A9 hL
 have hC:Calls prog 3 #[.string s0,.int .u8 x1] W fun e w'=>e=.returned (.bool true)∧Below W.heap.size W w' :=
  Hd (xs:=[aT.enc s0,(bq .u8).enc x1]) (vals:=[.string s0,.int .u8 x1]) func3 rfl hG ⟨rfl,rfl,trivial⟩ (by rw[ntmps3];show 2≤_;decide) (RC s0 x1 (Mo wx1))
 refine hC.mono fun e W' ⟨he,bel⟩=>?_;subst he;exact⟨_,rfl,_,_,_,[],_,[],hW',trodAll_mk1 (shut_bool Tryz.underlying4 _),(trodAll_cons_mk (Below.trod FA (by kernel_rfl) (of_decide_eq_true (by kernel_rfl)) k0 bel lt0) (trodAll_cons_mk (Below.trod FA (by kernel_rfl) (of_decide_eq_true (by kernel_rfl)) k1 bel lt1) trodAll_mk0)),rfl,bel.frame _,fun h=>by cases h⟩
theorem OK:Rows.SourceCutSaid :=
 OpenClaim.holds_of_wide 3 f3 rfl rfl rfl rfl rfl rfl rfl ⟨rfl,rfl,rfl,rfl,rfl⟩ rfl rfl rfl rfl rfl (by kernel_rfl) func3 (by kernel_rfl)
  (of_decide_eq_true (by kernel_rfl)) (by unfold Func.isWrapper;first | (rw[if_pos (by decide +kernel)];kernel_rfl) | (rw[if_neg (by decide +kernel)];exact⟨rfl,rfl⟩))
  (fun os started H enc _=>lawSourceCut.lifted os started H enc)
theorem scl_holds:Rows.SourceCutCardSaid :=
 Claim7.holds_tied_plain_at .later [] _ _ _ _
  OK (fun _ h=>by cases h) (by kernel_rfl) (fun _ h=>by cases h) sourceCut_row_tie rfl ⟨rfl,rfl⟩ (by kernel_rfl) rfl
  (fun f fn hf hfn=>by
   obtain rfl:f=3:=Option.some.inj ((show Tryz.prog.funcNamed "cooper/cooperlaw13.SourceCut" = some 3 by kernel_rfl).symm.trans hf) |>.symm
   obtain rfl:fn=f3:=(Option.some.inj (func3.symm.trans hfn)).symm
   exact⟨by kernel_rfl,fun j t ht=>by
    rw[params3]at ht;have hm:t∈[9,5]:=by simpa using Array.mem_of_getElem? ht
    have hall:([9,5].all fun u=>!Tryz.prog.wantsStandIn u)=true:=by kernel_rfl
    exact(show Tryz.prog.wantsStandIn t=false by simpa using List.all_eq_true.1 hall t hm)⟩)
  (by kernel_rfl)
#print axioms scl_holds
end
end Go.Proofs.YtnhbidpdadkcjaaGreatDoor
