import Derived.Test.YtnhbidpdadkcjaaGreatDoorG12
import Derived.Test.YtnhbidpdadkcjaaGreatDoorG20
import Derived.Deep.RegionHeld3
import Derived.Deep.DrawnRows
import Derived.Deep.RegionWith
import Derived.Deep.DeepCutAuto
import Derived.WalkSmall
set_option linter.unusedVariables false
set_option linter.unusedSimpArgs false
set_option maxRecDepth 100000
set_option maxHeartbeats 8000000
open List (getElem?_eq_getElem mem_of_getElem? length_take length_append)
open Nat (add_sub_cancel min_eq_left)
namespace Go.Proofs.YtnhbidpdadkcjaaGreatDoor
open Tryz
open Go.RowKit
def OpV.val (o:OpV):Val:=⟨o.add,o.plus,o.minus⟩
def prO (o:OpV):ByteArray×Int:=Ex.printF o.val
def qf (o:OpV):Bool:=decide (o.plus=emp)&&decide (o.minus=emp)
def kH (o:OpV):OpV :=
 if o.kind=1 then⟨o.kind,o.r,r0,o.md,o.amt,0,0,emp,emp,false,0⟩
 else if o.kind=2 then(if o.lo=true then⟨o.kind,r0,r0,0,0,0,o.add,o.plus,o.minus,o.lo,0⟩ else⟨o.kind,r0,r0,o.md,o.amt,0,o.add,o.plus,o.minus,o.lo,0⟩)
 else if o.kind=3 then⟨o.kind,r0,r0,0,0,0,o.add,o.plus,o.minus,false,0⟩
 else if o.kind=5 then(if o.mode=0 then⟨o.kind,o.r,r0,0,0,0,o.add,o.plus,o.minus,o.lo,o.mode⟩ else if o.mode=3 then⟨o.kind,o.r,o.m,o.md,o.amt,0,0,emp,emp,false,o.mode⟩ else⟨o.kind,o.r,r0,0,0,0,o.add,o.plus,o.minus,false,o.mode⟩)
 else if o.kind=4∨o.kind=6∨o.kind=7∨o.kind=8∨o.kind=9 then⟨o.kind,r0,r0,0,0,o.n,0,emp,emp,false,0⟩
 else⟨o.kind,r0,r0,0,0,0,0,emp,emp,false,0⟩
def lc (r:gO):Bool:=decide ((aH r).2=0)
def ez (o:OpV)(most:Int):Bool:=decide (0≤o.md∧o.md≤most∧0≤o.amt∧o.amt≤63∧(0<o.md∨o.amt=0))
def dy (o:OpV):Bool:=if lc o.m=false∨o.m.sp=true∨o.amt < -1∨63<o.amt then false else if o.md=1∨o.md=12 then o.m.x else if o.md=7∨o.md=11 then !o.m.x else false
def fe (o:OpV):Bool:=lc o.r&&o.r.x&&((o.r.n==31)==o.r.sp)&&decide (0≤o.mode)&&decide (o.mode≤3)&&(decide (¬o.mode=3)||dy o)
def kR (k:Int):Int:=if k=6 then 32767 else if k=8 then 31 else if k=9 then 5 else 15
def kh (o:OpV):Bool :=
 if ¬kH o=o then false
 else if o.kind=1 then lc o.r&&ez o 12
 else if o.kind=2 then ez o 1
 else if o.kind=3 then true
 else if o.kind=4∨o.kind=6∨o.kind=7∨o.kind=8∨o.kind=9 then decide (0≤o.n)&&decide (o.n≤kR o.kind)
 else if o.kind=5 then fe o
 else false
def gT (o:OpV):Int :=
 if kh o=false then 100
 else if ¬(prO o).2=0 then(prO o).2
 else if o.kind=3∧¬o.plus=emp∧ke 3 o.plus=true then 100
 else 0
def eO:ByteArray:=⟨#[44,32]⟩
def cL:ByteArray:=⟨#[35]⟩
def zT:ByteArray:=⟨#[32,35]⟩
def FE:ByteArray:=⟨#[58,108,111,49,50,58]⟩
def brS:ByteArray:=⟨#[91]⟩
def ekS:ByteArray:=⟨#[93]⟩
def NL:ByteArray:=⟨#[93,33]⟩
def NM:ByteArray:=⟨#[93,44,32]⟩
def mR (o:OpV):ByteArray:=(prO o).1
def lC (o:OpV):ByteArray:=if o.lo=true then FE++mR o else cL++mR o
def oH (n:Int):ByteArray:=Ex.decS n.toNat
def kQ (o:OpV)(silent:Bool):ByteArray:=if o.md=0 then emp else if silent=true then eO++(aK 3 o.md).1 else eO++(aK 3 o.md).1++zT++oH o.amt
def fj (r:gO):ByteArray:=(aH r).1
def gd (kd n:Int):ByteArray:=if(aK kd n).2=0 then(aK kd n).1 else cL++oH n
def jd (o:OpV):ByteArray :=
 if o.mode=1 then brS++fj o.r++eO++lC o++NL
 else if o.mode=2 then brS++fj o.r++NM++lC o
 else if o.mode=3 then(if o.md=1∧o.amt = -1 then brS++fj o.r++eO++fj o.m++ekS else brS++fj o.r++eO++fj o.m++kQ o (o.amt == -1)++ekS)
 else if(o.add=0∧o.plus=emp∧o.minus=emp)∧o.lo=false then brS++fj o.r++ekS
 else brS++fj o.r++eO++lC o++ekS
def bG (o:OpV):ByteArray :=
 if o.kind=1 then fj o.r++kQ o (decide (5≤o.md)&&decide (o.amt=0))
 else if o.kind=2 then lC o++kQ o false
 else if o.kind=3 then(if qf o=true then cL++mR o else mR o)
 else if o.kind=4 then gd 2 o.n
 else if o.kind=6 then gd 6 o.n
 else if o.kind=7 then gd 4 o.n
 else if o.kind=8 then gd 7 o.n
 else if o.kind=9 then gd 8 o.n
 else jd o
def PG (z:Int):OpV:=⟨2,r0,r0,0,0,0,z,emp,emp,false,0⟩
def j6 (o:OpV):OpV :=
 if ¬gT o=0 then o
 else if o.kind=3 then(if qf o=true then⟨2,r0,r0,0,0,0,o.add,o.plus,o.minus,false,0⟩ else o)
 else if o.kind=7 then(if ¬(aK 4 o.n).2=0 then PG o.n else o)
 else if o.kind=8 then(if ¬(aK 7 o.n).2=0 then PG o.n else o)
 else if o.kind=9 then(if(ai 3 6 (bG o)).2=0 then⟨6,r0,r0,0,0,(ai 3 6 (bG o)).1,0,emp,emp,false,0⟩ else o)
 else o
namespace Ex
attribute [local go_sem ↓] Go.wp_at_zero Go.wp_at_succ
theorem FH (a:Int)(p m:ByteArray)(w:World) :
  Calls prog 256 #[.agg #[.int .i64 a,.string p,.string m]] w fun e w'=>e=.returned (.agg #[.int .i64 (wrap64 (-a)),.string m,.string p])∧∃o1 o2,w'=(w.alloc o1).alloc o2:=by
 go_enter func256,ntmps256;go_wp2;exact bodyPost_ret (v:=.agg #[.int .i64 (wrap64 (-a)),.string m,.string p]) (by simp[results,results256,go_sem]) rfl ⟨rfl,_,_,rfl⟩
theorem xJ (a:Int)(p m:ByteArray)(w:World) :
  Calls prog 272 #[.agg #[.int .i64 a,.string p,.string m]] w fun e w'=>∃r o1 o2,Hid (bj ⟨a,p,m⟩=r)∧e=.returned (.agg #[.int .i64 r.add,.string r.plus,.string r.minus])∧w'=(w.alloc o1).alloc o2:=by
 by_cases h:p=m
 ·subst h;go_enter func272,ntmps272;go_wp2;exact bodyPost_ret (v:=.agg #[.int .i64 a,.string emp,.string emp]) (by simp[results,results272,go_sem,emp]) rfl ⟨⟨a,emp,emp⟩,_,_,show bj _=_ by simp[bj],rfl,rfl⟩
 ·have h':(p.toList==m.toList)=false:=by simpa[za] using h
  go_enter func272,ntmps272;go_wp2;exact bodyPost_ret (v:=.agg #[.int .i64 a,.string p,.string m]) (by simp[results,results272,go_sem]) rfl ⟨⟨a,p,m⟩,_,_,show bj _=_ by simp[bj,h],rfl,rfl⟩
theorem Hm (b1 o1 b2 o2:Nat)(s t:ByteArray)(w:World)(hs:w.cell? ⟨b1,o1,none⟩=some (.string s))(ht:w.cell? ⟨b2,o2,none⟩=some (.string t))(fs:w.frozen? ⟨b1,o1,none⟩=false)(ft:w.frozen? ⟨b2,o2,none⟩=false)(hne:¬b1=b2)(h:(s.toList==t.toList)=true) :
  Calls prog 273 #[.pointer (some ⟨b1,o1,none⟩),.pointer (some ⟨b2,o2,none⟩)] w fun e w'=>e=.returned (.tuple #[])∧w'=((w.setCell ⟨b1,o1,none⟩ (.string ⟨#[]⟩)).setCell ⟨b2,o2,none⟩ (.string ⟨#[]⟩)).drew:=by
 go_enter func273,ntmps273;go_wp2
 go_region
 all_goals go_wp2
 all_goals (go_end0;exact⟨rfl,rfl⟩)
theorem DZ (b1 o1 b2 o2:Nat)(s t:ByteArray)(w:World)(hs:w.cell? ⟨b1,o1,none⟩=some (.string s))(ht:w.cell? ⟨b2,o2,none⟩=some (.string t))(h:(s.toList==t.toList)=false) :
  Calls prog 273 #[.pointer (some ⟨b1,o1,none⟩),.pointer (some ⟨b2,o2,none⟩)] w fun e w'=>e=.returned (.tuple #[])∧w'=w.drew:=by
 go_enter func273,ntmps273;go_wp2
 go_region
 all_goals go_wp2
 all_goals (go_end0;exact⟨rfl,rfl⟩)
theorem Bt (b1 o1 b2 o2:Nat)(s t:ByteArray)(w:World)(hs:w.cell? ⟨b1,o1,none⟩=some (.string s))(ht:w.cell? ⟨b2,o2,none⟩=some (.string t))(fs:w.frozen? ⟨b1,o1,none⟩=false)(ft:w.frozen? ⟨b2,o2,none⟩=false)(hne:¬b1=b2) :
  Calls prog 273 #[.pointer (some ⟨b1,o1,none⟩),.pointer (some ⟨b2,o2,none⟩)] w fun e w'=>∃s' t',Hid (dB s t=(s',t'))∧e=.returned (.tuple #[])∧w'=((w.setCell ⟨b1,o1,none⟩ (.string s')).setCell ⟨b2,o2,none⟩ (.string t')).drew:=by
 by_cases h:s=t
 ·refine(Hm b1 o1 b2 o2 s t w hs ht fs ft hne (by simp[h])).mono ?_;rintro e w' ⟨rfl,rfl⟩;exact⟨_,_,show dB _ _=(emp,emp) by simp[dB,h],rfl,rfl⟩
 ·refine(DZ b1 o1 b2 o2 s t w hs ht (by simpa[za] using h)).mono ?_;rintro e w' ⟨rfl,rfl⟩;refine⟨s,t,show dB _ _=_ by simp[dB,h],rfl,?_⟩;rw[rX hs,rX ht]
def AddPost (A B:Val)(w:World)(e:Ending)(w':World):Prop :=
 ∃r x o1 o2 o3 o4 o5 o6 o7,qT A B=(r,x)∧e=.returned (.tuple #[.agg #[.int .i64 r.add,.string r.plus,.string r.minus],.int .i64 x])∧w'=(((((((w.alloc o1).alloc o2).alloc o3).alloc o4).alloc o5).alloc o6).alloc o7).drew.drew.drew
theorem AddPost.mk {A B:Val}{w:World}{a:Int}{p m:ByteArray}{x:Int}{o1 o2 o3 o4 o5 o6 o7:Obj}(h:qT A B=(⟨a,p,m⟩,x)) :
  AddPost A B w (.returned (.tuple #[.agg #[.int .i64 a,.string p,.string m],.int .i64 x])) (((((((w.alloc o1).alloc o2).alloc o3).alloc o4).alloc o5).alloc o6).alloc o7).drew.drew.drew:=⟨_,_,_,_,_,_,_,_,_,h,rfl,rfl⟩
theorem Fi (a:Int)(p m:ByteArray)(b:Int)(q n:ByteArray)(w:World)(hp:p.size≤140737488355328)(hm:m.size≤140737488355328)(hq:q.size≤140737488355328)(hn:n.size≤140737488355328) :
  Calls prog 257 #[.agg #[.int .i64 a,.string p,.string m],.agg #[.int .i64 b,.string q,.string n]] w (AddPost ⟨a,p,m⟩ ⟨b,q,n⟩ w):=by
 go_enter func257,ntmps257
 go_upto_region 1 with fail
 go_cut [] (fun wx=>∃r1 r2 o1 o2 o3 o4,Hid (bj ⟨a,p,m⟩=r1)∧Hid (bj ⟨b,q,n⟩=r2)∧wx=(((((((w.alloc (.cells #[.int .i64 r1.add,.string r1.plus,.string r1.minus] 75)).alloc (.cells #[.int .i64 r2.add,.string r2.plus,.string r2.minus] 75)).alloc (.cells #[.int .i64 0,.string ⟨#[]⟩,.string ⟨#[]⟩] 75)).alloc o1).alloc o2).alloc o3).alloc o4).drew)
 case first =>
  go_region_with (first | (go_at_call_of 272 a;refine(xJ _ _ _ _).mono ?_;rintro e w1 ⟨r1,o1,o2,hr1,rfl,rfl⟩) | (go_at_call_of 272 b;refine(xJ _ _ _ _).mono ?_;rintro e w1 ⟨r2,o3,o4,hr2,rfl,rfl⟩))
  all_goals (go_wp2_with fail;go_meet;exact⟨r1,r2,o1,o2,o3,o4,hr1,hr2,rfl⟩)
 case rest =>
  obtain⟨r1,r2,o1,o2,o3,o4,hr1,hr2,rfl⟩:=hcut;obtain⟨s1,s2⟩:=ov hr1.out hp hm;obtain⟨s3,s4⟩:=ov hr2.out hq hn;clear hp hm hq hn
  go_wp2_with fail
  refine(Bt _ _ _ _ _ _ _ (by simp[go_sem];rfl) (by simp[go_sem];rfl) (by simp[go_sem]) (by simp[go_sem]) (by simp)).mono ?_;rintro e w1 ⟨p1,m2,h1,rfl,rfl⟩
  go_wp2_with fail
  refine(Bt _ _ _ _ _ _ _ (by simp[go_sem];rfl) (by simp[go_sem];rfl) (by simp[go_sem]) (by simp[go_sem]) (by simp)).mono ?_;rintro e w1 ⟨m1,p2,h2,rfl,rfl⟩;obtain⟨s5,s6⟩:=nl h1.out s1 s4;obtain⟨s7,s8⟩:=nl h2.out s2 s3;clear s1 s2 s3 s4;go_wp2
  all_goals first
   |(
    refine bodyPost_ret (v:=.tuple #[.agg #[.int .i64 0,.string ⟨#[]⟩,.string ⟨#[]⟩],.int .i64 91]) ?_ rfl (AddPost.mk (Jz hr1.out hr2.out h1.out h2.out ?_))
    ·simp[results,results257,go_sem];done
    ·simp_all;done)
   |(
    refine bodyPost_ret (v:=.tuple #[.agg #[.int .i64 (wrap64 (r1.add+r2.add)),.string (p1++p2),.string (m1++m2)],.int .i64 0]) ?_ rfl (AddPost.mk (Ng hr1.out hr2.out h1.out h2.out ?_ ?_))
    ·simp[results,results257,go_sem]
    ·simp_all
    ·simp_all)
end Ex
namespace Ex
theorem tn (k:Int)(w:World) :
  Calls prog 238 #[.int .i64 k] w fun e w'=>e=.returned (.int .i64 (aX k))∧w=w':=by
 go_enter func238,ntmps238;go_wp2
 all_goals (go_ret;refine⟨nF ?_,rfl⟩;unfold aX;(repeat' split)<;>simp_all<;>omega)
theorem Mk (k n:Int)(s:ByteArray)(w:World)(hs:s.size≤maxLen) :
  Calls prog 271 #[.agg #[.int .i64 k,.int .i64 n,.string s]] w fun e w'=>e=.returned (.bool (i7 ⟨k,n,s⟩))∧∃o,w'=w.alloc o:=by
 go_enter func271,ntmps271
 go_wp2_with (first
  |(go_at_call 122;refine(aG _ _ hs).mono ?_;rintro e w' ⟨rfl,rfl⟩)
  |(go_at_call 238;refine(tn _ _).mono ?_;rintro e w' ⟨rfl,rfl⟩))
 all_goals (go_ret;refine⟨eJ ?_,_,rfl⟩;rw[Bool.eq_iff_iff];simp_all [i7,tM];try omega)
def Terms (w:World)(B:Nat)(A:Option Addr)(ts:List Term):Prop:=SL w B 3 A ts.length (ts.flatMap Term.cells)
theorem Terms.cells_at {w:World}{B:Nat}{b off:Nat}{ts:List Term}(h:Terms w B (some ⟨b,off,none⟩) ts){k:Nat}{t:Term}(hk:ts[k]? = some t) :
  b<B∧w.cell? ⟨b,off+k*3,none⟩=some (.int .i64 t.kind)∧w.cell? ⟨b,off+k*3+1,none⟩=some (.int .i64 t.n)∧w.cell? ⟨b,off+k*3+2,none⟩=some (.string t.sym):=by
 have hl:k<ts.length:=(List.getElem?_eq_some_iff.1 hk).1;obtain⟨b',off',e,hb,hc⟩:=h.2 (by omega);injection e with e;injection e with e1 e2;subst e1;subst e2;have g:=fun j hj=>vw Term.cells 3 (fun _=>rfl) ts k t j hk hj;refine⟨hb,?_,?_,?_⟩
 ·have:=hc (k*3+0) _ ((g 0 (by omega)).trans rfl);simpa using this
 ·have:=hc (k*3+1) _ ((g 1 (by omega)).trans rfl);simpa[Nat.add_assoc] using this
 ·have:=hc (k*3+2) _ ((g 2 (by omega)).trans rfl);simpa[Nat.add_assoc] using this
theorem A6 (A:Option Addr)(cap:Nat)(ts:List Term)(w:World)(hT:Terms w w.heap.size A ts)(hl:ts.length≤maxLen)(hsz:∀t∈ts,t.sym.size≤maxLen) :
  Calls prog 255 #[.slice A ts.length cap] w fun e w'=>e=.returned (.int .i64 (cW 0 ts))∧Below w.heap.size w w':=by
 unfold maxLen at hl;have HT:=Lib.hid hT;have HZ:=Lib.hid hsz;clear hT hsz;go_enter func255,ntmps255
 go_wp2_with fail
 go_loopw [3,9] (fun hv i wr=>∃(k:Nat) (h:Int),k≤ts.length∧0≤h∧h≤k∧i=.int .i64 k∧hv=.int .i64 h∧Hid (cW h (ts.drop k)=cW 0 ts)∧Below w.heap.size w wr) (fun _ i _=>ts.length-(intOf i).toNat)
 case atStart=>exact⟨0,0,Nat.zero_le _,by omega,by omega,rfl,rfl,show _=_ by simp,Below.refl _ _⟩
 case round =>
  obtain⟨k,h,hk,h0,h1,rfl,rfl,hr,hb⟩:=hrel;by_cases hlt:k<ts.length
  ·obtain⟨t,ht⟩:∃t,ts[k]? = some t:=⟨_,getElem?_eq_getElem hlt⟩;have Ht:=Lib.hid ht;have hz:=HZ.out t (mem_of_getElem? ht);have hd:Hid (ts.drop k=t::ts.drop (k+1)):=show _=_ by rw[List.drop_eq_getElem_cons hlt];congr 1;rw[getElem?_eq_getElem hlt]at ht;injection ht
   clear ht;obtain⟨b,off,rfl,_,_⟩:=HT.out.2 (by omega);obtain⟨hbb,c0,c1,c2⟩:=Terms.cells_at (SL.below HT.out hb) Ht.out;have tb:=tk t.kind;have hbs:=hb.size
   go_wp2_with (first
    |(go_at_call 238;refine(tn _ _).mono ?_;rintro e w' ⟨rfl,rfl⟩)
    |(go_at_call 271;refine(Mk _ _ _ _ hz).mono ?_;rintro e w' ⟨rfl,o,rfl⟩))
   ·go_ret;exact⟨nF (by have e:=hr.out;rw[hd.out,cW,if_pos (Or.inr ‹_›)]at e;exact e),blw⟩
   ·go_roundw
    case rel=>exact⟨k+1,_,by omega,by omega,by omega,by go_num,rfl,show _=_ by rw[←hr.out,hd.out,cW,if_neg (by simp_all)],blw⟩
    case measure=>simp[intOf];omega
   ·go_ret;exact⟨nF (by have e:=hr.out;rw[hd.out,cW,if_pos (Or.inl (by simp_all))]at e;exact e),blw⟩
  ·have hd:Hid (ts.drop k=[]):=show _=_ by rw[List.drop_eq_nil_of_le (by omega)]
   by_cases hh:h=1
   ·subst hh;have e:Hid (cW 0 ts=0):=show _=_ by rw[←hr.out,hd.out,cW,if_pos rfl]
    go_wp2_with fail
    go_ret;exact⟨nF e.out.symm,hb⟩
   ·have e:Hid (cW 0 ts=90):=show _=_ by rw[←hr.out,hd.out,cW,if_neg hh]
    have hne:(h !=1)=true:=by simpa using hh
    go_wp2_with fail
    go_ret;exact⟨nF e.out.symm,hb⟩
theorem sG (A:Option Addr)(cap:Nat)(ts:List Term)(w:World)(hT:Terms w w.heap.size A ts)(hl:ts.length≤maxLen)(hsz:∀t∈ts,t.sym.size≤maxLen) :
  Calls prog 254 #[.slice A ts.length cap] w fun e w'=>e=.returned (.int .i64 (if cW 0 ts=0 then 93 else cW 0 ts))∧Below w.heap.size w w':=by
 have HF:=Lib.hid (A6 A cap ts w hT hl hsz);clear hT hl hsz;generalize cW 0 ts=x at *
 by_cases hx:x=0
 ·subst hx;rw[if_pos rfl];go_enter func254,ntmps254
  go_wp2_with fail
  refine(HF.out).mono ?_;rintro e w1 ⟨rfl,hb⟩
  go_wp2_with fail
  go_ret;exact⟨rfl,hb⟩
 ·rw[if_neg hx];have hne:(x !=0)=true:=by simpa using hx
  go_enter func254,ntmps254
  go_wp2_with fail
  refine(HF.out).mono ?_;rintro e w1 ⟨rfl,hb⟩
  go_wp2_with fail
  go_ret;exact⟨rfl,hb⟩
theorem Gx (A:Option Addr)(cap:Nat)(ts:List Term)(w:World)(hT:Terms w w.heap.size A ts)(hl:ts.length≤maxLen)(hsz:∀t∈ts,t.sym.size≤maxLen) :
  Calls prog 237 #[.slice A ts.length cap] w fun e w'=>e=.returned (.int .i64 (fJ ts))∧Below w.heap.size w w':=by
 have HF:=Lib.hid (A6 A cap ts w hT hl hsz);have HL:=Lib.hid (sG A cap ts w hT hl hsz);clear hT hl hsz;by_cases h:256<ts.length
 ·have h':(256:Int)<ts.length:=by omega
  have hc:fJ ts=(if cW 0 ts=0 then 93 else cW 0 ts):=by rw[fJ,if_pos h]
  rw[hc];generalize (if cW 0 ts=0 then 93 else cW 0 ts)=x at *
  go_enter func237,ntmps237
  go_wp2_with fail
  refine(HL.out).mono ?_;rintro e w1 ⟨rfl,hb⟩
  go_wp2_with fail
  go_ret;exact⟨rfl,hb⟩
 ·have h':(ts.length:Int)≤256:=by omega
  have hc:fJ ts=cW 0 ts:=by rw[fJ,if_neg h]
  rw[hc];generalize cW 0 ts=x at *
  go_enter func237,ntmps237
  go_wp2_with fail
  refine(HF.out).mono ?_;rintro e w1 ⟨rfl,hb⟩
  go_wp2_with fail
  go_ret;exact⟨rfl,hb⟩
theorem DB (k a b:Int)(w:World) :
  Calls prog 274 #[.int .i64 k,.int .i64 a,.int .i64 b] w fun e w'=>e=.returned (.tuple #[.int .i64 (nV k a b).1,.int .i64 (nV k a b).2])∧w=w':=by
 by_cases h0:b=0
 ·have hx:Hid (nV k a b=(0,92)):=show _=_ by rw[nV,if_pos h0]
  have h0':(b==0)=true:=by simpa using h0
  clear h0;go_enter func274,ntmps274
  go_wp2_with fail
  go_ret2;exact⟨by rw[hx.out];rfl,rfl⟩
 ·have h0':(b==0)=false:=by simpa using h0
  by_cases h1:b = -1
  ·have h1':(b == -1)=true:=by simpa using h1
   by_cases h7:k=7
   ·have hx:Hid (nV k a b=(0,0)):=show _=_ by rw[nV,if_neg h0,if_pos ⟨h7,h1⟩]
    have h7':(k==7)=true:=by simpa using h7
    clear h7 h1;go_enter func274,ntmps274
    go_wp2_with fail
    go_ret2;exact⟨by rw[hx.out];rfl,rfl⟩
   ·have hx:Hid (nV k a b=(wrap64 (-a),0)):=show _=_ by rw[nV,if_neg h0,if_neg (fun h=>h7 h.1),if_neg h7,if_pos h1]
    have h7':(k==7)=false:=by simpa using h7
    clear h1;go_enter func274,ntmps274
    go_wp2_with fail
    go_ret2;exact⟨by rw[hx.out];rfl,rfl⟩
  ·have h1':(b == -1)=false:=by simpa using h1
   by_cases h7:k=7
   ·have hx:Hid (nV k a b=(a.tmod b,0)):=show _=_ by rw[nV,if_neg h0,if_neg (fun h=>h1 h.2),if_pos h7]
    have h7':(k==7)=true:=by simpa using h7
    clear h7;go_enter func274,ntmps274
    go_wp2_with fail
    go_ret2;exact⟨by rw[hx.out];rfl,rfl⟩
   ·have hx:Hid (nV k a b=(wrap64 (a.tdiv b),0)):=show _=_ by rw[nV,if_neg h0,if_neg (fun h=>h7 h.1),if_neg h7,if_neg h1]
    have h7':(k==7)=false:=by simpa using h7
    go_enter func274,ntmps274
    go_wp2_with fail
    go_ret2;exact⟨by rw[hx.out];rfl,rfl⟩
theorem BF (k a b:Int)(w:World) :
  Calls prog 258 #[.int .i64 k,.int .i64 a,.int .i64 b] w fun e w'=>e=.returned (.tuple #[.int .i64 (i8 k a b).1,.int .i64 (i8 k a b).2])∧w=w':=by
 rcases numF_cases k a b with ⟨rfl,hx⟩ | ⟨rfl,hx⟩ | ⟨rfl,hx⟩ | ⟨rfl,hx⟩ | ⟨rfl,hx⟩ | ⟨rfl,hx⟩ | ⟨h5,h6,h7,h12,h13,h14,hr⟩
 iterate 6
  ·have HX:=Lib.hid hx;clear hx;go_enter func258,ntmps258
   go_wp2_with (first | (go_at_call 274;refine(DB _ _ _ _).mono ?_;rintro e w' ⟨rfl,rfl⟩))
   go_ret2;exact⟨by rw[HX.out];rfl,rfl⟩
 ·rcases hr with ⟨hb,hx⟩ | ⟨hb0,hb1,rfl,hx⟩ | ⟨hb0,hb1,h10,hx⟩
  ·have HX:=Lib.hid hx;clear hx;rcases hb with hb | hb
   iterate 2
    ·go_enter func258,ntmps258
     go_wp2_with fail
     go_ret2;exact⟨by rw[HX.out];rfl,rfl⟩
  ·have HX:=Lib.hid hx;clear hx;go_enter func258,ntmps258
   go_wp2_with fail
   go_ret2;exact⟨by rw[HX.out];rfl,rfl⟩
  ·have HX:=Lib.hid hx;clear hx;go_enter func258,ntmps258
   go_wp2_with fail
   go_ret2;exact⟨by rw[HX.out];rfl,rfl⟩
theorem cx (a:Int)(p m:ByteArray)(w:World) :
  Calls prog 123 #[.agg #[.int .i64 a,.string p,.string m]] w fun e w'=>e=.returned (.bool (cu p m))∧∃o,w'=w.alloc o:=by
 go_enter func123,ntmps123;go_wp2
 all_goals (go_ret;refine⟨eJ ?_,_,rfl⟩;simp_all [cu,tM,qg])
end Ex
namespace Ex
attribute [local go_sem ↓] Go.wp_at_zero Go.wp_at_succ
def Vals (w:World)(B:Nat)(A:Option Addr)(vs:List Val):Prop:=SL w B 3 A vs.length (vs.flatMap Val.cells)
theorem Vals.cells_at {w:World}{B:Nat}{b off:Nat}{vs:List Val}(h:Vals w B (some ⟨b,off,none⟩) vs){k:Nat}{t:Val}(hk:vs[k]? = some t) :
  b<B∧w.cell? ⟨b,off+k*3,none⟩=some (.int .i64 t.add)∧w.cell? ⟨b,off+k*3+1,none⟩=some (.string t.plus)∧w.cell? ⟨b,off+k*3+2,none⟩=some (.string t.minus):=by
 have hl:k<vs.length:=(List.getElem?_eq_some_iff.1 hk).1;obtain⟨b',off',e,hb,hc⟩:=h.2 (by omega);injection e with e;injection e with e1 e2;subst e1;subst e2;have g:=fun j hj=>vw Val.cells 3 (fun _=>rfl) vs k t j hk hj;refine⟨hb,?_,?_,?_⟩
 ·have:=hc (k*3+0) _ ((g 0 (by omega)).trans rfl);simpa using this
 ·have:=hc (k*3+1) _ ((g 1 (by omega)).trans rfl);simpa[Nat.add_assoc] using this
 ·have:=hc (k*3+2) _ ((g 2 (by omega)).trans rfl);simpa[Nat.add_assoc] using this
def ApplyPost (k:Int)(a b:Val)(w:World)(e:Ending)(w':World):Prop :=
 ∃r x,dk k a b=(r,x)∧e=.returned (.tuple #[.agg #[.int .i64 r.add,.string r.plus,.string r.minus],.int .i64 x])∧Below w.heap.size w w'
theorem ApplyPost.mk {k:Int}{A B:Val}{w w':World}{a:Int}{p m:ByteArray}{x:Int}(h:dk k A B=(⟨a,p,m⟩,x))(hb:Below w.heap.size w w') :
  ApplyPost k A B w (.returned (.tuple #[.agg #[.int .i64 a,.string p,.string m],.int .i64 x])) w':=⟨_,_,h,rfl,hb⟩
theorem Gk (A:Option Addr)(n cap:Nat)(vs:List Val)(b:Val)(w:World)(hV:Vals w w.heap.size A vs)(hn:vs.length=n)(hb:vs[n-1]? = some b)(hm:n≤maxLen) :
  Calls prog 239 #[.int .i64 3,.slice A n cap] w (ApplyPost 3 dC b w):=by
 have hl:n-1<n:=by have:=(List.getElem?_eq_some_iff.1 hb).1;omega
 obtain⟨bl,off,rfl,-,-⟩:=hV.2 (by omega);obtain⟨hbl,c0,c1,c2⟩:=Vals.cells_at hV hb;clear hV hn hb;unfold maxLen at hm;obtain⟨q,rfl⟩:∃q,n=q+1:=⟨n-1,by omega⟩;simp only[add_sub_cancel]at c0 c1 c2;go_enter func239,ntmps239
 go_wp2_with (first | (go_at_call 256;refine(FH _ _ _ _).mono ?_;rintro e w1 ⟨rfl,o1,o2,rfl⟩))
 exact bodyPost_ret (v:=.tuple #[.agg #[.int .i64 (wrap64 (-b.add)),.string b.minus,.string b.plus],.int .i64 0]) (by simp[results,results239,go_sem]) rfl (ApplyPost.mk (by simp[dk,Hy]) blw)
theorem Gl (A:Option Addr)(n cap:Nat)(vs:List Val)(b:Val)(w:World)(hV:Vals w w.heap.size A vs)(hn:vs.length=n)(hb:vs[n-1]? = some b)(hm:n≤maxLen) :
  Calls prog 239 #[.int .i64 4,.slice A n cap] w (ApplyPost 4 dC b w):=by
 have hl:n-1<n:=by have:=(List.getElem?_eq_some_iff.1 hb).1;omega
 obtain⟨bl,off,rfl,-,-⟩:=hV.2 (by omega);obtain⟨hbl,c0,c1,c2⟩:=Vals.cells_at hV hb;clear hV hn hb;unfold maxLen at hm;obtain⟨q,rfl⟩:∃q,n=q+1:=⟨n-1,by omega⟩;simp only[add_sub_cancel]at c0 c1 c2;by_cases hp:cu b.plus b.minus=true
 ·have hx:=Lib.hid (Dc dC hp);go_enter func239,ntmps239
  go_wp2_with (first | (go_at_call 123;refine(cx _ _ _ _).mono ?_;rintro e w1 ⟨rfl,o3,rfl⟩))
  exact bodyPost_ret (v:=.tuple #[.agg #[.int .i64 (bits .xor .i64 (-1) b.add),.string ⟨#[]⟩,.string ⟨#[]⟩],.int .i64 0]) (by simp[results,results239,go_sem]) rfl (ApplyPost.mk hx.out blw)
 ·have hp':cu b.plus b.minus=false:=by simpa using hp
  have hx:=Lib.hid (uM dC hp');go_enter func239,ntmps239
  go_wp2_with (first | (go_at_call 123;refine(cx _ _ _ _).mono ?_;rintro e w1 ⟨rfl,o3,rfl⟩))
  exact bodyPost_ret (v:=.tuple #[.agg #[.int .i64 0,.string ⟨#[]⟩,.string ⟨#[]⟩],.int .i64 91]) (by simp[results,results239,go_sem]) rfl (ApplyPost.mk hx.out blw)
theorem Gi (A:Option Addr)(n cap:Nat)(vs:List Val)(a:Val)(b:Val)(w:World)(hV:Vals w w.heap.size A vs)(hn:vs.length=n)(h2:2≤n)(ha:vs[n-2]? = some a)(hb:vs[n-1]? = some b)(hm:n≤maxLen)(s1:a.plus.size≤140737488355328)(s2:a.minus.size≤140737488355328)(s3:b.plus.size≤140737488355328)(s4:b.minus.size≤140737488355328) :
  Calls prog 239 #[.int .i64 8,.slice A n cap] w (ApplyPost 8 a b w):=by
 have hl:n-2<n:=by have:=(List.getElem?_eq_some_iff.1 ha).1;omega
 obtain⟨bl,off,rfl,-,-⟩:=hV.2 (by omega);obtain⟨hbl,c0,c1,c2⟩:=Vals.cells_at hV hb;obtain⟨_,d0,d1,d2⟩:=Vals.cells_at hV ha;clear hV hn hb ha;unfold maxLen at hm;obtain⟨q,rfl⟩:∃q,n=q+2:=⟨n-2,by omega⟩;simp only[add_sub_cancel,show q+2-1=q+1 from rfl]at c0 c1 c2 d0 d1 d2;go_enter func239,ntmps239
 go_wp2_with (first | (go_at_call 257;refine(Fi _ _ _ _ _ _ _ (by assumption) (by assumption) (by assumption) (by assumption)).mono ?_;rintro e w1 ⟨r,x,o4,o5,o6,o7,o8,o9,o10,hr,rfl,rfl⟩;have Hr:=Lib.hid hr;clear hr))
 exact bodyPost_ret (v:=.tuple #[.agg #[.int .i64 r.add,.string r.plus,.string r.minus],.int .i64 x]) (by simp[results,results239,go_sem]) rfl (ApplyPost.mk (by rw[Db];exact Hr.out) blw)
theorem Gn (A:Option Addr)(n cap:Nat)(vs:List Val)(a:Val)(b:Val)(w:World)(hV:Vals w w.heap.size A vs)(hn:vs.length=n)(h2:2≤n)(ha:vs[n-2]? = some a)(hb:vs[n-1]? = some b)(hm:n≤maxLen)(s1:a.plus.size≤140737488355328)(s2:a.minus.size≤140737488355328)(s3:b.plus.size≤140737488355328)(s4:b.minus.size≤140737488355328) :
  Calls prog 239 #[.int .i64 9,.slice A n cap] w (ApplyPost 9 a b w):=by
 have hl:n-2<n:=by have:=(List.getElem?_eq_some_iff.1 ha).1;omega
 obtain⟨bl,off,rfl,-,-⟩:=hV.2 (by omega);obtain⟨hbl,c0,c1,c2⟩:=Vals.cells_at hV hb;obtain⟨_,d0,d1,d2⟩:=Vals.cells_at hV ha;clear hV hn hb ha;unfold maxLen at hm;obtain⟨q,rfl⟩:∃q,n=q+2:=⟨n-2,by omega⟩;simp only[add_sub_cancel,show q+2-1=q+1 from rfl]at c0 c1 c2 d0 d1 d2;go_enter func239,ntmps239
 go_wp2_with fail
 go_region_with (first | (go_at_call 256;refine(FH _ _ _ _).mono ?_;rintro e w1 ⟨rfl,o1,o2,rfl⟩) | (go_at_call 257;refine(Fi _ _ _ _ _ _ _ (by assumption) (by assumption) (by assumption) (by assumption)).mono ?_;rintro e w1 ⟨r,x,o4,o5,o6,o7,o8,o9,o10,hr,rfl,rfl⟩;have Hr:=Lib.hid hr;clear hr))
 all_goals go_wp2_with fail
 all_goals (exact bodyPost_ret (v:=.tuple #[.agg #[.int .i64 r.add,.string r.plus,.string r.minus],.int .i64 x]) (by simp[results,results239,go_sem]) rfl (ApplyPost.mk (by rw[De];exact Hr.out) blw))
theorem Gm (k:Int)(k3:(k==3)=false)(k4:(k==4)=false)(k8:(k==8)=false)(k9:(k==9)=false)(A:Option Addr)(n cap:Nat)(vs:List Val)(a:Val)(b:Val)(w:World)(hV:Vals w w.heap.size A vs)(hn:vs.length=n)(h2:2≤n)(ha:vs[n-2]? = some a)(hb:vs[n-1]? = some b)(hm:n≤maxLen) :
  Calls prog 239 #[.int .i64 k,.slice A n cap] w (ApplyPost k a b w):=by
 have hl:n-2<n:=by have:=(List.getElem?_eq_some_iff.1 ha).1;omega
 obtain⟨bl,off,rfl,-,-⟩:=hV.2 (by omega);obtain⟨hbl,c0,c1,c2⟩:=Vals.cells_at hV hb;obtain⟨_,d0,d1,d2⟩:=Vals.cells_at hV ha;clear hV hn hb ha;unfold maxLen at hm;obtain⟨q,rfl⟩:∃q,n=q+2:=⟨n-2,by omega⟩;simp only[add_sub_cancel,show q+2-1=q+1 from rfl]at c0 c1 c2 d0 d1 d2;by_cases ha:cu a.plus a.minus=true
 ·by_cases hb:cu b.plus b.minus=true
  ·have hx:=Lib.hid (Dd k3 k4 k8 k9 ha hb);go_enter func239,ntmps239
   go_wp2_with (first | (go_at_call 123;refine(cx _ _ _ _).mono ?_;rintro e w1 ⟨rfl,o3,rfl⟩) | (go_at_call 258;refine(BF _ _ _ _).mono ?_;rintro e w1 ⟨rfl,rfl⟩))
   exact bodyPost_ret (v:=.tuple #[.agg #[.int .i64 (i8 k a.add b.add).1,.string ⟨#[]⟩,.string ⟨#[]⟩],.int .i64 (i8 k a.add b.add).2]) (by simp[results,results239,go_sem]) rfl (ApplyPost.mk hx.out blw)
  ·have hb':cu b.plus b.minus=false:=by simpa using hb
   have hx:=Lib.hid (oc (a:=a) k3 k4 k8 k9 (.inr hb'));go_enter func239,ntmps239
   go_wp2_with (first | (go_at_call 123;refine(cx _ _ _ _).mono ?_;rintro e w1 ⟨rfl,o3,rfl⟩))
   exact bodyPost_ret (v:=.tuple #[.agg #[.int .i64 0,.string ⟨#[]⟩,.string ⟨#[]⟩],.int .i64 91]) (by simp[results,results239,go_sem]) rfl (ApplyPost.mk hx.out blw)
 ·have ha':cu a.plus a.minus=false:=by simpa using ha
  have hx:=Lib.hid (oc (b:=b) k3 k4 k8 k9 (.inl ha'));go_enter func239,ntmps239
  go_wp2_with (first | (go_at_call 123;refine(cx _ _ _ _).mono ?_;rintro e w1 ⟨rfl,o3,rfl⟩))
  exact bodyPost_ret (v:=.tuple #[.agg #[.int .i64 0,.string ⟨#[]⟩,.string ⟨#[]⟩],.int .i64 91]) (by simp[results,results239,go_sem]) rfl (ApplyPost.mk hx.out blw)
end Ex
namespace Ex
attribute [local go_sem ↓] Go.wp_at_zero Go.wp_at_succ
theorem ApplyPost.unary {k:Int}(h:aX k=1){a a' b:Val}{w:World}{e:Ending}{w':World}(p:ApplyPost k a b w e w'):ApplyPost k a' b w e w':=by
 obtain⟨r,x,hr,he,hb⟩:=p;exact⟨r,x,by rw[←hr];exact y8 h _ _ _,he,hb⟩
theorem Gj (k:Int)(hk:¬aX k=0)(A:Option Addr)(n cap:Nat)(vs:List Val)(w:World)(hV:Vals w w.heap.size A vs)(hn:vs.length=n)(hle:aX k≤n)(hm:n≤maxLen)(hsz:∀v∈vs,v.le 140737488355328) :
  Calls prog 239 #[.int .i64 k,.slice A n cap] w (ApplyPost k (vs.getD (vs.length-2) dC) (vs.getD (vs.length-1) dC) w):=by
 have tb:=tk k;have hlt:n-1<vs.length:=by omega
 have hb:vs[n-1]? = some (vs.getD (vs.length-1) dC):=by rw[hn,List.getD_eq_getElem?_getD,getElem?_eq_getElem hlt];rfl
 obtain⟨b,eb⟩:∃b,b=vs.getD (vs.length-1) dC:=⟨_,rfl⟩;rw[←eb]at hb ⊢;have sb:=hsz b (mem_of_getElem? hb);by_cases h3:k=3
 ·subst h3;exact(Gk A n cap vs b w hV hn hb hm).mono fun e w' h=>h.unary rfl
 by_cases h4:k=4
 ·subst h4;exact(Gl A n cap vs b w hV hn hb hm).mono fun e w' h=>h.unary rfl
 have h2:aX k=2:=by
  unfold aX at hk ⊢;rw[nG]at hk ⊢;split at hk
  ·rw[if_pos (by assumption)]
  ·exact(hk rfl).elim
 have ha:vs[n-2]? = some (vs.getD (vs.length-2) dC):=by rw[hn,List.getD_eq_getElem?_getD,getElem?_eq_getElem (show n-2<vs.length by omega)];rfl
 obtain⟨a,ea⟩:∃a,a=vs.getD (vs.length-2) dC:=⟨_,rfl⟩;rw[←ea]at ha ⊢;have sa:=hsz a (mem_of_getElem? ha);by_cases h8:k=8
 ·subst h8;exact Gi A n cap vs a b w hV hn (by omega) ha hb hm sa.1 sa.2 sb.1 sb.2
 by_cases h9:k=9
 ·subst h9;exact Gn A n cap vs a b w hV hn (by omega) ha hb hm sa.1 sa.2 sb.1 sb.2
 exact Gm k (by simpa using h3) (by simpa using h4) (by simpa using h8) (by simpa using h9) A n cap vs a b w hV hn (by omega) ha hb hm
def EvalPost (ts:List Term)(w:World)(e:Ending)(w':World):Prop :=
 ∃r x,evalAll ts=(r,x)∧e=.returned (.tuple #[.agg #[.int .i64 r.add,.string r.plus,.string r.minus],.int .i64 x])∧Below w.heap.size w w'
theorem EvalPost.mk {ts:List Term}{w w':World}{a:Int}{p m:ByteArray}{x:Int}(h:evalAll ts=(⟨a,p,m⟩,x))(hb:Below w.heap.size w w') :
  EvalPost ts w (.returned (.tuple #[.agg #[.int .i64 a,.string p,.string m],.int .i64 x])) w':=⟨_,_,h,rfl,hb⟩
theorem Mu:(Tryz.prog.info? 75).map (fun i=>(i.zero,i.size,i.bytes))=some (some (.agg #[.int .i64 0,.string ⟨#[]⟩,.string ⟨#[]⟩]),3,40):=by kernel_rfl
theorem xq {w w':World}{base:Nat}{e:TypeId}{size:Nat}{v:Value}{n:Nat}{xs:List Value}(h:w.ownsRow base e size v n xs){B:Nat}(hb:Below B w w')(hB:∀g,v.ownBlock=some g→g<B):w'.ownsRow base e size v n xs:=by
 refine⟨h.1,?_⟩;rcases h.2 with h0 | ⟨g,cap,cur,hv,hg,hh,r⟩
 ·exact .inl h0
 ·exact .inr ⟨g,cap,cur,hv,hg,(hb.block g (hB g (by rw[hv];rfl))).trans hh,r⟩
theorem SL.of_own {w:World}{base:Nat}{e:TypeId}{sz:Nat}{A:Option Addr}{n c:Nat}{xs:List Value}(h:w.ownsRow base e sz (.slice A n c) n xs):SL w w.heap.size sz A n xs:=by
 refine⟨h.1,fun hn=>?_⟩;obtain⟨g,cap,hv,_,hlt⟩:=h.form hn;injection hv with hA;subst hA;refine⟨g,0,rfl,hlt,fun j u hu=>?_⟩;have:=h.cells (g:=g) rfl j u hu;simpa[Addr.add] using(by unfold Addr.add at this;split at this<;>simp_all:w.cell? ⟨g,0+j,none⟩=some u)
theorem Fu {vs:List Val}{k i:Nat}(h:∀v∈vs,v.le k):(vs.getD i dC).le k:=by
 rw[List.getD_eq_getElem?_getD];cases e:vs[i]? with
 |none=>exact DR _ _
 |some v=>exact h v (mem_of_getElem? e)
theorem own_two {w:World}{base:Nat}{e:TypeId}{sz n c:Nat}{A:Option Addr}{xs:List Value}(h:w.ownsRow base e sz (.slice A n c) n xs):(A=none∧c=0∧n=0)∨∃g,A=some ⟨g,0,none⟩∧base≤g∧g<w.heap.size:=by
 rcases h.2 with ⟨hv,h0⟩ | ⟨g,cap,cur,hv,hg,hh,_⟩
 ·injection hv with h1 h2 h3;exact .inl ⟨h1,h3,h0⟩
 ·injection hv with h1 h2 h3;refine .inr ⟨g,h1,hg,?_⟩;rcases Nat.lt_or_ge g w.heap.size with hlt | hge
  ·exact hlt
  ·rw[Array.getElem?_eq_none hge]at hh;cases hh
theorem Of {w:World}{base:Nat}{e:TypeId}{sz n c:Nat}{A:Option Addr}{xs:List Value}(h:w.ownsRow base e sz (.slice A n c) n xs):n≤c:=by
 rcases h.2 with ⟨hv,h0⟩ | ⟨g,cap,cur,hv,hg,hh,hn,_⟩
 ·omega
 ·injection hv with h1 h2 h3;omega
theorem zF {w:World}{base:Nat}{e:TypeId}{size:Nat}{v:Value}{n:Nat}{xs:List Value}(h:w.ownsRow base e size v n xs){a:Addr}{u:Value}(ha:v.ownBlock≠some a.block):(w.setCell a u).ownsRow base e size v n xs:=by
 refine⟨h.1,?_⟩;rcases h.2 with h0 | ⟨g,cap,cur,hv,hg,hh,r⟩
 ·exact .inl h0
 ·exact .inr ⟨g,cap,cur,hv,hg,by rw[Below.heap_setCell _ _ _ _ (fun e=>ha (by rw[hv,e];rfl))];exact hh,r⟩
theorem zG {w:World}{base:Nat}{e:TypeId}{size g cap n n':Nat}{xs:List Value}(h:w.ownsRow base e size (.slice (some ⟨g,0,none⟩) n cap) n xs)(hn:n'≤n) :
  w.ownsRow base e size (.slice (some ⟨g,0,none⟩) n' cap) n' (xs.take (n'*size)):=by
 have hx:=h.1;have hm:n'*size≤n*size:=Nat.mul_le_mul_right _ hn;refine⟨by rw[length_take];omega,?_⟩;rcases h.2 with ⟨h0,_⟩ | ⟨g',cap',cur,hv,hg,hh,hnc,hcap,hsz,htake⟩
 ·cases h0
 ·cases hv;refine .inr ⟨g,cap,cur,rfl,hg,hh,by omega,hcap,hsz,?_⟩;rw[←htake,List.take_take,min_eq_left hm]
theorem xU {α:Type}(f:α→List Value)(sz:Nat)(hf:∀x,(f x).length=sz):∀(l:List α) (n:Nat),(l.flatMap f).take (n*sz)=(l.take n).flatMap f
 |[],n=>by simp
 |y::r,0=>by simp
 |y::r,n+1=>by
  rw[List.flatMap_cons,List.take_succ_cons,List.flatMap_cons,←xU f sz hf r n,List.take_append,hf,Nat.succ_mul,add_sub_cancel,List.take_of_length_le (by rw[hf];omega)]
theorem Ka (A:Option Addr)(cap:Nat)(ts:List Term)(w:World)(hT:Terms w w.heap.size A ts)(hl:ts.length≤1099511627776)(hsz:∀t∈ts,t.sym.size≤140737488355328) :
  Calls prog 197 #[.slice A ts.length cap] w (EvalPost ts w):=by
 have HT:=Lib.hid hT;have HZ:=Lib.hid hsz;have HC:=fun(W:World) (h:Terms W W.heap.size A ts)=>Gx A cap ts W h (by unfold maxLen;omega) (fun t ht=>Nat.le_trans (hsz t ht) (by unfold maxLen;omega));have HCC:=Lib.hid HC;clear hT hsz HC;by_cases hc:fJ ts=0
 ·go_enter func197,ntmps197
  go_wp2_with fail
  refine(HCC.out _ ?_).mono ?_
  ·exact(SL.below HT.out ((Below.refl _ _).alloc (Nat.le_refl _) _)).more (by simp)
  rintro e w1 ⟨rfl,hb1⟩;have hs1:=hb1.size;simp at hs1;obtain⟨k0,f0⟩:=bat hb1 (b:=w.heap.size) (by simp);have hB1:Below w.heap.size w w1:=((Below.refl _ _).alloc (Nat.le_refl _) _).trans (hb1.mono (by simp));have q0:w1.cell? ⟨w.heap.size,0,none⟩=some (.int .i64 0):=by rw[k0];simp[go_sem]
  have q1:w1.cell? ⟨w.heap.size,1,none⟩=some (.string ⟨#[]⟩):=by rw[k0];simp[go_sem]
  have q2:w1.cell? ⟨w.heap.size,2,none⟩=some (.string ⟨#[]⟩):=by rw[k0];simp[go_sem]
  have fz:∀o,w1.frozen? ⟨w.heap.size,o,none⟩=false:=fun o=>by rw[f0];simp[go_sem]
  clear hb1 k0 f0;have hc0:(fJ ts !=0)=false:=by simpa using hc
  have HF:Hid (cW 0 ts=0):=AA hc;have HE:Hid (evalAll ts=iF [] ts):=show _=_ by rw[evalAll,if_pos hc]
  clear hc
  go_wp2_with fail
  go_loopw [5,19] (fun sv i wr=>∃(k:Nat) (vs:List Val) (A':Option Addr) (c':Nat),k≤ts.length∧i=.int .i64 k∧sv=.slice A' vs.length c'∧vs.length≤k∧wr.ownsRow (w.heap.size+1) 75 3 (.slice A' vs.length c') vs.length (vs.flatMap Val.cells)∧Hid (cW vs.length (ts.drop k)=0)∧Hid (iF vs (ts.drop k)=iF [] ts)∧Hid (∀v∈vs,v.le 140737488355328)∧Below (w.heap.size+1) w1 wr) (fun _ i _=>ts.length-(intOf i).toNat)
  case atStart=>exact⟨0,[],none,0,Nat.zero_le _,rfl,rfl,Nat.le_refl _,World.ownsRow_nil _ _ _ _,HF,show _=_ by simp,show ∀v∈_,_ from fun v hv=>(List.not_mem_nil hv).elim,Below.refl _ _⟩
  case round =>
   obtain⟨k,vs,A',c',hk,rfl,rfl,hvk,hown,hf,hev,hle,hb⟩:=hrel;obtain⟨kk0,ff0⟩:=bat hb (b:=w.heap.size) (by omega);have r0:=(kk0 0).trans q0;have r1:=(kk0 1).trans q1;have r2:=(kk0 2).trans q2;have rf:=fun o=>(ff0 o).trans (fz o);have HQ:Hid (_∧_∧_∧_):=⟨q0,q1,q2,fz⟩;clear kk0 ff0 q0 q1 q2 fz;have hsz:=hb.size;have hB:Below w.heap.size w wr:=hB1.trans (hb.mono (by omega));by_cases hlt:k<ts.length
   ·obtain⟨t,ht⟩:∃t,ts[k]? = some t:=⟨_,getElem?_eq_getElem hlt⟩;have Ht:=Lib.hid ht;have hz:=HZ.out t (mem_of_getElem? ht);have hd:Hid (ts.drop k=t::ts.drop (k+1)):=show _=_ by rw[List.drop_eq_getElem_cons hlt];congr 1;rw[getElem?_eq_getElem hlt]at ht;injection ht
    clear ht;obtain⟨b,off,rfl,-,-⟩:=HT.out.2 (by omega);obtain⟨hbb,c0,c1,c2⟩:=Terms.cells_at (SL.below HT.out (hB1.trans (hb.mono (by omega)))) Ht.out;obtain⟨_,tle,hf'⟩:=DK (by have:=hf.out;rwa [hd.out]at this);have HF':=Lib.hid hf';clear hf';have tb:=tk t.kind;obtain⟨K,hK⟩:∃K:Nat,aX t.kind=K:=⟨(aX t.kind).toNat,by omega⟩;have HK:=Lib.hid hK;have htk:∀W,Calls prog 238 #[.int .i64 t.kind] W fun e w'=>e=.returned (.int .i64 (K:Int))∧W=w':=fun W=>by rw[←hK];exact tn _ _
    have HTK:=Lib.hid htk;rw[hK]at tle tb;clear htk hK
    go_upto_if 32 with (go_at_call 238;refine(HTK.out _).mono ?_;rintro e w' ⟨rfl,rfl⟩)
    go_cut [] (fun wx=>∃v:Val,Hid (iF (vs.take (vs.length-K)++[v]) (ts.drop (k+1))=iF [] ts)∧Hid (v.le 140737488355328)∧wx.cell? ⟨wr.heap.size+1,0,none⟩=some (.int .i64 v.add)∧wx.cell? ⟨wr.heap.size+1,1,none⟩=some (.string v.plus)∧wx.cell? ⟨wr.heap.size+1,2,none⟩=some (.string v.minus)∧Below (w.heap.size+1) w1 wx∧wr.heap.size+2≤wx.heap.size∧wx.ownsRow (w.heap.size+1) 75 3 (.slice A' vs.length c') vs.length (vs.flatMap Val.cells))
    case first =>
     rcases Nat.eq_zero_or_pos K with h0 | h0
     ·subst h0
      go_wp2_with fail
      go_meet
      refine⟨⟨t.n,t.sym,emp⟩,?_,⟨hz,Nat.zero_le _⟩,by simp[go_sem],by simp[go_sem],by simp[go_sem,emp],blw,by simp,(hown.alloc _).alloc _⟩;show iF (vs.take (vs.length-0)++[_]) _=_;rw[Nat.sub_zero,List.take_length,←DF (by simpa using HK.out),←hd.out];exact hev.out
     ·have h0':(0:Int)<K:=by omega
      go_wp2_with fail
      refine(Gj t.kind (by rw[HK.out];omega) A' vs.length c' vs _ (SL.of_own ((hown.alloc _).alloc _)) rfl (by rw[HK.out];omega) (by unfold maxLen;omega) hle.out).mono ?_;rintro e w2 ⟨r,x,hr,rfl,hb2⟩;have Hr:=Lib.hid hr;have hs2:=hb2.size;simp at hs2;obtain⟨kv,fv⟩:=bat hb2 (b:=wr.heap.size+1) (by simp)
      have rle:r.le 140737488355328:=by
       have h1:=Gh t.kind (a:=vs.getD (vs.length-2) dC) (b:=vs.getD (vs.length-1) dC) (k:=140737488355328) (Fu hle.out) (Fu hle.out)
       rwa [hr]at h1
      have hown2:=xq ((hown.alloc (.cells #[.int .i64 t.kind,.int .i64 t.n,.string t.sym] 242)).alloc (.cells #[.int .i64 t.n,.string t.sym,.string ⟨#[]⟩] 75)) hb2 (fun g hg=>(((hown.alloc _).alloc _).lt g hg).2);have hB2:Below (w.heap.size+1) w1 w2:=(blw:Below (w.heap.size+1) w1 ((wr.alloc (.cells #[.int .i64 t.kind,.int .i64 t.n,.string t.sym] 242)).alloc (.cells #[.int .i64 t.n,.string t.sym,.string ⟨#[]⟩] 75))).trans (hb2.mono (by simp;omega));obtain⟨kw,fw⟩:=bat hB2 (b:=w.heap.size) (by omega);have v0:=(kw 0).trans HQ.out.1;have v1:=(kw 1).trans HQ.out.2.1;have v2:=(kw 2).trans HQ.out.2.2.1;have vf:=fun o=>(fw o).trans (HQ.out.2.2.2 o);have u0:w2.cell? ⟨wr.heap.size+1,0,none⟩=some (.int .i64 t.n):=by rw[kv];simp[go_sem]
      have u1:w2.cell? ⟨wr.heap.size+1,1,none⟩=some (.string t.sym):=by rw[kv];simp[go_sem]
      have u2:w2.cell? ⟨wr.heap.size+1,2,none⟩=some (.string ⟨#[]⟩):=by rw[kv];simp[go_sem]
      have uf:∀o,w2.frozen? ⟨wr.heap.size+1,o,none⟩=false:=fun o=>by rw[fv];simp[go_sem]
      clear kw fw kv fv;have RL:=Lib.hid rle;have hne9:(Value.slice A' vs.length c').ownBlock≠some (wr.heap.size+1):=fun h=>by have:=(hown.lt _ h).2;omega
      clear hr hb2 rle;by_cases hx0:x=0
      ·subst hx0
       go_wp2_with fail
       go_meet
       refine⟨r,?_,RL.out,by simp[go_sem,u0,u1,u2],by simp[go_sem,u0,u1,u2],by simp[go_sem,u0,u1,u2],blw,by simp;omega,?_⟩
       ·show _=_;rw[←hev.out,hd.out,J9 (by rw[HK.out];omega) Hr.out,HK.out];rfl
       ·exact zF (zF (zF hown2 hne9) hne9) hne9
      ·have hxne:(x !=0)=true:=by simpa using hx0
       have hB3:Below w.heap.size w w2:=hB1.trans (hB2.mono (by omega))
       go_wp2_with fail
       exact bodyPost_ret (v:=.tuple #[.agg #[.int .i64 0,.string ⟨#[]⟩,.string ⟨#[]⟩],.int .i64 x]) (by simp[results,results197,go_sem,v0,v1,v2]) rfl (EvalPost.mk (by rw[HE.out,←hev.out,hd.out,GN (by rw[HK.out];omega) hx0 Hr.out];rfl) blw)
    case rest =>
     obtain⟨v,hv,hvl,b0,b1,b2,hbx,hsx,hox⟩:=hcut;obtain⟨i0,hi0,hz0,hz1,hz2⟩:=info_parts Mu;rcases own_two hox with ⟨rfl,rfl,hn0⟩ | ⟨g,rfl,hgB,hgx⟩
     ·have hvs:vs=[]:=List.eq_nil_of_length_eq_zero hn0;subst hvs;obtain rfl:K=0:=by simp at tle;omega
      have hw:IntKind.i64.wrap 0=0:=by rw[IntKind.wrap_i64];omega
      go_wp2_with fail
      go_region_held3 (fun w'=>w'.cell? ⟨wr.heap.size+1,0,none⟩=some (.int .i64 v.add)∧w'.cell? ⟨wr.heap.size+1,1,none⟩=some (.string v.plus)∧w'.cell? ⟨wr.heap.size+1,2,none⟩=some (.string v.minus)) (first | (go_keep;done) | (go_split_ands;refine⟨?_,?_,?_⟩<;>(rw[hgrow.cell_far _ (by simp;omega) (by first | (simp[Value.ownBlock];done) | (simp[Value.ownBlock];omega))];first | assumption | go_keep)))
       ((refine step_append_lies _ (by rfl) _ _ _ (by rfl) (w.heap.size+1) 75 i0 _ 3 40 Tryz.underlying38 hi0 hz0 hz1 hz2 rfl (by omega) (.slice none 0 0) 0 [] (by rfl) (World.ownsRow_nil _ _ _ _) ⟨wc.heap.size,0,none⟩ 1 1 [.int .i64 v.add,.string v.plus,.string v.minus] (by rfl) (by rfl) (World.news_of_block (cs:=#[.int .i64 v.add,.string v.plus,.string v.minus]) (t:=75) (fr:=(0,0)) (heap_alloc_new wc _)) (by simp[Value.oneCell']) (by omega) (by simp only[maxLen];omega) (by omega) (by simp;omega) (wc.heap.size+1) (by simp) ?_;intro gg cap2 w3 hown3 hgrow hat hlt3))
      go_wp2_with fail
      go_roundw
      case rel =>
       refine⟨k+1,[v],some ⟨gg,0,none⟩,cap2,by omega,by go_num,rfl,by simp,by simpa[Val.cells] using hown3,?_,by simpa using hv,?_,?_⟩
       ·show cW _ _=0;rw[←HF'.out,HK.out];congr 1
       ·intro u hu;rw[List.mem_singleton.1 hu];exact hvl.out
       ·exact((hbx.alloc (by omega) _).drew).grown hgrow (by simp;omega) (fun q hq=>by simp[Value.ownBlock]at hq)
      case measure=>simp[intOf];omega
     ·have hot:=zG (n':=vs.length-K) hox (by omega);rw[xU Val.cells 3 (fun _=>rfl)]at hot;have hw:IntKind.i64.wrap ((vs.length:Int)-(K:Int))=((vs.length-K:Nat):Int):=by rw[IntKind.wrap_i64];omega
      have hcl:=Of hox;have hg9:g<wr.heap.size:=(hown.lt g rfl).2;have hcl':((vs.length-K:Nat):Int)≤(c':Int):=by omega
      have hcl0:(0:Int)≤((vs.length-K:Nat):Int):=by omega
      go_wp2_with fail
      go_region_held3 (fun w'=>w'.cell? ⟨wr.heap.size+1,0,none⟩=some (.int .i64 v.add)∧w'.cell? ⟨wr.heap.size+1,1,none⟩=some (.string v.plus)∧w'.cell? ⟨wr.heap.size+1,2,none⟩=some (.string v.minus)) (first | (go_keep;done) | (go_split_ands;refine⟨?_,?_,?_⟩<;>(rw[hgrow.cell_far _ (by simp;omega) (by first | (simp[Value.ownBlock];done) | (simp[Value.ownBlock];omega))];first | assumption | go_keep)))
       ((refine step_append_lies _ (by rfl) _ _ _ (by rfl) (w.heap.size+1) 75 i0 _ 3 40 Tryz.underlying38 hi0 hz0 hz1 hz2 rfl (by omega) (.slice (some ⟨g,0,none⟩) (vs.length-K) c') (vs.length-K) ((vs.take (vs.length-K)).flatMap Val.cells) (by rfl) ((hot.alloc _).drew) ⟨wc.heap.size,0,none⟩ 1 1 [.int .i64 v.add,.string v.plus,.string v.minus] (by rfl) (by rfl) (World.news_of_block (cs:=#[.int .i64 v.add,.string v.plus,.string v.minus]) (t:=75) (fr:=(0,0)) (heap_alloc_new wc _)) (by simp[Value.oneCell']) (by omega) (by simp only[maxLen];omega) (by omega) (by simp;omega) (wc.heap.size+1) (by simp) ?_;intro gg cap2 w3 hown3 hgrow hat hlt3))
      go_wp2_with fail
      go_roundw
      case rel =>
       refine⟨k+1,vs.take (vs.length-K)++[v],some ⟨gg,0,none⟩,cap2,by omega,by go_num,?_,?_,?_,?_,hv,?_,?_⟩
       ·rw[length_append,length_take,min_eq_left (by omega)];rfl
       ·rw[length_append,length_take,min_eq_left (by omega)];show vs.length-K+1≤k+1;omega
       ·rw[length_append,length_take,min_eq_left (by omega),List.flatMap_append];simpa[Val.cells] using hown3
       ·show cW _ _=0;rw[length_append,length_take,min_eq_left (by omega),←HF'.out,HK.out];congr 1;simp;omega
       ·intro u hu;rcases List.mem_append.1 hu with h1 | h1
        ·exact hle.out u (List.mem_of_mem_take h1)
        ·rw[List.mem_singleton.1 h1];exact hvl.out
       ·exact((hbx.alloc (by omega) _).drew).grown hgrow (by simp;omega) (fun q hq=>by simp[Value.ownBlock]at hq;omega)
      case measure=>simp[intOf];omega
   ·have hd:Hid (ts.drop k=[]):=show _=_ by rw[List.drop_eq_nil_of_le (by omega)]
    have h1:vs.length=1:=by have:=GW (by have:=hf.out;rwa [hd.out]at this);omega
    obtain⟨v,rfl⟩:∃v,vs=[v]:=by
     match vs,h1 with
     |[v],_=>exact⟨v,rfl⟩
    have hres:Hid (evalAll ts=(v,0)):=show _=_ by rw[HE.out,←hev.out,hd.out];rfl
    rcases own_two hown with ⟨_,_,h0⟩ | ⟨g,rfl,hgB,hgx⟩
    ·cases h0
    ·have e0:wr.cell? ⟨g,0,none⟩=some (.int .i64 v.add):=by rw[hown.cellAt 0 (by simp)];rfl
     have e1:wr.cell? ⟨g,1,none⟩=some (.string v.plus):=by rw[hown.cellAt 1 (by simp)];rfl
     have e2:wr.cell? ⟨g,2,none⟩=some (.string v.minus):=by rw[hown.cellAt 2 (by simp)];rfl
     go_wp2_with fail
     exact bodyPost_ret (v:=.tuple #[.agg #[.int .i64 v.add,.string v.plus,.string v.minus],.int .i64 0]) (by simp[results,results197,go_sem,r0,r1,r2]) rfl (EvalPost.mk hres.out blw)
 ·have hne:(fJ ts !=0)=true:=by simpa using hc
  have hx:Hid (evalAll ts=(⟨0,⟨#[]⟩,⟨#[]⟩⟩,fJ ts)):=show _=_ by rw[evalAll,if_neg hc];rfl
  go_enter func197,ntmps197
  go_wp2_with fail
  refine(HCC.out _ ?_).mono ?_
  ·exact(SL.below HT.out ((Below.refl _ _).alloc (Nat.le_refl _) _)).more (by simp)
  rintro e w1 ⟨rfl,hb1⟩;have hs1:=hb1.size;simp at hs1;obtain⟨k0,f0⟩:=bat hb1 (b:=w.heap.size) (by simp);have hB1:Below w.heap.size w w1:=((Below.refl _ _).alloc (Nat.le_refl _) _).trans (hb1.mono (by simp))
  go_wp2_with fail
  exact bodyPost_ret (v:=.tuple #[.agg #[.int .i64 0,.string ⟨#[]⟩,.string ⟨#[]⟩],.int .i64 (fJ ts)]) (by simp[results,results197,go_sem,k0]) rfl (EvalPost.mk hx.out blw)
end Ex
namespace Ex
theorem LZ {w:World}{a b:Addr}{v:Value}(h:∃u,w.cell? b=some u):∃u,(w.setCell a v).cell? b=some u:=by
 obtain⟨u,hu⟩:=h;by_cases e:a=b
 ·subst e;exact⟨v,World.cell?_setCell_same _ _ _ hu⟩
 ·exact⟨u,by rw[World.cell?_setCell_other _ _ _ _ e];exact hu⟩
theorem IY {w:World}{i:Nat}(h:i<20){t:TypeId}{v:Value}:∃u,(w.alloc (.cells #[v,v,v,v,v,v,v,v,v,v,v,v,v,v,v,v,v,v,v,v] t)).cell? ⟨w.heap.size,i,none⟩=some u:=by
 have hb:(w.alloc (.cells #[v,v,v,v,v,v,v,v,v,v,v,v,v,v,v,v,v,v,v,v] t)).heap[w.heap.size]? = some (.cells #[v,v,v,v,v,v,v,v,v,v,v,v,v,v,v,v,v,v,v,v] t):=heap_alloc_new w _;rw[cell_of_row _ _ _ _ _ _ hb];exact⟨_,Array.getElem?_eq_getElem (by simpa using h)⟩
theorem ox (N:Nat)(w:World)(hN:N<18446744073709551616) :
  Calls prog 125 #[.int .u64 N] w fun e w'=>e=.returned (.string (decS N))∧Below w.heap.size w w':=by
 have hN':=Lib.hid hN;go_enter func125,ntmps125
 go_wp2_with fail
 go_loopw [0,4] (fun nv av wr=>∃(p m:Nat) (tail:List UInt8),nv=.int .u64 m∧av=.int .i64 p∧p+tail.length=20∧Hid (uk 20 N=uk p m++tail)∧Hid (m<10 ^ p)∧m≤N∧(0<p)∧Hid (∀i c,tail[i]? = some c→wr.cell? ⟨w.heap.size,p+i,none⟩=some (.int .u8 c.toNat))∧Hid (∀i,i<20→∃v,wr.cell? ⟨w.heap.size,i,none⟩=some v)∧(∀i,wr.frozen? ⟨w.heap.size,i,none⟩=false)∧Below w.heap.size w wr∧w.heap.size<wr.heap.size) (fun nv _ _=>(intOf nv).toNat)
 case atStart =>
  exact⟨20,N,[],rfl,rfl,rfl,show _=_ by simp,show N<10 ^ 20 by omega,Nat.le_refl _,by omega,show ∀i c,_→_ from fun i c h=>by simp at h,show ∀i,_→_ from fun i hi=>IY hi,by simp[go_sem],blw,by simp⟩
 case round =>
  obtain⟨p,m,tail,rfl,rfl,hp,hd,hm,hmN,h0,ht,hc,hf,hb,hz⟩:=hrel;obtain⟨q,rfl⟩:∃q,p=q+1:=⟨p-1,by omega⟩;obtain⟨v,hv⟩:=hc.out q (by omega);have hq20:(q:Int)≤20:=by omega
  have hcell:(wr.setCell ⟨w.heap.size,q,none⟩ (.int .u8 (48+(m:Int) % 10))).cell? ⟨w.heap.size,q,none⟩=some (.int .u8 (48+(m:Int) % 10)):=World.cell?_setCell_same _ _ _ hv
  have hnew:Hid (∀i c,(UInt8.ofNat (48+m % 10)::tail)[i]? = some c→(wr.setCell ⟨w.heap.size,q,none⟩ (.int .u8 (48+(m:Int) % 10))).cell? ⟨w.heap.size,q+i,none⟩=some (.int .u8 c.toNat)):=by
   show ∀i c,_→_;intro i c hi;cases i with
   |zero =>
    simp only[List.getElem?_cons_zero,Option.some.injEq]at hi;subst hi;rw[Nat.add_zero,hcell,UInt8.toNat_ofNat'];congr 2;omega
   |succ j =>
    rw[World.cell?_setCell_other _ _ _ _ (by intro e;injection e with _ e;omega),show q+(j+1)=q+1+j by omega];exact ht.out j c (by simpa using hi)
  clear hcell;by_cases h10:m<10
  ·have h10':((m:Int) / 10==0)=true:=by simp;omega
   have hs:decS N=⟨(UInt8.ofNat (48+m % 10)::tail).toArray⟩:=by
    unfold decS;rw[hd.out,uk,if_pos h10,Nat.mod_eq_of_lt h10];rfl
   have hconv:∀cap,(convert 39 9 (.slice (some ⟨w.heap.size,q,none⟩) (20-q) cap)).run prog (wr.setCell ⟨w.heap.size,q,none⟩ (.int .u8 (48+(m:Int) % 10)))=.ok (.string (decS N)) (wr.setCell ⟨w.heap.size,q,none⟩ (.int .u8 (48+(m:Int) % 10))):=fun cap=>by
    have hsz:(decS N).size=20-q:=by rw[hs];simp[ByteArray.size];omega
    rw[←hsz];refine Lib.run_convert_whole _ _ 5 _ Tryz.underlying39 Tryz.underlying5 Tryz.underlying9 _ _ _ (fun i hi=>?_) cap;refine hnew.out i _ ?_;rw[getElem?_eq_getElem (by rw[hs]at hi;simpa[ByteArray.size] using hi)];congr 1;simp only[hs];rfl
   clear hs
   go_wp2_with fail
   go_ret;exact⟨rfl,blw⟩
  ·have h10':((m:Int) / 10==0)=false:=by simp;omega
   go_wp2_with fail
   go_roundw
   case rel=>exact⟨q,m / 10,UInt8.ofNat (48+m % 10)::tail,by go_num,rfl,by simp;omega,show _=_ by rw[hd.out,uk,if_neg h10];simp,show _<_ from NC hm.out,by omega,NB hm.out h10,hnew,show ∀i,_→_ from fun i hi=>LZ (hc.out i hi),fun i=>by simp[go_sem,hf],blw,by simpa[World.setCell] using hz⟩
   case measure=>simp[intOf];omega
theorem EM (n:Int)(w:World)(h:n<0)(hl : -9223372036854775808≤n) :
  Calls prog 124 #[.int .i64 n] w fun e w'=>e=.returned (.string (⟨#[45]⟩++decS (-n).toNat))∧Below w.heap.size w w':=by
 have HD:=fun(w:World)=>ox (-n).toNat w (by omega);have HDD:=Lib.hid HD;have HU:=Lib.hid (O1 h hl);have hsz:=decS_size (-n).toNat;clear HD hl;go_enter func124,ntmps124
 go_wp2_with fail
 rw[HU.out];refine(HDD.out _).mono ?_;rintro e w' ⟨rfl,hb⟩
 go_wp2_with fail
 go_ret;exact⟨rfl,hb⟩
theorem EN (n:Int)(w:World)(h:0≤n)(hl:n≤9223372036854775807) :
  Calls prog 124 #[.int .i64 n] w fun e w'=>e=.returned (.string (⟨#[43]⟩++decS n.toNat))∧Below w.heap.size w w':=by
 have HD:=fun(w:World)=>ox n.toNat w (by omega);have HDD:=Lib.hid HD;have HU:=Lib.hid (F0 h hl);have hsz:=decS_size n.toNat;clear HD hl;go_enter func124,ntmps124
 go_wp2_with fail
 rw[HU.out];refine(HDD.out _).mono ?_;rintro e w' ⟨rfl,hb⟩
 go_wp2_with fail
 go_ret;exact⟨rfl,hb⟩
theorem og {w W w2:World}(h:Below W.heap.size W w2)(h0:Below w.heap.size w W):Below w.heap.size w w2:=h0.trans (h.mono h0.size)
def PrintPost (v:Val)(w:World)(e:Ending)(w':World):Prop:=∃s x,printF v=(s,x)∧e=.returned (.tuple #[.string s,.int .i64 x])∧Below w.heap.size w w'
theorem PrintPost.mk {v:Val}{w w':World}{s:ByteArray}{x:Int}(h:printF v=(s,x))(hb:Below w.heap.size w w'):PrintPost v w (.returned (.tuple #[.string s,.int .i64 x])) w':=⟨_,_,h,rfl,hb⟩
theorem Ei (a:Int)(p m:ByteArray)(w:World)(p1:¬p.toList=[])(p2:p.toList.isEmpty=false)(p4:p.size≤maxLen)(p3:cJ p=false)(hx:printF ⟨a,p,m⟩=(⟨#[]⟩,90)) :
  Calls prog 61 #[.agg #[.int .i64 a,.string p,.string m]] w (PrintPost ⟨a,p,m⟩ w):=by
 have HX:=Lib.hid hx;clear hx;have i0:∀w,(Instr.index 82 (.agg #[.string p,.string m]) (.int .i64 0)).run prog w=.ok (.string p) w:=fun _=>by kernel_rfl
 have i1:∀w,(Instr.index 82 (.agg #[.string p,.string m]) (.int .i64 1)).run prog w=.ok (.string m) w:=fun _=>by kernel_rfl
 go_enter func61,ntmps61
 go_wp2_with fail
 go_loop [12] (fun i=>i=.int .i64 0) (fun i=>2-(intOf i).toNat)
 case atStart=>exact rfl
 case round =>
  obtain rfl:=hrel
  go_wp2_with (first | (go_at_call 122;refine(aG _ _ (by assumption)).mono ?_;rintro e w' ⟨rfl,rfl⟩) | (go_at_call 123;refine(cx _ _ _ _).mono ?_;rintro e w1 ⟨rfl,o3,rfl⟩))
  (go_ret2;exact PrintPost.mk HX.out blw)
theorem BV (a:Int)(m:ByteArray)(w:World)(m1:¬m.toList=[])(m2:m.toList.isEmpty=false)(m4:m.size≤maxLen)(m3:cJ m=false)(hx:printF ⟨a,⟨#[]⟩,m⟩=(⟨#[]⟩,90)) :
  Calls prog 61 #[.agg #[.int .i64 a,.string ⟨#[]⟩,.string m]] w (PrintPost ⟨a,⟨#[]⟩,m⟩ w):=by
 have HX:=Lib.hid hx;clear hx;have i0:∀w,(Instr.index 82 (.agg #[.string ⟨#[]⟩,.string m]) (.int .i64 0)).run prog w=.ok (.string ⟨#[]⟩) w:=fun _=>by kernel_rfl
 have i1:∀w,(Instr.index 82 (.agg #[.string ⟨#[]⟩,.string m]) (.int .i64 1)).run prog w=.ok (.string m) w:=fun _=>by kernel_rfl
 go_enter func61,ntmps61
 go_wp2_with fail
 go_loop [12] (fun i=>i=.int .i64 0∨i=.int .i64 1) (fun i=>2-(intOf i).toNat)
 case atStart=>exact .inl rfl
 case round =>
  rcases hrel with rfl | rfl
  ·go_wp2_with (first | (go_at_call 122;refine(aG _ _ (by assumption)).mono ?_;rintro e w' ⟨rfl,rfl⟩))
   go_round
   case rel=>exact .inr rfl
   case measure=>simp[intOf]
  ·go_wp2_with (first | (go_at_call 122;refine(aG _ _ (by assumption)).mono ?_;rintro e w' ⟨rfl,rfl⟩) | (go_at_call 123;refine(cx _ _ _ _).mono ?_;rintro e w1 ⟨rfl,o3,rfl⟩))
   (go_ret2;exact PrintPost.mk HX.out blw)
theorem Eh (a:Int)(p m:ByteArray)(w:World)(p1:¬p.toList=[])(p2:p.toList.isEmpty=false)(p4:p.size≤maxLen)(p3:cJ p=true)(m1:¬m.toList=[])(m2:m.toList.isEmpty=false)(m4:m.size≤maxLen)(m3:cJ m=false)(hx:printF ⟨a,p,m⟩=(⟨#[]⟩,90)) :
  Calls prog 61 #[.agg #[.int .i64 a,.string p,.string m]] w (PrintPost ⟨a,p,m⟩ w):=by
 have HX:=Lib.hid hx;clear hx;have i0:∀w,(Instr.index 82 (.agg #[.string p,.string m]) (.int .i64 0)).run prog w=.ok (.string p) w:=fun _=>by kernel_rfl
 have i1:∀w,(Instr.index 82 (.agg #[.string p,.string m]) (.int .i64 1)).run prog w=.ok (.string m) w:=fun _=>by kernel_rfl
 go_enter func61,ntmps61
 go_wp2_with fail
 go_loop [12] (fun i=>i=.int .i64 0∨i=.int .i64 1) (fun i=>2-(intOf i).toNat)
 case atStart=>exact .inl rfl
 case round =>
  rcases hrel with rfl | rfl
  ·go_wp2_with (first | (go_at_call 122;refine(aG _ _ (by assumption)).mono ?_;rintro e w' ⟨rfl,rfl⟩))
   go_round
   case rel=>exact .inr rfl
   case measure=>simp[intOf]
  ·go_wp2_with (first | (go_at_call 122;refine(aG _ _ (by assumption)).mono ?_;rintro e w' ⟨rfl,rfl⟩) | (go_at_call 123;refine(cx _ _ _ _).mono ?_;rintro e w1 ⟨rfl,o3,rfl⟩))
   (go_ret2;exact PrintPost.mk HX.out blw)
theorem El (a:Int)(p:ByteArray)(w:World)(p1:¬p.toList=[])(p2:p.toList.isEmpty=false)(p4:p.size≤maxLen)(p3:cJ p=true)(hx:printF ⟨a,p,p⟩=(⟨#[]⟩,90)) :
  Calls prog 61 #[.agg #[.int .i64 a,.string p,.string p]] w (PrintPost ⟨a,p,p⟩ w):=by
 have HX:=Lib.hid hx;clear hx;have i0:∀w,(Instr.index 82 (.agg #[.string p,.string p]) (.int .i64 0)).run prog w=.ok (.string p) w:=fun _=>by kernel_rfl
 have i1:∀w,(Instr.index 82 (.agg #[.string p,.string p]) (.int .i64 1)).run prog w=.ok (.string p) w:=fun _=>by kernel_rfl
 go_enter func61,ntmps61
 go_wp2_with fail
 go_loop [12] (fun i=>i=.int .i64 0∨i=.int .i64 1∨i=.int .i64 2) (fun i=>2-(intOf i).toNat)
 case atStart=>exact .inl rfl
 case round =>
  rcases hrel with rfl | rfl | rfl
  ·go_wp2_with (first | (go_at_call 122;refine(aG _ _ (by assumption)).mono ?_;rintro e w' ⟨rfl,rfl⟩))
   go_round
   case rel=>exact .inr (.inl rfl)
   case measure=>simp[intOf]
  ·go_wp2_with (first | (go_at_call 122;refine(aG _ _ (by assumption)).mono ?_;rintro e w' ⟨rfl,rfl⟩))
   go_round
   case rel=>exact .inr (.inr rfl)
   case measure=>simp[intOf]
  ·go_wp2_with (first | (go_at_call 122;refine(aG _ _ (by assumption)).mono ?_;rintro e w' ⟨rfl,rfl⟩) | (go_at_call 123;refine(cx _ _ _ _).mono ?_;rintro e w1 ⟨rfl,o3,rfl⟩))
   (go_ret2;exact PrintPost.mk HX.out blw)
theorem un (a:Int)(w:World)(ha:a<0)(pl:cu ⟨#[]⟩ ⟨#[]⟩=true)(hs:∀W,Calls prog 124 #[.int .i64 a] W fun e w'=>e=.returned (.string (fV a))∧Below W.heap.size W w')(hx:printF ⟨a,⟨#[]⟩,⟨#[]⟩⟩=((fV a),0)) :
  Calls prog 61 #[.agg #[.int .i64 a,.string ⟨#[]⟩,.string ⟨#[]⟩]] w (PrintPost ⟨a,⟨#[]⟩,⟨#[]⟩⟩ w):=by
 have HX:=Lib.hid hx;clear hx;have HSS:=Lib.hid hs;clear hs;have i0:∀w,(Instr.index 82 (.agg #[.string ⟨#[]⟩,.string ⟨#[]⟩]) (.int .i64 0)).run prog w=.ok (.string ⟨#[]⟩) w:=fun _=>by kernel_rfl
 have i1:∀w,(Instr.index 82 (.agg #[.string ⟨#[]⟩,.string ⟨#[]⟩]) (.int .i64 1)).run prog w=.ok (.string ⟨#[]⟩) w:=fun _=>by kernel_rfl
 go_enter func61,ntmps61
 go_wp2_with fail
 go_loop [12] (fun i=>i=.int .i64 0∨i=.int .i64 1∨i=.int .i64 2) (fun i=>2-(intOf i).toNat)
 case atStart=>exact .inl rfl
 case round =>
  rcases hrel with rfl | rfl | rfl
  ·go_wp2_with (first | (go_at_call 122;refine(aG _ _ (by assumption)).mono ?_;rintro e w' ⟨rfl,rfl⟩))
   go_round
   case rel=>exact .inr (.inl rfl)
   case measure=>simp[intOf]
  ·go_wp2_with (first | (go_at_call 122;refine(aG _ _ (by assumption)).mono ?_;rintro e w' ⟨rfl,rfl⟩))
   go_round
   case rel=>exact .inr (.inr rfl)
   case measure=>simp[intOf]
  ·go_wp2_with (first | (go_at_call 122;refine(aG _ _ (by assumption)).mono ?_;rintro e w' ⟨rfl,rfl⟩) | (go_at_call 123;refine(cx _ _ _ _).mono ?_;rintro e w1 ⟨rfl,o3,rfl⟩) | (go_at_call 124;refine(HSS.out _).mono ?_;rintro e w2 ⟨rfl,hb2⟩;replace hb2:Below w.heap.size w w2:=og hb2 blw))
   (go_ret2;exact PrintPost.mk HX.out blw)
theorem uo (a:Int)(w:World)(ha:0≤a)(pl:cu ⟨#[]⟩ ⟨#[]⟩=true)(hd:∀W,Calls prog 125 #[.int .u64 (a.toNat:Int)] W fun e w'=>e=.returned (.string (decS a.toNat))∧Below W.heap.size W w')(hu:IntKind.u64.wrap a=((a.toNat:Nat):Int))(hx:printF ⟨a,⟨#[]⟩,⟨#[]⟩⟩=((decS a.toNat),0)) :
  Calls prog 61 #[.agg #[.int .i64 a,.string ⟨#[]⟩,.string ⟨#[]⟩]] w (PrintPost ⟨a,⟨#[]⟩,⟨#[]⟩⟩ w):=by
 have HX:=Lib.hid hx;clear hx;have HDD:=Lib.hid hd;have HU:=Lib.hid hu;clear hd hu;have i0:∀w,(Instr.index 82 (.agg #[.string ⟨#[]⟩,.string ⟨#[]⟩]) (.int .i64 0)).run prog w=.ok (.string ⟨#[]⟩) w:=fun _=>by kernel_rfl
 have i1:∀w,(Instr.index 82 (.agg #[.string ⟨#[]⟩,.string ⟨#[]⟩]) (.int .i64 1)).run prog w=.ok (.string ⟨#[]⟩) w:=fun _=>by kernel_rfl
 go_enter func61,ntmps61
 go_wp2_with fail
 go_loop [12] (fun i=>i=.int .i64 0∨i=.int .i64 1∨i=.int .i64 2) (fun i=>2-(intOf i).toNat)
 case atStart=>exact .inl rfl
 case round =>
  rcases hrel with rfl | rfl | rfl
  ·go_wp2_with (first | (go_at_call 122;refine(aG _ _ (by assumption)).mono ?_;rintro e w' ⟨rfl,rfl⟩))
   go_round
   case rel=>exact .inr (.inl rfl)
   case measure=>simp[intOf]
  ·go_wp2_with (first | (go_at_call 122;refine(aG _ _ (by assumption)).mono ?_;rintro e w' ⟨rfl,rfl⟩))
   go_round
   case rel=>exact .inr (.inr rfl)
   case measure=>simp[intOf]
  ·go_wp2_with (first | (go_at_call 122;refine(aG _ _ (by assumption)).mono ?_;rintro e w' ⟨rfl,rfl⟩) | (go_at_call 123;refine(cx _ _ _ _).mono ?_;rintro e w1 ⟨rfl,o3,rfl⟩) | (go_at_call 125;rw[HU.out];refine(HDD.out _).mono ?_;rintro e w2 ⟨rfl,hb2⟩;replace hb2:Below w.heap.size w w2:=og hb2 blw))
   (go_ret2;exact PrintPost.mk HX.out blw)
theorem In (m:ByteArray)(w:World)(m1:¬m.toList=[])(m2:m.toList.isEmpty=false)(m4:m.size≤maxLen)(m3:cJ m=true)(m5:m.size≤512)(pl:cu ⟨#[]⟩ m=false)(hx:printF ⟨0,⟨#[]⟩,m⟩=((⟨#[48]⟩++(⟨#[45]⟩++m)),0)) :
  Calls prog 61 #[.agg #[.int .i64 0,.string ⟨#[]⟩,.string m]] w (PrintPost ⟨0,⟨#[]⟩,m⟩ w):=by
 have HX:=Lib.hid hx;clear hx;have i0:∀w,(Instr.index 82 (.agg #[.string ⟨#[]⟩,.string m]) (.int .i64 0)).run prog w=.ok (.string ⟨#[]⟩) w:=fun _=>by kernel_rfl
 have i1:∀w,(Instr.index 82 (.agg #[.string ⟨#[]⟩,.string m]) (.int .i64 1)).run prog w=.ok (.string m) w:=fun _=>by kernel_rfl
 go_enter func61,ntmps61
 go_wp2_with fail
 go_loop [12] (fun i=>i=.int .i64 0∨i=.int .i64 1∨i=.int .i64 2) (fun i=>2-(intOf i).toNat)
 case atStart=>exact .inl rfl
 case round =>
  rcases hrel with rfl | rfl | rfl
  ·go_wp2_with (first | (go_at_call 122;refine(aG _ _ (by assumption)).mono ?_;rintro e w' ⟨rfl,rfl⟩))
   go_round
   case rel=>exact .inr (.inl rfl)
   case measure=>simp[intOf]
  ·go_wp2_with (first | (go_at_call 122;refine(aG _ _ (by assumption)).mono ?_;rintro e w' ⟨rfl,rfl⟩))
   go_round
   case rel=>exact .inr (.inr rfl)
   case measure=>simp[intOf]
  ·go_wp2_with (first | (go_at_call 122;refine(aG _ _ (by assumption)).mono ?_;rintro e w' ⟨rfl,rfl⟩) | (go_at_call 123;refine(cx _ _ _ _).mono ?_;rintro e w1 ⟨rfl,o3,rfl⟩))
   (go_ret2;exact PrintPost.mk HX.out blw)
theorem Io (a:Int)(m:ByteArray)(w:World)(m1:¬m.toList=[])(m2:m.toList.isEmpty=false)(m4:m.size≤maxLen)(m3:cJ m=true)(m5:m.size≤512)(pl:cu ⟨#[]⟩ m=false)(ha:(a !=0)=true)(sz:(fV a).size≤21)(hs:∀W,Calls prog 124 #[.int .i64 a] W fun e w'=>e=.returned (.string (fV a))∧Below W.heap.size W w')(hx:printF ⟨a,⟨#[]⟩,m⟩=(((⟨#[48]⟩++(⟨#[45]⟩++m))++fV a),0)) :
  Calls prog 61 #[.agg #[.int .i64 a,.string ⟨#[]⟩,.string m]] w (PrintPost ⟨a,⟨#[]⟩,m⟩ w):=by
 have HX:=Lib.hid hx;clear hx;have HSS:=Lib.hid hs;clear hs;have i0:∀w,(Instr.index 82 (.agg #[.string ⟨#[]⟩,.string m]) (.int .i64 0)).run prog w=.ok (.string ⟨#[]⟩) w:=fun _=>by kernel_rfl
 have i1:∀w,(Instr.index 82 (.agg #[.string ⟨#[]⟩,.string m]) (.int .i64 1)).run prog w=.ok (.string m) w:=fun _=>by kernel_rfl
 go_enter func61,ntmps61
 go_wp2_with fail
 go_loop [12] (fun i=>i=.int .i64 0∨i=.int .i64 1∨i=.int .i64 2) (fun i=>2-(intOf i).toNat)
 case atStart=>exact .inl rfl
 case round =>
  rcases hrel with rfl | rfl | rfl
  ·go_wp2_with (first | (go_at_call 122;refine(aG _ _ (by assumption)).mono ?_;rintro e w' ⟨rfl,rfl⟩))
   go_round
   case rel=>exact .inr (.inl rfl)
   case measure=>simp[intOf]
  ·go_wp2_with (first | (go_at_call 122;refine(aG _ _ (by assumption)).mono ?_;rintro e w' ⟨rfl,rfl⟩))
   go_round
   case rel=>exact .inr (.inr rfl)
   case measure=>simp[intOf]
  ·go_wp2_with (first | (go_at_call 122;refine(aG _ _ (by assumption)).mono ?_;rintro e w' ⟨rfl,rfl⟩) | (go_at_call 123;refine(cx _ _ _ _).mono ?_;rintro e w1 ⟨rfl,o3,rfl⟩) | (go_at_call 124;refine(HSS.out _).mono ?_;rintro e w2 ⟨rfl,hb2⟩;replace hb2:Below w.heap.size w w2:=og hb2 blw))
   (go_ret2;exact PrintPost.mk HX.out blw)
theorem Ip (p:ByteArray)(w:World)(p1:¬p.toList=[])(p2:p.toList.isEmpty=false)(p4:p.size≤maxLen)(p3:cJ p=true)(p5:p.size≤512)(pl:cu p ⟨#[]⟩=false)(hx:printF ⟨0,p,⟨#[]⟩⟩=(p,0)) :
  Calls prog 61 #[.agg #[.int .i64 0,.string p,.string ⟨#[]⟩]] w (PrintPost ⟨0,p,⟨#[]⟩⟩ w):=by
 have HX:=Lib.hid hx;clear hx;have i0:∀w,(Instr.index 82 (.agg #[.string p,.string ⟨#[]⟩]) (.int .i64 0)).run prog w=.ok (.string p) w:=fun _=>by kernel_rfl
 have i1:∀w,(Instr.index 82 (.agg #[.string p,.string ⟨#[]⟩]) (.int .i64 1)).run prog w=.ok (.string ⟨#[]⟩) w:=fun _=>by kernel_rfl
 go_enter func61,ntmps61
 go_wp2_with fail
 go_loop [12] (fun i=>i=.int .i64 0∨i=.int .i64 1∨i=.int .i64 2) (fun i=>2-(intOf i).toNat)
 case atStart=>exact .inl rfl
 case round =>
  rcases hrel with rfl | rfl | rfl
  ·go_wp2_with (first | (go_at_call 122;refine(aG _ _ (by assumption)).mono ?_;rintro e w' ⟨rfl,rfl⟩))
   go_round
   case rel=>exact .inr (.inl rfl)
   case measure=>simp[intOf]
  ·go_wp2_with (first | (go_at_call 122;refine(aG _ _ (by assumption)).mono ?_;rintro e w' ⟨rfl,rfl⟩))
   go_round
   case rel=>exact .inr (.inr rfl)
   case measure=>simp[intOf]
  ·go_wp2_with (first | (go_at_call 122;refine(aG _ _ (by assumption)).mono ?_;rintro e w' ⟨rfl,rfl⟩) | (go_at_call 123;refine(cx _ _ _ _).mono ?_;rintro e w1 ⟨rfl,o3,rfl⟩))
   (go_ret2;exact PrintPost.mk HX.out blw)
theorem Iq (a:Int)(p:ByteArray)(w:World)(p1:¬p.toList=[])(p2:p.toList.isEmpty=false)(p4:p.size≤maxLen)(p3:cJ p=true)(p5:p.size≤512)(pl:cu p ⟨#[]⟩=false)(ha:(a !=0)=true)(sz:(fV a).size≤21)(hs:∀W,Calls prog 124 #[.int .i64 a] W fun e w'=>e=.returned (.string (fV a))∧Below W.heap.size W w')(hx:printF ⟨a,p,⟨#[]⟩⟩=((p++fV a),0)) :
  Calls prog 61 #[.agg #[.int .i64 a,.string p,.string ⟨#[]⟩]] w (PrintPost ⟨a,p,⟨#[]⟩⟩ w):=by
 have HX:=Lib.hid hx;clear hx;have HSS:=Lib.hid hs;clear hs;have i0:∀w,(Instr.index 82 (.agg #[.string p,.string ⟨#[]⟩]) (.int .i64 0)).run prog w=.ok (.string p) w:=fun _=>by kernel_rfl
 have i1:∀w,(Instr.index 82 (.agg #[.string p,.string ⟨#[]⟩]) (.int .i64 1)).run prog w=.ok (.string ⟨#[]⟩) w:=fun _=>by kernel_rfl
 go_enter func61,ntmps61
 go_wp2_with fail
 go_loop [12] (fun i=>i=.int .i64 0∨i=.int .i64 1∨i=.int .i64 2) (fun i=>2-(intOf i).toNat)
 case atStart=>exact .inl rfl
 case round =>
  rcases hrel with rfl | rfl | rfl
  ·go_wp2_with (first | (go_at_call 122;refine(aG _ _ (by assumption)).mono ?_;rintro e w' ⟨rfl,rfl⟩))
   go_round
   case rel=>exact .inr (.inl rfl)
   case measure=>simp[intOf]
  ·go_wp2_with (first | (go_at_call 122;refine(aG _ _ (by assumption)).mono ?_;rintro e w' ⟨rfl,rfl⟩))
   go_round
   case rel=>exact .inr (.inr rfl)
   case measure=>simp[intOf]
  ·go_wp2_with (first | (go_at_call 122;refine(aG _ _ (by assumption)).mono ?_;rintro e w' ⟨rfl,rfl⟩) | (go_at_call 123;refine(cx _ _ _ _).mono ?_;rintro e w1 ⟨rfl,o3,rfl⟩) | (go_at_call 124;refine(HSS.out _).mono ?_;rintro e w2 ⟨rfl,hb2⟩;replace hb2:Below w.heap.size w w2:=og hb2 blw))
   (go_ret2;exact PrintPost.mk HX.out blw)
theorem Ej (p m:ByteArray)(w:World)(p1:¬p.toList=[])(p2:p.toList.isEmpty=false)(p4:p.size≤maxLen)(p3:cJ p=true)(m1:¬m.toList=[])(m2:m.toList.isEmpty=false)(m4:m.size≤maxLen)(m3:cJ m=true)(m5:m.size≤512)(p5:p.size≤512)(pl:cu p m=false)(ne:(p.toList==m.toList)=false)(hx:printF ⟨0,p,m⟩=((p++(⟨#[45]⟩++m)),0)) :
  Calls prog 61 #[.agg #[.int .i64 0,.string p,.string m]] w (PrintPost ⟨0,p,m⟩ w):=by
 have HX:=Lib.hid hx;clear hx;have i0:∀w,(Instr.index 82 (.agg #[.string p,.string m]) (.int .i64 0)).run prog w=.ok (.string p) w:=fun _=>by kernel_rfl
 have i1:∀w,(Instr.index 82 (.agg #[.string p,.string m]) (.int .i64 1)).run prog w=.ok (.string m) w:=fun _=>by kernel_rfl
 go_enter func61,ntmps61
 go_wp2_with fail
 go_loop [12] (fun i=>i=.int .i64 0∨i=.int .i64 1∨i=.int .i64 2) (fun i=>2-(intOf i).toNat)
 case atStart=>exact .inl rfl
 case round =>
  rcases hrel with rfl | rfl | rfl
  ·go_wp2_with (first | (go_at_call 122;refine(aG _ _ (by assumption)).mono ?_;rintro e w' ⟨rfl,rfl⟩))
   go_round
   case rel=>exact .inr (.inl rfl)
   case measure=>simp[intOf]
  ·go_wp2_with (first | (go_at_call 122;refine(aG _ _ (by assumption)).mono ?_;rintro e w' ⟨rfl,rfl⟩))
   go_round
   case rel=>exact .inr (.inr rfl)
   case measure=>simp[intOf]
  ·go_wp2_with (first | (go_at_call 122;refine(aG _ _ (by assumption)).mono ?_;rintro e w' ⟨rfl,rfl⟩) | (go_at_call 123;refine(cx _ _ _ _).mono ?_;rintro e w1 ⟨rfl,o3,rfl⟩))
   (go_ret2;exact PrintPost.mk HX.out blw)
theorem Ek (a:Int)(p m:ByteArray)(w:World)(p1:¬p.toList=[])(p2:p.toList.isEmpty=false)(p4:p.size≤maxLen)(p3:cJ p=true)(m1:¬m.toList=[])(m2:m.toList.isEmpty=false)(m4:m.size≤maxLen)(m3:cJ m=true)(m5:m.size≤512)(p5:p.size≤512)(pl:cu p m=false)(ne:(p.toList==m.toList)=false)(ha:(a !=0)=true)(sz:(fV a).size≤21)(hs:∀W,Calls prog 124 #[.int .i64 a] W fun e w'=>e=.returned (.string (fV a))∧Below W.heap.size W w')(hx:printF ⟨a,p,m⟩=(((p++(⟨#[45]⟩++m))++fV a),0)) :
  Calls prog 61 #[.agg #[.int .i64 a,.string p,.string m]] w (PrintPost ⟨a,p,m⟩ w):=by
 have HX:=Lib.hid hx;clear hx;have HSS:=Lib.hid hs;clear hs;have i0:∀w,(Instr.index 82 (.agg #[.string p,.string m]) (.int .i64 0)).run prog w=.ok (.string p) w:=fun _=>by kernel_rfl
 have i1:∀w,(Instr.index 82 (.agg #[.string p,.string m]) (.int .i64 1)).run prog w=.ok (.string m) w:=fun _=>by kernel_rfl
 go_enter func61,ntmps61
 go_wp2_with fail
 go_loop [12] (fun i=>i=.int .i64 0∨i=.int .i64 1∨i=.int .i64 2) (fun i=>2-(intOf i).toNat)
 case atStart=>exact .inl rfl
 case round =>
  rcases hrel with rfl | rfl | rfl
  ·go_wp2_with (first | (go_at_call 122;refine(aG _ _ (by assumption)).mono ?_;rintro e w' ⟨rfl,rfl⟩))
   go_round
   case rel=>exact .inr (.inl rfl)
   case measure=>simp[intOf]
  ·go_wp2_with (first | (go_at_call 122;refine(aG _ _ (by assumption)).mono ?_;rintro e w' ⟨rfl,rfl⟩))
   go_round
   case rel=>exact .inr (.inr rfl)
   case measure=>simp[intOf]
  ·go_wp2_with (first | (go_at_call 122;refine(aG _ _ (by assumption)).mono ?_;rintro e w' ⟨rfl,rfl⟩) | (go_at_call 123;refine(cx _ _ _ _).mono ?_;rintro e w1 ⟨rfl,o3,rfl⟩) | (go_at_call 124;refine(HSS.out _).mono ?_;rintro e w2 ⟨rfl,hb2⟩;replace hb2:Below w.heap.size w w2:=og hb2 blw))
   (go_ret2;exact PrintPost.mk HX.out blw)
theorem EL (n:Int)(w:World)(hl : -9223372036854775808≤n)(hu:n≤9223372036854775807) :
  Calls prog 124 #[.int .i64 n] w fun e w'=>e=.returned (.string (fV n))∧Below w.heap.size w w':=by
 by_cases h:n<0
 ·have e:fV n=⟨#[45]⟩++decS (-n).toNat:=by rw[fV,if_pos h]
  rw[e];exact EM n w h hl
 ·have e:fV n=⟨#[43]⟩++decS n.toNat:=by rw[fV,if_neg h]
  rw[e];exact EN n w (by omega) hu
theorem print_any (a:Int)(p m:ByteArray)(w:World)(hp:p.size≤maxLen)(hm:m.size≤maxLen)(hl : -9223372036854775808≤a)(hu:a≤9223372036854775807) :
  Calls prog 61 #[.agg #[.int .i64 a,.string p,.string m]] w (PrintPost ⟨a,p,m⟩ w):=by
 have hs:=fun W=>EL a W hl hu;have hz:=signS_size a;by_cases hp0:p=emp
 ·subst hp0;by_cases hm0:m=emp
  ·subst hm0;by_cases ha:a<0
   ·exact un a w ha rfl hs (by simp[printF,ak,ha])
   ·exact uo a w (by omega) rfl (fun W=>ox _ W (by omega)) (F0 (by omega) hu) (by simp[printF,ak,ha])
  ·have m1:=mt qg.1 hm0;have m2:m.toList.isEmpty=false:=by simpa using m1
   cases m3:cJ m with
   |false=>exact BV a m w m1 m2 hm m3 (by simp[printF,ak,hm0,m3];try rfl)
   |true =>
    have m5:=mO m3;have pl:cu ⟨#[]⟩ m=false:=by simp[cu,ak,hm0]
    by_cases ha:a=0
    ·subst ha;exact In m w m1 m2 hm m3 m5 pl (by simp[printF,ak,hm0,m3,J5 hm0])
    ·exact Io a m w m1 m2 hm m3 m5 pl (by simpa using ha) hz hs (by simp[printF,ak,hm0,m3,ha,J5 hm0])
 ·have p1:=mt qg.1 hp0;have p2:p.toList.isEmpty=false:=by simpa using p1
  cases p3:cJ p with
  |false=>exact Ei a p m w p1 p2 hp p3 (by simp[printF,ak,hp0,p3];try rfl)
  |true =>
   have p5:=mO p3;by_cases hm0:m=emp
   ·subst hm0;have pl:cu p ⟨#[]⟩=false:=by simp[cu,hp0]
    by_cases ha:a=0
    ·subst ha;exact Ip p w p1 p2 hp p3 p5 pl (by simp[printF,ak,hp0,p3])
    ·exact Iq a p w p1 p2 hp p3 p5 pl (by simpa using ha) hz hs (by simp[printF,ak,hp0,p3,ha])
   ·have m1:=mt qg.1 hm0;have m2:m.toList.isEmpty=false:=by simpa using m1
    cases m3:cJ m with
    |false=>exact Eh a p m w p1 p2 hp p3 m1 m2 hm m3 (by simp[printF,ak,hm0,m3];try rfl)
    |true =>
     have m5:=mO m3;by_cases e:p=m
     ·subst e;exact El a p w p1 p2 hp p3 (by simp[printF,ak,hp0,p3];try rfl)
     ·have ne:(p.toList==m.toList)=false:=by simpa[za] using e
      have pl:cu p m=false:=by simp[cu,hp0]
      by_cases ha:a=0
      ·subst ha;exact Ej p m w p1 p2 hp p3 m1 m2 hm m3 m5 p5 pl ne (by simp[printF,ak,hp0,hm0,p3,m3,e])
      ·exact Ek a p m w p1 p2 hp p3 m1 m2 hm m3 m5 p5 pl ne (by simpa using ha) hz hs (by simp[printF,ak,hp0,hm0,p3,m3,e,ha])
end Ex
theorem IL:∀k:Fin 100,(if k.val<10 then(⟨#[48,49,50,51,52,53,54,55,56,57,97,98,99,100,101,102,103,104,105,106,107,108,109,110,111,112,113,114,115,116,117,118,119,120,121,122]⟩:ByteArray).extract k.val (k.val+1) else(⟨#[48,48,48,49,48,50,48,51,48,52,48,53,48,54,48,55,48,56,48,57,49,48,49,49,49,50,49,51,49,52,49,53,49,54,49,55,49,56,49,57,50,48,50,49,50,50,50,51,50,52,50,53,50,54,50,55,50,56,50,57,51,48,51,49,51,50,51,51,51,52,51,53,51,54,51,55,51,56,51,57,52,48,52,49,52,50,52,51,52,52,52,53,52,54,52,55,52,56,52,57,53,48,53,49,53,50,53,51,53,52,53,53,53,54,53,55,53,56,53,57,54,48,54,49,54,50,54,51,54,52,54,53,54,54,54,55,54,56,54,57,55,48,55,49,55,50,55,51,55,52,55,53,55,54,55,55,55,56,55,57,56,48,56,49,56,50,56,51,56,52,56,53,56,54,56,55,56,56,56,57,57,48,57,49,57,50,57,51,57,52,57,53,57,54,57,55,57,56,57,57]⟩:ByteArray).extract (2*k.val) (2*k.val+2))=Ex.decS k.val:=by decide +kernel
abbrev RH:am prog 259 :=
 mz1 func259 (bq .i64) ((fun n=>0≤n∧n<100)) ((fun n=>.ret (sv (oH n)))) (asP fun n hn=>by
 refine aq [] rfl ?_;obtain⟨h0,h1⟩:=hn;obtain⟨k,rfl⟩:=Int.eq_ofNat_of_zero_le h0;have hk:k<100:=by omega
 have e0:=IL ⟨k,hk⟩;simp only at e0;by_cases h2:k<10
 ·have h2I:(k:Int)<10:=by omega
  have e1:=wI k;have l1:((k+1:Nat):Int)≤36:=by omega
  have l2:(k:Int)≤((k+1:Nat):Int):=by omega
  rw[if_pos h2]at e0;simp only[go_sem,h2I,e1,l1,l2,h0];exact congrArg sv e0.symm
 ·have h2I:¬(k:Int)<10:=by omega
  have e1:IntKind.i64.wrap ((k:Int)*2)=((2*k:Nat):Int):=by rw[IntKind.wrap_i64];omega
  have e2:IntKind.i64.wrap (((2*k:Nat):Int)+2)=((2*k+2:Nat):Int):=by rw[IntKind.wrap_i64];omega
  have l1:((2*k+2:Nat):Int)≤200:=by omega
  have l2:((2*k:Nat):Int)≤((2*k+2:Nat):Int):=by omega
  have l3:(0:Int)≤((2*k:Nat):Int):=by omega
  rw[if_neg h2]at e0;simp only[go_sem,h2I,e1,e2,l1,l2,l3];exact⟨Int.ofNat_le.2 (show 2*k+2≤200 by omega),congrArg sv e0.symm⟩)
abbrev PC:am prog 244 :=
 mz2 func244 (bq .i64) (bq .i64) ((fun n b=>(0≤n∧n<100)∧b=10)) ((fun n _=>.ret (sv (oH n)))) (asP fun n b hq=>by
 refine aq [⟨_,RH⟩] rfl ?_;obtain⟨hn,rfl⟩:=hq;have h0:=hn.1;have h1:=hn.2;simp only[go_sem,h0,h1,hn])
abbrev Qp:am prog 243 :=
 mz1 func243 (bq .i64) ((fun n=>0≤n∧n<100)) ((fun n=>.ret (sv (oH n)))) (asP fun n hn=>by
 refine aq [⟨_,PC⟩] rfl ?_;simp only[go_sem,hn])
abbrev Ta:am prog 214 :=
 mz1 func214 (bq .i64) ((fun n=>0≤n∧n<100)) ((fun n=>.ret (sv (oH n)))) (asP fun n hn=>by
 refine aq [⟨_,Qp⟩] rfl ?_;simp only[go_sem,hn])
abbrev Uz:am prog 215 :=
 mz2 func215 (bq .i64) (bq .i64) ((fun n b=>(0≤n∧n<100)∧b=10)) ((fun n _=>.ret (sv (oH n)))) (asP fun n b hq=>by
 refine aq [⟨_,PC⟩] rfl ?_;obtain⟨hn,rfl⟩:=hq;simp only[go_sem,hn])
def nZ:kG Val where
 dec:=fun | [.v (.int .i64 a),.v (.string p),.v (.string m)]=>some ⟨a,p,m⟩ | _=>none
 enc:=fun v=>[.v (.int .i64 v.add),.v (.string v.plus),.v (.string v.minus)]
 inv:=by
  intro c x h;split at h
  ·injection h with h;subst h;rfl
  ·cases h
 back:=by intro x;rfl
theorem E6 (v:Val):nZ.enc v=[.v (.int .i64 v.add),.v (.string v.plus),.v (.string v.minus)]:=rfl
theorem fH (a:Int)(p m:ByteArray):nZ.dec [.v (.int .i64 a),.v (.string p),.v (.string m)]=some ⟨a,p,m⟩:=rfl
def jQ (r:ByteArray×Int):AV:=.tup [.l (.v (.string r.1)),.l (.v (.int .i64 r.2))]
def nt (v:Val):Prop:=v.plus.size≤maxLen∧v.minus.size≤maxLen ∧ -9223372036854775808≤v.add∧v.add≤9223372036854775807
abbrev Eg:am prog 61:=xj _ (asP fun _ _=>by go_simp) (nX nZ) nt (fun v=>jQ (Ex.printF v)) (asP fun _=>rfl) <| asP fun x hs M w v hM hv=>by
 obtain⟨cs,rfl,h1⟩:=hv
 match cs,h1 with
 |[a,b,c],⟨_,e1,_,e2,_,e3,_⟩ =>
  obtain rfl:a=.int .i64 x.add:=e1;obtain rfl:b=.string x.plus:=e2;obtain rfl:c=.string x.minus:=e3;refine(Ex.print_any x.add x.plus x.minus w hs.1 hs.2.1 hs.2.2.1 hs.2.2.2).mono fun e w' h=>?_;obtain⟨s,y,h1,h2,h3⟩:=h;have h1':Ex.printF x=(s,y):=h1;refine⟨⟨_,h2,[.string s,.int .i64 y],rfl,?_,?_,trivial⟩,h3⟩
  ·rw[h1'];rfl
  ·rw[h1'];rfl
theorem kB {h:ag}{id:Nat}{args:List AV}:Eg.pan id h args=gh (cE (nX nZ) nt) (fun v=>.ret (jQ (Ex.printF v))) h args:=rfl
theorem Er {P:Program}{t:TypeId}{x y:Operand}{xs ys:List Value}:iU P (do eqGuard .neq t x y (.agg xs.toArray) (.agg ys.toArray);binOp .neq t (.agg xs.toArray) (.agg ys.toArray))=wi true (Eo P (do eqGuard .neq t x y (.agg xs.toArray) (.agg ys.toArray);binOp .neq t (.agg xs.toArray) (.agg ys.toArray))) (su P t xs ys):=by
  cases h:su P t xs ys with
  |none=>rfl
  |some b =>
    refine iV fun w=>?_;obtain⟨h1,h2⟩:=LY h .neq x y w;rw[Sem.run_bind,h2,Result.andThen_ok,show binOp .neq t (.agg xs.toArray) (.agg ys.toArray)=(do pure (.bool (!(←Op.equal t (.agg xs.toArray) (.agg ys.toArray))))) from rfl,Sem.run_bind,h1];rfl
def opE (o:OpV):List D:=[.v (.int .i64 o.kind),.v (.int .i64 o.r.n),.v (.bool o.r.x),.v (.bool o.r.sp),.v (.int .i64 o.m.n),.v (.bool o.m.x),.v (.bool o.m.sp),.v (.int .i64 o.md),.v (.int .i64 o.amt),.v (.int .i64 o.n),.v (.int .i64 o.add),.v (.string o.plus),.v (.string o.minus),.v (.bool o.lo),.v (.int .i64 o.mode)]
def opR:kG OpV where
 dec:=fun | [.v (.int .i64 kind),.v (.int .i64 rn),.v (.bool rx),.v (.bool rs),.v (.int .i64 mn),.v (.bool mx),.v (.bool ms),.v (.int .i64 md),.v (.int .i64 amt),.v (.int .i64 n),.v (.int .i64 add),.v (.string plus),.v (.string minus),.v (.bool lo),.v (.int .i64 mode)]=>some ⟨kind,⟨rn,rx,rs⟩,⟨mn,mx,ms⟩,md,amt,n,add,plus,minus,lo,mode⟩ | _=>none
 enc:=opE
 inv:=by
  intro c x h;split at h
  ·injection h with h;subst h;rfl
  ·cases h
 back:=by intro x;rfl
theorem ap (o:OpV):opR.enc o=opE o:=rfl
theorem opD (kind rn:Int)(rx rs:Bool)(mn:Int)(mx ms:Bool)(md amt n add:Int)(plus minus:ByteArray)(lo:Bool)(mode:Int):opR.dec [.v (.int .i64 kind),.v (.int .i64 rn),.v (.bool rx),.v (.bool rs),.v (.int .i64 mn),.v (.bool mx),.v (.bool ms),.v (.int .i64 md),.v (.int .i64 amt),.v (.int .i64 n),.v (.int .i64 add),.v (.string plus),.v (.string minus),.v (.bool lo),.v (.int .i64 mode)]=some ⟨kind,⟨rn,rx,rs⟩,⟨mn,mx,ms⟩,md,amt,n,add,plus,minus,lo,mode⟩:=rfl
abbrev tOp:Ty OpV:=nX opR
def opV (o:OpV):AV:=tOp.enc o
def opC (o:OpV):List Value:=[.int .i64 o.kind,.int .i64 o.r.n,.bool o.r.x,.bool o.r.sp,.int .i64 o.m.n,.bool o.m.x,.bool o.m.sp,.int .i64 o.md,.int .i64 o.amt,.int .i64 o.n,.int .i64 o.add,.string o.plus,.string o.minus,.bool o.lo,.int .i64 o.mode]
theorem ND:JU prog 79=some [[1],[1,2,2],[1,2,2],[1],[1],[1],[1,3,3],[2],[1]]:=by kernel_rfl
theorem QN (u v:OpV):(decide (u.kind=v.kind)&&(decide (u.r.n=v.r.n)&&(decide (u.r.x=v.r.x)&&decide (u.r.sp=v.r.sp))&&(decide (u.m.n=v.m.n)&&(decide (u.m.x=v.m.x)&&decide (u.m.sp=v.m.sp))&&(decide (u.md=v.md)&&(decide (u.amt=v.amt)&&(decide (u.n=v.n)&&(decide (u.add=v.add)&&(decide (u.plus=v.plus)&&decide (u.minus=v.minus))&&(decide (u.lo=v.lo)&&decide (u.mode=v.mode)))))))))=decide (u=v):=by
 obtain⟨a1,⟨a2,a3,a4⟩,⟨a5,a6,a7⟩,a8,a9,a10,a11,a12,a13,a14,a15⟩:=u;obtain⟨b1,⟨b2,b3,b4⟩,⟨b5,b6,b7⟩,b8,b9,b10,b11,b12,b13,b14,b15⟩:=v;rw[Bool.eq_iff_iff];simp only[OpV.mk.injEq,gO.mk.injEq,Bool.and_eq_true,decide_eq_true_eq,and_assoc]
theorem NN (a b:OpV):su prog 79 (opC a) (opC b)=some (decide (a=b)):=by
 rw[←QN];simp only[su,ND,opC,AS,fN,List.length_cons,List.length_nil,List.take_succ_cons,List.take_zero,List.drop_succ_cons,List.drop_zero,if_true,Option.map_some,Bool.and_true,Nat.zero_add,Nat.reduceAdd]
theorem cy {x y:Operand}{a b:OpV}:iU prog (do eqGuard .neq 79 x y (.agg #[.int .i64 a.kind,.int .i64 a.r.n,.bool a.r.x,.bool a.r.sp,.int .i64 a.m.n,.bool a.m.x,.bool a.m.sp,.int .i64 a.md,.int .i64 a.amt,.int .i64 a.n,.int .i64 a.add,.string a.plus,.string a.minus,.bool a.lo,.int .i64 a.mode]) (.agg #[.int .i64 b.kind,.int .i64 b.r.n,.bool b.r.x,.bool b.r.sp,.int .i64 b.m.n,.bool b.m.x,.bool b.m.sp,.int .i64 b.md,.int .i64 b.amt,.int .i64 b.n,.int .i64 b.add,.string b.plus,.string b.minus,.bool b.lo,.int .i64 b.mode]);binOp .neq 79 (.agg #[.int .i64 a.kind,.int .i64 a.r.n,.bool a.r.x,.bool a.r.sp,.int .i64 a.m.n,.bool a.m.x,.bool a.m.sp,.int .i64 a.md,.int .i64 a.amt,.int .i64 a.n,.int .i64 a.add,.string a.plus,.string a.minus,.bool a.lo,.int .i64 a.mode]) (.agg #[.int .i64 b.kind,.int .i64 b.r.n,.bool b.r.x,.bool b.r.sp,.int .i64 b.m.n,.bool b.m.x,.bool b.m.sp,.int .i64 b.md,.int .i64 b.amt,.int .i64 b.n,.int .i64 b.add,.string b.plus,.string b.minus,.bool b.lo,.int .i64 b.mode]))=some (.bool (!decide (a=b))):=by
  have:=Er (P:=prog) (t:=79) (x:=x) (y:=y) (xs:=opC a) (ys:=opC b);rw[NN,kz]at this;exact this
theorem aO (r:gO):(⟨r.n,r.x,r.sp⟩:gO)=r:=rfl
theorem aN (o:OpV):(⟨o.kind,o.r,o.m,o.md,o.amt,o.n,o.add,o.plus,o.minus,o.lo,o.mode⟩:OpV)=o:=rfl
theorem zl (o:OpV):(⟨o.add,o.plus,o.minus⟩:Val)=o.val:=rfl
theorem nC (n:Int)(x s:Bool):gu.dec [.v (.int .i64 n),.v (.bool x),.v (.bool s)]=some ⟨n,x,s⟩:=rfl
def okO (o:OpV):Prop:=(o.plus.size≤1099511627776∧o.minus.size≤1099511627776) ∧ -9223372036854775808≤o.add∧o.add≤9223372036854775807
theorem sR {o:OpV}(h:okO o):nt o.val:=by
 obtain⟨⟨h1,h2⟩,h3,h4⟩:=h;have e1:o.val.plus=o.plus:=rfl;have e2:o.val.minus=o.minus:=rfl;refine⟨?_,?_,h3,h4⟩
 ·rw[e1];unfold maxLen;omega
 ·rw[e2];unfold maxLen;omega
theorem iG:xR prog 75=some [1,3,3]:=by kernel_rfl
end Go.Proofs.YtnhbidpdadkcjaaGreatDoor
