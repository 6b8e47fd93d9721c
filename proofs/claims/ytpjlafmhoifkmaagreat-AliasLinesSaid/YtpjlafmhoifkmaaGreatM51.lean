import Derived.Test.YtpjlafmhoifkmaaGreatM47
import Derived.Test.YtpjlafmhoifkmaaGreatM11
set_option linter.unusedVariables false
set_option linter.unusedSimpArgs false
set_option maxRecDepth 100000
set_option maxHeartbeats 8000000
namespace Go.Proofs.YtpjlafmhoifkmaaGreat
section
open Go.RowKit
def gG:Ctx Tryz.prog:=[⟨_,aB⟩,⟨_,ct⟩,⟨_,dl⟩,⟨_,bO⟩,⟨_,aA⟩,⟨_,ap⟩]
def mE:Ctx Tryz.prog:=[⟨_,aB⟩,⟨_,ct⟩,⟨_,dl⟩,⟨_,bO⟩,⟨_,aA⟩,⟨_,ap⟩,⟨_,iW⟩]
attribute [local go_sem] ag dX d7 dQ dR eV eT fS gb gW gT gV gY eD eB fZ fW ek eh dp dq dJ dI eX eS bU bW bu aC aH bm fN cy gL opV opR opE ah oSP aw oTo oOf cw be op0 r0 emp co gOf aD aF aI aj alO ac gG mE iA iD
theorem PW (xx:Bool) (rd rm ra:Int):Lf Tryz.f36 [(ai ac).enc ⟨24,xx,false,rd,31,rm,ra,0,1,0⟩] (.ret (alO (.ln ((⟨#[109,111,118]⟩:ByteArray),[ah rd xx,ah rm xx]) true))):=by
 refine Lf.go (ctx:=gG) Tryz.ntmps36 Tryz.results36 rfl ?_
 simp only [go_sem]
 refine ab (ctx:=gG) ak ⟨[7,8],[],[]⟩ (by kernel_rfl) ?_
 simp only [go_sem]
theorem OX (xx:Bool) (rd rm ra a c:Int) (hc:0≤c∧c≤7):Lf Tryz.f36 [(ai ac).enc ⟨24,xx,true,rd,31,rm,ra,a,1,c⟩] (.ret (alO (.ln ((⟨#[109,118,110]⟩:ByteArray),[ah rd xx,shF ⟨24,xx,true,rd,31,rm,ra,a,1,c⟩]) true))):=by
 refine Lf.go (ctx:=mE) Tryz.ntmps36 Tryz.results36 rfl ?_
 simp only [go_sem,hc.1,hc.2]
 refine ab (ctx:=mE) ak ⟨[4,5],[],[]⟩ (by kernel_rfl) ?_
 simp only [go_sem,hc.1,hc.2]
theorem Ql (xx:Bool) (rn rm ra a c:Int) (hc:0≤c∧c≤7):Lf Tryz.f36 [(ai ac).enc ⟨24,xx,false,31,rn,rm,ra,a,3,c⟩] (.ret (alO (.ln ((⟨#[116,115,116]⟩:ByteArray),[ah rn xx,shF ⟨24,xx,false,31,rn,rm,ra,a,3,c⟩]) true))):=by
 refine Lf.go (ctx:=mE) Tryz.ntmps36 Tryz.results36 rfl ?_
 simp only [go_sem,hc.1,hc.2]
 refine ab (ctx:=mE) ak ⟨[4,5],[],[]⟩ (by kernel_rfl) ?_
 simp only [go_sem,hc.1,hc.2]
theorem Nd (xx:Bool) (rd rn rm ra a b c:Int) (hb:¬b=1∧¬b=3):Lf Tryz.f36 [(ai ac).enc ⟨24,xx,true,rd,rn,rm,ra,a,b,c⟩] (.ret (alO .no)):=by
 refine Lf.go (ctx:=gG) Tryz.ntmps36 Tryz.results36 rfl ?_
 simp only [go_sem,b0 hb.1,b0 hb.2]
theorem K6 (xx:Bool) (rd rn rm ra a b c:Int) (hb:¬b=1∧¬b=3):Lf Tryz.f36 [(ai ac).enc ⟨24,xx,false,rd,rn,rm,ra,a,b,c⟩] (.ret (alO .no)):=by
 refine Lf.go (ctx:=gG) Tryz.ntmps36 Tryz.results36 rfl ?_
 simp only [go_sem,b0 hb.1,b0 hb.2]
theorem Pv (xx:Bool) (rd rn rm ra a c:Int) (hn:¬rn=31):Lf Tryz.f36 [(ai ac).enc ⟨24,xx,false,rd,rn,rm,ra,a,1,c⟩] (.ret (alO .no)):=by
 refine Lf.go (ctx:=gG) Tryz.ntmps36 Tryz.results36 rfl ?_
 simp only [go_sem,b0 hn]
theorem QM (xx:Bool) (rd rm ra a c:Int) (h0:¬a=0):Lf Tryz.f36 [(ai ac).enc ⟨24,xx,false,rd,31,rm,ra,a,1,c⟩] (.ret (alO .no)):=by
 refine Lf.go (ctx:=gG) Tryz.ntmps36 Tryz.results36 rfl ?_
 simp only [go_sem,b0 h0]
theorem ON (xx:Bool) (rd rm ra c:Int) (h0:¬c=0):Lf Tryz.f36 [(ai ac).enc ⟨24,xx,false,rd,31,rm,ra,0,1,c⟩] (.ret (alO .no)):=by
 refine Lf.go (ctx:=gG) Tryz.ntmps36 Tryz.results36 rfl ?_
 simp only [go_sem,b0 h0]
theorem OM (xx:Bool) (rd rn rm ra a c:Int) (hn:¬rn=31):Lf Tryz.f36 [(ai ac).enc ⟨24,xx,true,rd,rn,rm,ra,a,1,c⟩] (.ret (alO .no)):=by
 refine Lf.go (ctx:=gG) Tryz.ntmps36 Tryz.results36 rfl ?_
 simp only [go_sem,b0 hn]
theorem Og (xx:Bool) (rd rn rm ra a c:Int):Lf Tryz.f36 [(ai ac).enc ⟨24,xx,true,rd,rn,rm,ra,a,3,c⟩] (.ret (alO .no)):=by
 refine Lf.go (ctx:=gG) Tryz.ntmps36 Tryz.results36 rfl ?_
 simp only [go_sem]
theorem Rd (xx:Bool) (rd rn rm ra a c:Int) (hd:¬rd=31):Lf Tryz.f36 [(ai ac).enc ⟨24,xx,false,rd,rn,rm,ra,a,3,c⟩] (.ret (alO .no)):=by
 refine Lf.go (ctx:=gG) Tryz.ntmps36 Tryz.results36 rfl ?_
 simp only [go_sem,b0 hd]
theorem Ok (xx:Bool) (rn rm ra a b c:Int) (hc:0≤c∧c≤7):Lf Tryz.f36 [(ai ac).enc ⟨25,xx,true,31,rn,rm,ra,a,b,c⟩] (.ret (alO (.ln (ae b [(⟨#[99,109,110]⟩:ByteArray),(⟨#[99,109,112]⟩:ByteArray)],[ah rn xx,shF ⟨25,xx,true,31,rn,rm,ra,a,b,c⟩]) true))):=by
 refine Lf.go (ctx:=mE) Tryz.ntmps36 Tryz.results36 rfl ?_
 simp only [go_sem,hc.1,hc.2]
 refine ab (ctx:=mE) ak ⟨[8,9],[(3,[1056])],[(4,[1056]),(5,[1056])]⟩ (by kernel_rfl) ?_
 simp only [go_sem,hc.1,hc.2]
theorem Ll (xx:Bool) (rd rm ra a c:Int) (hd:¬rd=31) (hc:0≤c∧c≤7):Lf Tryz.f36 [(ai ac).enc ⟨25,xx,true,rd,31,rm,ra,a,1,c⟩] (.ret (alO (.ln (cJ (⟨#[110,101,103]⟩:ByteArray) true (⟨#[115]⟩:ByteArray),[ah rd xx,shF ⟨25,xx,true,rd,31,rm,ra,a,1,c⟩]) true))):=by
 refine Lf.go (ctx:=mE) Tryz.ntmps36 Tryz.results36 rfl ?_
 simp only [go_sem,b0 hd,hc.1,hc.2]
 refine ab (ctx:=mE) ak ⟨[7,8],[],[]⟩ (by kernel_rfl) ?_
 simp only [go_sem,b0 hd,hc.1,hc.2]
theorem LT (xx:Bool) (rd rn rm ra a b c:Int) (hd:¬rd=31) (hb:¬b=1):Lf Tryz.f36 [(ai ac).enc ⟨25,xx,true,rd,rn,rm,ra,a,b,c⟩] (.ret (alO .no)):=by
 refine Lf.go (ctx:=gG) Tryz.ntmps36 Tryz.results36 rfl ?_
 simp only [go_sem,b0 hd,b0 hb]
theorem Mf (xx:Bool) (rd rn rm ra a c:Int) (hd:¬rd=31) (hn:¬rn=31):Lf Tryz.f36 [(ai ac).enc ⟨25,xx,true,rd,rn,rm,ra,a,1,c⟩] (.ret (alO .no)):=by
 refine Lf.go (ctx:=gG) Tryz.ntmps36 Tryz.results36 rfl ?_
 simp only [go_sem,b0 hd,b0 hn]
theorem K5 (xx:Bool) (rd rm ra a c:Int):Lf Tryz.f36 [(ai ac).enc ⟨27,xx,true,rd,31,rm,ra,a,1,c⟩] (.ret (alO (.ln (cJ (⟨#[110,103,99]⟩:ByteArray) true (⟨#[115]⟩:ByteArray),[ah rd xx,ah rm xx]) true))):=by
 refine Lf.go (ctx:=gG) Tryz.ntmps36 Tryz.results36 rfl ?_
 simp only [go_sem]
 refine ab (ctx:=gG) ak ⟨[10,11],[],[]⟩ (by kernel_rfl) ?_
 simp only [go_sem]
theorem Lu (xx:Bool) (rd rn rm ra a b c:Int) (hb:¬b=1):Lf Tryz.f36 [(ai ac).enc ⟨27,xx,true,rd,rn,rm,ra,a,b,c⟩] (.ret (alO .no)):=by
 refine Lf.go (ctx:=gG) Tryz.ntmps36 Tryz.results36 rfl ?_
 simp only [go_sem,b0 hb]
theorem K4 (xx:Bool) (rd rn rm ra a c:Int) (hn:¬rn=31):Lf Tryz.f36 [(ai ac).enc ⟨27,xx,true,rd,rn,rm,ra,a,1,c⟩] (.ret (alO .no)):=by
 refine Lf.go (ctx:=gG) Tryz.ntmps36 Tryz.results36 rfl ?_
 simp only [go_sem,b0 hn]
theorem Nw (xx:Bool) (rd rm ra a c:Int) (hc:0≤c∧c≤7):Lf Tryz.f36 [(ai ac).enc ⟨25,xx,false,rd,31,rm,ra,a,1,c⟩] (.ret (alO (.ln (cJ (⟨#[110,101,103]⟩:ByteArray) false (⟨#[115]⟩:ByteArray),[ah rd xx,shF ⟨25,xx,false,rd,31,rm,ra,a,1,c⟩]) true))):=by
 refine Lf.go (ctx:=mE) Tryz.ntmps36 Tryz.results36 rfl ?_
 simp only [go_sem,hc.1,hc.2]
 refine ab (ctx:=mE) ak ⟨[7,8],[],[]⟩ (by kernel_rfl) ?_
 simp only [go_sem,hc.1,hc.2]
theorem NC (xx:Bool) (rd rn rm ra a b c:Int) (hb:¬b=1):Lf Tryz.f36 [(ai ac).enc ⟨25,xx,false,rd,rn,rm,ra,a,b,c⟩] (.ret (alO .no)):=by
 refine Lf.go (ctx:=gG) Tryz.ntmps36 Tryz.results36 rfl ?_
 simp only [go_sem,b0 hb]
theorem Me (xx:Bool) (rd rn rm ra a c:Int) (hn:¬rn=31):Lf Tryz.f36 [(ai ac).enc ⟨25,xx,false,rd,rn,rm,ra,a,1,c⟩] (.ret (alO .no)):=by
 refine Lf.go (ctx:=gG) Tryz.ntmps36 Tryz.results36 rfl ?_
 simp only [go_sem,b0 hn]
theorem LG (xx:Bool) (rd rm ra a c:Int):Lf Tryz.f36 [(ai ac).enc ⟨27,xx,false,rd,31,rm,ra,a,1,c⟩] (.ret (alO (.ln (cJ (⟨#[110,103,99]⟩:ByteArray) false (⟨#[115]⟩:ByteArray),[ah rd xx,ah rm xx]) true))):=by
 refine Lf.go (ctx:=gG) Tryz.ntmps36 Tryz.results36 rfl ?_
 simp only [go_sem]
 refine ab (ctx:=gG) ak ⟨[10,11],[],[]⟩ (by kernel_rfl) ?_
 simp only [go_sem]
theorem LU (xx:Bool) (rd rn rm ra a b c:Int) (hb:¬b=1):Lf Tryz.f36 [(ai ac).enc ⟨27,xx,false,rd,rn,rm,ra,a,b,c⟩] (.ret (alO .no)):=by
 refine Lf.go (ctx:=gG) Tryz.ntmps36 Tryz.results36 rfl ?_
 simp only [go_sem,b0 hb]
theorem Lw (xx:Bool) (rd rn rm ra a c:Int) (hn:¬rn=31):Lf Tryz.f36 [(ai ac).enc ⟨27,xx,false,rd,rn,rm,ra,a,1,c⟩] (.ret (alO .no)):=by
 refine Lf.go (ctx:=gG) Tryz.ntmps36 Tryz.results36 rfl ?_
 simp only [go_sem,b0 hn]
end
section
open Go.RowKit
def ir:Ctx Tryz.prog:=[⟨_,aB⟩,⟨_,bC⟩,⟨_,aA⟩,⟨_,ap⟩,⟨_,l4⟩]
attribute [local go_sem] ag dX d7 dQ dR eV eT fS gb gW gT gV gY eD eB fZ fW ek eh dp dq dJ dI eX eS bU bW bu aC aH bm fN cy gL opV opR opE ah oSP aw oTo oOf cw be op0 r0 emp co gOf aD aF aI aj alO ac ir pR pN
theorem Om (xx ss:Bool) (rd rn rm ra a b c:Int) (ha:14≤a):Lf Tryz.f37 [(ai ac).enc ⟨29,xx,ss,rd,rn,rm,ra,a,b,c⟩] (.ret (alO .no)):=by
 refine Lf.go (ctx:=ir) Tryz.ntmps37 Tryz.results37 rfl ?_
 simp only [go_sem,ha]
theorem Oz (xx ss:Bool) (rd rn rm ra a b c:Int) (ha:¬14≤a) (hm:¬rn=rm):Lf Tryz.f37 [(ai ac).enc ⟨29,xx,ss,rd,rn,rm,ra,a,b,c⟩] (.ret (alO .no)):=by
 refine Lf.go (ctx:=ir) Tryz.ntmps37 Tryz.results37 rfl ?_
 simp only [go_sem,ha,n1 hm]
theorem N9 (xx ss:Bool) (rd rn rm ra a c:Int) (ha:¬14≤a) (hm:rn=rm):Lf Tryz.f37 [(ai ac).enc ⟨29,xx,ss,rd,rn,rm,ra,a,0,c⟩] (.ret (alO .no)):=by
 refine Lf.go (ctx:=ir) Tryz.ntmps37 Tryz.results37 rfl ?_
 simp only [go_sem,ha,n0 hm]
theorem Oa (xx ss:Bool) (rd rn rm ra a c:Int) (ha:¬14≤a) (hm:rn=rm):Lf Tryz.f37 [(ai ac).enc ⟨29,xx,ss,rd,rn,rm,ra,a,3,c⟩] (.ret (alO (.ln ((⟨#[99,110,101,103]⟩:ByteArray),[ah rd xx,ah rn xx,oOf 4 (gt a)]) true))):=by
 refine Lf.go (ctx:=ir) Tryz.ntmps37 Tryz.results37 rfl ?_
 simp only [go_sem,ha,n0 hm]
theorem Pc (xx ss:Bool) (rd rm ra a b c:Int) (ha:¬14≤a) (hm:31=rm) (hb:¬b=0∧¬b=3):Lf Tryz.f37 [(ai ac).enc ⟨29,xx,ss,rd,31,rm,ra,a,b,c⟩] (.ret (alO (.ln (ae b [emp,(⟨#[99,115,101,116]⟩:ByteArray),(⟨#[99,115,101,116,109]⟩:ByteArray)],[ah rd xx,oOf 4 (gt a)]) true))):=by
 refine Lf.go (ctx:=ir) Tryz.ntmps37 Tryz.results37 rfl ?_
 simp only [go_sem,ha,n0 hm,b0 hb.1,b0 hb.2]
 refine ab (ctx:=ir) ak ⟨[7,8],[(3,[1136])],[(4,[1136]),(5,[1136]),(6,[1136])]⟩ (by kernel_rfl) ?_
 simp only [go_sem,ha,n0 hm,b0 hb.1,b0 hb.2]
theorem NS (xx ss:Bool) (rd rn rm ra a b c:Int) (ha:¬14≤a) (hm:rn=rm) (hb:¬b=0∧¬b=3) (hn:¬rn=31):Lf Tryz.f37 [(ai ac).enc ⟨29,xx,ss,rd,rn,rm,ra,a,b,c⟩] (.ret (alO (.ln (ae b [emp,(⟨#[99,105,110,99]⟩:ByteArray),(⟨#[99,105,110,118]⟩:ByteArray)],[ah rd xx,ah rn xx,oOf 4 (gt a)]) true))):=by
 refine Lf.go (ctx:=ir) Tryz.ntmps37 Tryz.results37 rfl ?_
 simp only [go_sem,ha,n0 hm,b0 hb.1,b0 hb.2,b0 hn]
 refine ab (ctx:=ir) ak ⟨[8,9],[(3,[1200])],[(4,[1200]),(5,[1200]),(6,[1200]),(7,[1200])]⟩ (by kernel_rfl) ?_
 simp only [go_sem,ha,n0 hm,b0 hb.1,b0 hb.2,b0 hn]
theorem qr31 (xx ss:Bool) (rd rn rm ra a b c:Int) (hb:8≤b∧b≤11):Lf Tryz.f37 [(ai ac).enc ⟨31,xx,ss,rd,rn,rm,ra,a,b,c⟩] (.ret (alO (.ln (ae (b-8) [(⟨#[108,115,108]⟩:ByteArray),(⟨#[108,115,114]⟩:ByteArray),(⟨#[97,115,114]⟩:ByteArray),(⟨#[114,111,114]⟩:ByteArray)],[ah rd xx,ah rn xx,ah rm xx]) true))):=by
 refine Lf.go (ctx:=ir) Tryz.ntmps37 Tryz.results37 rfl ?_
 have k2:IntKind.i64.wrap (b-8)=b-8:=wr (by omega)
 simp only [go_sem,hb.1,hb.2,k2]
 refine ab (ctx:=ir) ak ⟨[9,10],[(4,[1104])],[(5,[1104]),(6,[1104]),(7,[1104]),(8,[1104])]⟩ (by kernel_rfl) ?_
 simp only [go_sem,hb.1,hb.2,k2]
theorem N5 (xx ss:Bool) (rd rn rm ra a b c:Int) (hb:¬8≤b):Lf Tryz.f37 [(ai ac).enc ⟨31,xx,ss,rd,rn,rm,ra,a,b,c⟩] (.ret (alO .no)):=by
 refine Lf.go (ctx:=ir) Tryz.ntmps37 Tryz.results37 rfl ?_
 simp only [go_sem,hb]
theorem OY (xx ss:Bool) (rd rn rm ra a b c:Int) (hb:¬b≤11):Lf Tryz.f37 [(ai ac).enc ⟨31,xx,ss,rd,rn,rm,ra,a,b,c⟩] (.ret (alO .no)):=by
 refine Lf.go (ctx:=ir) Tryz.ntmps37 Tryz.results37 rfl ?_
 have k2:8≤b:=by omega
 simp only [go_sem,k2,hb]
theorem NZ (xx ss:Bool) (rd rn rm a b c:Int) (hb:b<2):Lf Tryz.f37 [(ai ac).enc ⟨32,xx,ss,rd,rn,rm,31,a,b,c⟩] (.ret (alO (.ln (ae b [(⟨#[109,117,108]⟩:ByteArray),(⟨#[109,110,101,103]⟩:ByteArray)],[ah rd xx,ah rn xx,ah rm xx]) true))):=by
 refine Lf.go (ctx:=ir) Tryz.ntmps37 Tryz.results37 rfl ?_
 simp only [go_sem,hb]
 refine ab (ctx:=ir) ak ⟨[8,9],[(3,[1216])],[(4,[1216]),(5,[1216]),(6,[1216]),(7,[1216])]⟩ (by kernel_rfl) ?_
 simp only [go_sem,hb]
theorem PU (xx ss:Bool) (rd rn rm a b c:Int) (hb:¬b<2∧¬b=4∧¬b=7):Lf Tryz.f37 [(ai ac).enc ⟨32,xx,ss,rd,rn,rm,31,a,b,c⟩] (.ret (alO (.ln (ae b [emp,emp,(⟨#[115,109,117,108,108]⟩:ByteArray),(⟨#[115,109,110,101,103,108]⟩:ByteArray),emp,(⟨#[117,109,117,108,108]⟩:ByteArray),(⟨#[117,109,110,101,103,108]⟩:ByteArray)],[ah rd true,ah rn false,ah rm false]) true))):=by
 refine Lf.go (ctx:=ir) Tryz.ntmps37 Tryz.results37 rfl ?_
 simp only [go_sem,hb.1,n1 hb.2.1,n1 hb.2.2]
 refine ab (ctx:=ir) ak ⟨[11,12],[],[]⟩ (by kernel_rfl) ?_
 simp only [go_sem,hb.1,n1 hb.2.1,n1 hb.2.2]
theorem RE (xx ss:Bool) (rd rn rm ra a b c:Int) (hr:¬ra=31):Lf Tryz.f37 [(ai ac).enc ⟨32,xx,ss,rd,rn,rm,ra,a,b,c⟩] (.ret (alO .no)):=by
 refine Lf.go (ctx:=ir) Tryz.ntmps37 Tryz.results37 rfl ?_
 simp only [go_sem,b0 hr]
theorem Pd (xx ss:Bool) (rd rn rm a c:Int):Lf Tryz.f37 [(ai ac).enc ⟨32,xx,ss,rd,rn,rm,31,a,4,c⟩] (.ret (alO .no)):=by
 refine Lf.go (ctx:=ir) Tryz.ntmps37 Tryz.results37 rfl ?_
 simp only [go_sem]
theorem Pe (xx ss:Bool) (rd rn rm a c:Int):Lf Tryz.f37 [(ai ac).enc ⟨32,xx,ss,rd,rn,rm,31,a,7,c⟩] (.ret (alO .no)):=by
 refine Lf.go (ctx:=ir) Tryz.ntmps37 Tryz.results37 rfl ?_
 simp only [go_sem]
end
end Go.Proofs.YtpjlafmhoifkmaaGreat
