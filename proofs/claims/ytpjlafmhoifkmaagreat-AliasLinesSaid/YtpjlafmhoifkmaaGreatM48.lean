import Derived.Test.YtpjlafmhoifkmaaGreatM47
import Derived.Test.YtpjlafmhoifkmaaGreatM11
set_option linter.unusedVariables false
set_option linter.unusedSimpArgs false
set_option maxRecDepth 100000
set_option maxHeartbeats 8000000
namespace Go.Proofs.YtpjlafmhoifkmaaGreat
open Go.RowKit
def dv:Ctx Tryz.prog:=[⟨_,aB⟩,⟨_,ct⟩,⟨_,bN⟩,⟨_,fG⟩,⟨_,aA⟩,⟨_,ap⟩]
def n6:Ctx Tryz.prog:=[⟨_,aB⟩,⟨_,ct⟩,⟨_,bN⟩,⟨_,fG⟩,⟨_,aA⟩,⟨_,ap⟩,⟨_,zE⟩]
def ji:Ctx Tryz.prog:=[⟨_,aB⟩,⟨_,ct⟩,⟨_,bN⟩,⟨_,fG⟩,⟨_,aA⟩,⟨_,ap⟩,⟨_,uC⟩]
attribute [local go_sem] ag dX d7 dQ dR eV eT fS gb gW gT gV gY eD eB fZ fW ek eh dp dq dJ dI eX eS bU bW bu aC aH bm fN cy gL opV opR opE ah oSP aw oTo oOf cw be op0 r0 emp co gOf aD aF aI aj alO ac dv n6 ji Br Bw du dj az tU yu x7
theorem OW (xx:Bool) (rn rm ra a b:Int):Lf Tryz.f33 [(ai ac).enc ⟨2,xx,true,31,rn,rm,ra,a,b,1⟩] (.ret (alO (.ln (ae b [(⟨#[99,109,110]⟩:ByteArray),(⟨#[99,109,112]⟩:ByteArray)],[oSP rn xx,cw (aw a) 1 12]) true))):=by
 refine Lf.go (ctx:=dv) Tryz.ntmps33 Tryz.results33 rfl ?_
 simp only [go_sem]
 refine ab (ctx:=dv) ak ⟨[11,12],[(3,[544])],[(4,[544]),(5,[544]),(6,[544]),(7,[544]),(9,[544])]⟩ (by kernel_rfl) ?_
 simp only [go_sem]
theorem qi2t (xx:Bool) (rn rm ra a b c:Int) (hc:¬c=1):Lf Tryz.f33 [(ai ac).enc ⟨2,xx,true,31,rn,rm,ra,a,b,c⟩] (.ret (alO (.ln (ae b [(⟨#[99,109,110]⟩:ByteArray),(⟨#[99,109,112]⟩:ByteArray)],[oSP rn xx,aw a]) true))):=by
 refine Lf.go (ctx:=dv) Tryz.ntmps33 Tryz.results33 rfl ?_
 simp only [go_sem,b0 hc]
 refine ab (ctx:=dv) ak ⟨[11,12],[(3,[496])],[(4,[496]),(5,[496]),(6,[496]),(7,[496]),(9,[496])]⟩ (by kernel_rfl) ?_
 simp only [go_sem,b0 hc]
theorem M7 (xx:Bool) (rd rn rm ra a b:Int) (hd:¬rd=31) (hb:¬b=0):Lf Tryz.f33 [(ai ac).enc ⟨2,xx,true,rd,rn,rm,ra,a,b,1⟩] (.ret (alO (.ln ((⟨#[109,111,118]⟩:ByteArray),[oSP rd xx,oSP rn xx]) false))):=by
 refine Lf.go (ctx:=dv) Tryz.ntmps33 Tryz.results33 rfl ?_
 simp only [go_sem,b0 hd,b0 hb]
 refine ab (ctx:=dv) ak ⟨[11,13],[],[]⟩ (by kernel_rfl) ?_
 simp only [go_sem,b0 hd,b0 hb]
theorem Nl (xx:Bool) (rd rn rm ra a:Int) (hd:¬rd=31) (ha:¬a=0):Lf Tryz.f33 [(ai ac).enc ⟨2,xx,true,rd,rn,rm,ra,a,0,1⟩] (.ret (alO (.ln ((⟨#[109,111,118]⟩:ByteArray),[oSP rd xx,oSP rn xx]) false))):=by
 refine Lf.go (ctx:=dv) Tryz.ntmps33 Tryz.results33 rfl ?_
 simp only [go_sem,b0 hd,b0 ha]
 refine ab (ctx:=dv) ak ⟨[11,13],[],[]⟩ (by kernel_rfl) ?_
 simp only [go_sem,b0 hd,b0 ha]
theorem LY (xx:Bool) (rd rn rm ra:Int) (hd:¬rd=31):Lf Tryz.f33 [(ai ac).enc ⟨2,xx,true,rd,rn,rm,ra,0,0,1⟩] (.ret (alO (.ln ((⟨#[109,111,118]⟩:ByteArray),[oSP rd xx,oSP rn xx]) false))):=by
 refine Lf.go (ctx:=dv) Tryz.ntmps33 Tryz.results33 rfl ?_
 simp only [go_sem,b0 hd]
 refine ab (ctx:=dv) ak ⟨[11,13],[],[]⟩ (by kernel_rfl) ?_
 simp only [go_sem,b0 hd]
theorem QE (xx:Bool) (rd rn rm ra a b:Int) (hb:¬b=0):Lf Tryz.f33 [(ai ac).enc ⟨2,xx,false,rd,rn,rm,ra,a,b,1⟩] (.ret (alO (.ln ((⟨#[109,111,118]⟩:ByteArray),[oSP rd xx,oSP rn xx]) false))):=by
 refine Lf.go (ctx:=dv) Tryz.ntmps33 Tryz.results33 rfl ?_
 simp only [go_sem,b0 hb]
 refine ab (ctx:=dv) ak ⟨[11,13],[],[]⟩ (by kernel_rfl) ?_
 simp only [go_sem,b0 hb]
theorem Oi (xx:Bool) (rd rn rm ra a:Int) (ha:¬a=0):Lf Tryz.f33 [(ai ac).enc ⟨2,xx,false,rd,rn,rm,ra,a,0,1⟩] (.ret (alO (.ln ((⟨#[109,111,118]⟩:ByteArray),[oSP rd xx,oSP rn xx]) false))):=by
 refine Lf.go (ctx:=dv) Tryz.ntmps33 Tryz.results33 rfl ?_
 simp only [go_sem,b0 ha]
 refine ab (ctx:=dv) ak ⟨[11,13],[],[]⟩ (by kernel_rfl) ?_
 simp only [go_sem,b0 ha]
theorem RB (xx:Bool) (rd rn rm ra:Int):Lf Tryz.f33 [(ai ac).enc ⟨2,xx,false,rd,rn,rm,ra,0,0,1⟩] (.ret (alO (.ln ((⟨#[109,111,118]⟩:ByteArray),[oSP rd xx,oSP rn xx]) false))):=by
 refine Lf.go (ctx:=dv) Tryz.ntmps33 Tryz.results33 rfl ?_
 simp only [go_sem]
 refine ab (ctx:=dv) ak ⟨[11,13],[],[]⟩ (by kernel_rfl) ?_
 simp only [go_sem]
theorem Rh (xx:Bool) (rd rn rm ra a b c:Int) (hc:¬c=1) (hd:¬rd=31) (hb:¬b=0):Lf Tryz.f33 [(ai ac).enc ⟨2,xx,true,rd,rn,rm,ra,a,b,c⟩] (.ret (alO (.ln ((⟨#[109,111,118]⟩:ByteArray),[oSP rd xx,oSP rn xx]) false))):=by
 refine Lf.go (ctx:=dv) Tryz.ntmps33 Tryz.results33 rfl ?_
 simp only [go_sem,b0 hc,b0 hd,b0 hb]
 refine ab (ctx:=dv) ak ⟨[11,13],[],[]⟩ (by kernel_rfl) ?_
 simp only [go_sem,b0 hc,b0 hd,b0 hb]
theorem Ot (xx:Bool) (rd rn rm ra a c:Int) (hc:¬c=1) (hd:¬rd=31) (ha:¬a=0):Lf Tryz.f33 [(ai ac).enc ⟨2,xx,true,rd,rn,rm,ra,a,0,c⟩] (.ret (alO (.ln ((⟨#[109,111,118]⟩:ByteArray),[oSP rd xx,oSP rn xx]) false))):=by
 refine Lf.go (ctx:=dv) Tryz.ntmps33 Tryz.results33 rfl ?_
 simp only [go_sem,b0 hc,b0 hd,b0 ha]
 refine ab (ctx:=dv) ak ⟨[11,13],[],[]⟩ (by kernel_rfl) ?_
 simp only [go_sem,b0 hc,b0 hd,b0 ha]
theorem RI (xx:Bool) (rd rn rm ra c:Int) (hd:¬rd=31) (hc:¬c=1∧¬c=0):Lf Tryz.f33 [(ai ac).enc ⟨2,xx,true,rd,rn,rm,ra,0,0,c⟩] (.ret (alO (.ln ((⟨#[109,111,118]⟩:ByteArray),[oSP rd xx,oSP rn xx]) false))):=by
 refine Lf.go (ctx:=dv) Tryz.ntmps33 Tryz.results33 rfl ?_
 simp only [go_sem,b0 hc.1,b0 hd,b0 hc.2]
 refine ab (ctx:=dv) ak ⟨[11,13],[],[]⟩ (by kernel_rfl) ?_
 simp only [go_sem,b0 hc.1,b0 hd,b0 hc.2]
theorem qi2b (xx:Bool) (rd rn rm ra a b c:Int) (hc:¬c=1) (hb:¬b=0):Lf Tryz.f33 [(ai ac).enc ⟨2,xx,false,rd,rn,rm,ra,a,b,c⟩] (.ret (alO (.ln ((⟨#[109,111,118]⟩:ByteArray),[oSP rd xx,oSP rn xx]) false))):=by
 refine Lf.go (ctx:=dv) Tryz.ntmps33 Tryz.results33 rfl ?_
 simp only [go_sem,b0 hc,b0 hb]
 refine ab (ctx:=dv) ak ⟨[11,13],[],[]⟩ (by kernel_rfl) ?_
 simp only [go_sem,b0 hc,b0 hb]
theorem qi2a (xx:Bool) (rd rn rm ra a c:Int) (hc:¬c=1) (ha:¬a=0):Lf Tryz.f33 [(ai ac).enc ⟨2,xx,false,rd,rn,rm,ra,a,0,c⟩] (.ret (alO (.ln ((⟨#[109,111,118]⟩:ByteArray),[oSP rd xx,oSP rn xx]) false))):=by
 refine Lf.go (ctx:=dv) Tryz.ntmps33 Tryz.results33 rfl ?_
 simp only [go_sem,b0 hc,b0 ha]
 refine ab (ctx:=dv) ak ⟨[11,13],[],[]⟩ (by kernel_rfl) ?_
 simp only [go_sem,b0 hc,b0 ha]
theorem qi2c (xx:Bool) (rd rn rm ra c:Int) (hc:¬c=1∧¬c=0):Lf Tryz.f33 [(ai ac).enc ⟨2,xx,false,rd,rn,rm,ra,0,0,c⟩] (.ret (alO (.ln ((⟨#[109,111,118]⟩:ByteArray),[oSP rd xx,oSP rn xx]) false))):=by
 refine Lf.go (ctx:=dv) Tryz.ntmps33 Tryz.results33 rfl ?_
 simp only [go_sem,b0 hc.1,b0 hc.2]
 refine ab (ctx:=dv) ak ⟨[11,13],[],[]⟩ (by kernel_rfl) ?_
 simp only [go_sem,b0 hc.1,b0 hc.2]
theorem NT (xx:Bool) (rd rn rm ra:Int) (hd:¬rd=31):Lf Tryz.f33 [(ai ac).enc ⟨2,xx,true,rd,rn,rm,ra,0,0,0⟩] (.ret (alO (.ln ((⟨#[109,111,118]⟩:ByteArray),[oSP rd xx,oSP rn xx]) false))):=by
 refine Lf.go (ctx:=dv) Tryz.ntmps33 Tryz.results33 rfl ?_
 simp only [go_sem,b0 hd]
 refine ab (ctx:=dv) ak ⟨[11,13],[],[]⟩ (by kernel_rfl) ?_
 simp only [go_sem,b0 hd]
theorem qi2d (xx:Bool) (rn rm ra:Int):Lf Tryz.f33 [(ai ac).enc ⟨2,xx,false,31,rn,rm,ra,0,0,0⟩] (.ret (alO (.ln ((⟨#[109,111,118]⟩:ByteArray),[oSP 31 xx,oSP rn xx]) true))):=by
 refine Lf.go (ctx:=dv) Tryz.ntmps33 Tryz.results33 rfl ?_
 simp only [go_sem]
 refine ab (ctx:=dv) ak ⟨[11,13],[],[]⟩ (by kernel_rfl) ?_
 simp only [go_sem]
theorem qi2n (xx:Bool) (rd rm ra:Int) (hd:¬rd=31):Lf Tryz.f33 [(ai ac).enc ⟨2,xx,false,rd,31,rm,ra,0,0,0⟩] (.ret (alO (.ln ((⟨#[109,111,118]⟩:ByteArray),[oSP rd xx,oSP 31 xx]) true))):=by
 refine Lf.go (ctx:=dv) Tryz.ntmps33 Tryz.results33 rfl ?_
 simp only [go_sem,b0 hd]
 refine ab (ctx:=dv) ak ⟨[11,13],[],[]⟩ (by kernel_rfl) ?_
 simp only [go_sem,b0 hd]
theorem qi2o (xx:Bool) (rd rn rm ra:Int) (hd:¬rd=31) (hn:¬rn=31):Lf Tryz.f33 [(ai ac).enc ⟨2,xx,false,rd,rn,rm,ra,0,0,0⟩] (.ret (alO (.ln ((⟨#[109,111,118]⟩:ByteArray),[oSP rd xx,oSP rn xx]) false))):=by
 refine Lf.go (ctx:=dv) Tryz.ntmps33 Tryz.results33 rfl ?_
 simp only [go_sem,b0 hd,b0 hn]
 refine ab (ctx:=dv) ak ⟨[11,13],[],[]⟩ (by kernel_rfl) ?_
 simp only [go_sem,b0 hd,b0 hn]
theorem qi3t (xx ss:Bool) (rd rn rm ra a c:Int):Lf Tryz.f33 [(ai ac).enc ⟨3,xx,ss,rd,rn,rm,ra,a,3,c⟩] (.ret (alO (.ln ((⟨#[116,115,116]⟩:ByteArray),[ah rn xx,aw a]) (rd==31)))):=by
 refine Lf.go (ctx:=dv) Tryz.ntmps33 Tryz.results33 rfl ?_
 simp only [go_sem]
 refine ab (ctx:=dv) ak ⟨[],[(7,[640]),(11,[16])],[(8,[640,16]),(9,[640,16]),(10,[640,16])]⟩ (by kernel_rfl) ?_
 simp only [go_sem]
theorem qi3b (xx ss:Bool) (rd rn rm ra a b c:Int) (m:Ins) (e:Int) (hM:bR ⟨rd,xx,false⟩ (dg a)=(m,e)) (hb:¬b=3∧¬b=1):Lf Tryz.f33 [(ai ac).enc ⟨3,xx,ss,rd,rn,rm,ra,a,b,c⟩] (.ret (alO (.ln ((⟨#[109,111,118]⟩:ByteArray),[oSP rd xx,aw a]) false))):=by
 refine Lf.go (ctx:=n6) Tryz.ntmps33 Tryz.results33 rfl ?_
 have uconv:=lp a
 have ul:=jA a
 have ub:(0:Int)≤((dg a:Nat):Int)∧((dg a:Nat):Int)<18446744073709551616:=by omega
 have ut:∀ n:Nat,Int.toNat (n:Int)=n:=fun _=>rfl
 simp only [go_sem,b0 hb.1,b0 hb.2,uconv,ut,ub.1,ub.2,hM]
 refine ab (ctx:=n6) ak ⟨[],[(7,[944]),(25,[16])],[(8,[944]),(9,[944]),(10,[944]),(20,[16]),(21,[16]),(22,[16]),(23,[16]),(24,[16])]⟩ (by kernel_rfl) ?_
 simp only [go_sem,b0 hb.1,b0 hb.2,uconv,ut,ub.1,ub.2,hM]
theorem qi3n (xx ss:Bool) (rd rn rm ra a c:Int) (m:Ins) (e:Int) (hM:bR ⟨rd,xx,false⟩ (dg a)=(m,e)) (hn:¬rn=31):Lf Tryz.f33 [(ai ac).enc ⟨3,xx,ss,rd,rn,rm,ra,a,1,c⟩] (.ret (alO (.ln ((⟨#[109,111,118]⟩:ByteArray),[oSP rd xx,aw a]) false))):=by
 refine Lf.go (ctx:=n6) Tryz.ntmps33 Tryz.results33 rfl ?_
 have uconv:=lp a
 have ul:=jA a
 have ub:(0:Int)≤((dg a:Nat):Int)∧((dg a:Nat):Int)<18446744073709551616:=by omega
 have ut:∀ n:Nat,Int.toNat (n:Int)=n:=fun _=>rfl
 simp only [go_sem,b0 hn,uconv,ut,ub.1,ub.2,hM]
 refine ab (ctx:=n6) ak ⟨[],[(7,[944]),(25,[16])],[(8,[944]),(9,[944]),(10,[944]),(20,[16]),(21,[16]),(22,[16]),(23,[16]),(24,[16])]⟩ (by kernel_rfl) ?_
 simp only [go_sem,b0 hn,uconv,ut,ub.1,ub.2,hM]
theorem qi3e (xx ss:Bool) (rd rm ra a c:Int) (m:Ins) (e:Int) (hM:bR ⟨rd,xx,false⟩ (dg a)=(m,e)) (he:¬e=0):Lf Tryz.f33 [(ai ac).enc ⟨3,xx,ss,rd,31,rm,ra,a,1,c⟩] (.ret (alO (.ln ((⟨#[109,111,118]⟩:ByteArray),[oSP rd xx,aw a]) true))):=by
 refine Lf.go (ctx:=n6) Tryz.ntmps33 Tryz.results33 rfl ?_
 have uconv:=lp a
 have ul:=jA a
 have ub:(0:Int)≤((dg a:Nat):Int)∧((dg a:Nat):Int)<18446744073709551616:=by omega
 have ut:∀ n:Nat,Int.toNat (n:Int)=n:=fun _=>rfl
 simp only [go_sem,n1 he,uconv,ut,ub.1,ub.2,hM]
 refine ab (ctx:=n6) ak ⟨[],[(7,[944]),(25,[16])],[(8,[944]),(9,[944]),(10,[944]),(20,[16]),(21,[16]),(22,[16]),(23,[16]),(24,[16])]⟩ (by kernel_rfl) ?_
 simp only [go_sem,n1 he,uconv,ut,ub.1,ub.2,hM]
theorem qi3m (xx ss:Bool) (rd rm ra a c:Int) (m:Ins) (hM:bR ⟨rd,xx,false⟩ (dg a)=(m,0)):Lf Tryz.f33 [(ai ac).enc ⟨3,xx,ss,rd,31,rm,ra,a,1,c⟩] (.ret (alO (.ln ((⟨#[109,111,118]⟩:ByteArray),[oSP rd xx,aw a]) (m.op !=4)))):=by
 refine Lf.go (ctx:=n6) Tryz.ntmps33 Tryz.results33 rfl ?_
 have uconv:=lp a
 have ul:=jA a
 have ub:(0:Int)≤((dg a:Nat):Int)∧((dg a:Nat):Int)<18446744073709551616:=by omega
 have ut:∀ n:Nat,Int.toNat (n:Int)=n:=fun _=>rfl
 simp only [go_sem,uconv,ut,ub.1,ub.2,hM]
 refine ab (ctx:=n6) ak ⟨[],[(7,[944]),(25,[16])],[(8,[944]),(9,[944]),(10,[944]),(20,[16]),(21,[16]),(22,[16]),(23,[16]),(24,[16])]⟩ (by kernel_rfl) ?_
 simp only [go_sem,uconv,ut,ub.1,ub.2,hM]
theorem qi4b (xx ss:Bool) (rd rn rm ra a b c:Int) (hc:0≤c∧c≤3) (ha:0≤a∧a≤65535) (hb:¬b<3):Lf Tryz.f33 [(ai ac).enc ⟨4,xx,ss,rd,rn,rm,ra,a,b,c⟩] (.ret (alO (.ln ((⟨#[109,111,118]⟩:ByteArray),[ah rd xx,aw (ip ⟨4,xx,ss,rd,rn,rm,ra,a,b,c⟩)]) false))):=by
 refine Lf.go (ctx:=ji) Tryz.ntmps33 Tryz.results33 rfl ?_
 simp only [go_sem,hb,hc.1,hc.2,ha.1,ha.2]
 refine ab (ctx:=ji) ak ⟨[9,11],[],[]⟩ (by kernel_rfl) ?_
 simp only [go_sem,hb,hc.1,hc.2,ha.1,ha.2]
theorem Qd (xx ss:Bool) (rd rn rm ra a c:Int) (hc:0≤c∧c≤3) (ha:0≤a∧a≤65535) (h0:¬a=0):Lf Tryz.f33 [(ai ac).enc ⟨4,xx,ss,rd,rn,rm,ra,a,2,c⟩] (.ret (alO (.ln ((⟨#[109,111,118]⟩:ByteArray),[ah rd xx,aw (ip ⟨4,xx,ss,rd,rn,rm,ra,a,2,c⟩)]) true))):=by
 refine Lf.go (ctx:=ji) Tryz.ntmps33 Tryz.results33 rfl ?_
 simp only [go_sem,n1 h0,hc.1,hc.2,ha.1,ha.2]
 refine ab (ctx:=ji) ak ⟨[9,11],[],[]⟩ (by kernel_rfl) ?_
 simp only [go_sem,n1 h0,hc.1,hc.2,ha.1,ha.2]
theorem Q1 (ss:Bool) (rd rn rm ra a b c:Int) (hc:0≤c∧c≤3) (ha:0≤a∧a≤65535) (h0:¬a=0) (hb:b<3∧¬b=2):Lf Tryz.f33 [(ai ac).enc ⟨4,true,ss,rd,rn,rm,ra,a,b,c⟩] (.ret (alO (.ln ((⟨#[109,111,118]⟩:ByteArray),[ah rd true,aw (ip ⟨4,true,ss,rd,rn,rm,ra,a,b,c⟩)]) true))):=by
 refine Lf.go (ctx:=ji) Tryz.ntmps33 Tryz.results33 rfl ?_
 simp only [go_sem,hb.1,n1 h0,b0 hb.2,hc.1,hc.2,ha.1,ha.2]
 refine ab (ctx:=ji) ak ⟨[9,11],[],[]⟩ (by kernel_rfl) ?_
 simp only [go_sem,hb.1,n1 h0,b0 hb.2,hc.1,hc.2,ha.1,ha.2]
theorem qi4a (ss:Bool) (rd rn rm ra a b c:Int) (hc:0≤c∧c≤3) (ha:0≤a∧a≤65535) (h0:¬a=0) (hb:b<3∧¬b=2):Lf Tryz.f33 [(ai ac).enc ⟨4,false,ss,rd,rn,rm,ra,a,b,c⟩] (.ret (alO (.ln ((⟨#[109,111,118]⟩:ByteArray),[ah rd false,aw (ip ⟨4,false,ss,rd,rn,rm,ra,a,b,c⟩)]) (a !=65535)))):=by
 refine Lf.go (ctx:=ji) Tryz.ntmps33 Tryz.results33 rfl ?_
 simp only [go_sem,hb.1,n1 h0,b0 hb.2,hc.1,hc.2,ha.1,ha.2]
 refine ab (ctx:=ji) ak ⟨[9,11],[],[]⟩ (by kernel_rfl) ?_
 simp only [go_sem,hb.1,n1 h0,b0 hb.2,hc.1,hc.2,ha.1,ha.2]
theorem QT (xx ss:Bool) (rd rn rm ra b c:Int) (hc:0≤c∧c≤3) (hb:b<3) (h0:¬c=0):Lf Tryz.f33 [(ai ac).enc ⟨4,xx,ss,rd,rn,rm,ra,0,b,c⟩] (.ret (alO (.ln ((⟨#[109,111,118]⟩:ByteArray),[ah rd xx,aw (ip ⟨4,xx,ss,rd,rn,rm,ra,0,b,c⟩)]) false))):=by
 refine Lf.go (ctx:=ji) Tryz.ntmps33 Tryz.results33 rfl ?_
 simp only [go_sem,hb,b0 h0,hc.1,hc.2]
 refine ab (ctx:=ji) ak ⟨[9,11],[],[]⟩ (by kernel_rfl) ?_
 simp only [go_sem,hb,b0 h0,hc.1,hc.2]
theorem Ru (xx ss:Bool) (rd rn rm ra:Int):Lf Tryz.f33 [(ai ac).enc ⟨4,xx,ss,rd,rn,rm,ra,0,2,0⟩] (.ret (alO (.ln ((⟨#[109,111,118]⟩:ByteArray),[ah rd xx,aw (ip ⟨4,xx,ss,rd,rn,rm,ra,0,2,0⟩)]) true))):=by
 refine Lf.go (ctx:=ji) Tryz.ntmps33 Tryz.results33 rfl ?_
 simp only [go_sem]
 refine ab (ctx:=ji) ak ⟨[9,11],[],[]⟩ (by kernel_rfl) ?_
 simp only [go_sem]
theorem Pq (ss:Bool) (rd rn rm ra b:Int) (hb:b<3∧¬b=2):Lf Tryz.f33 [(ai ac).enc ⟨4,true,ss,rd,rn,rm,ra,0,b,0⟩] (.ret (alO (.ln ((⟨#[109,111,118]⟩:ByteArray),[ah rd true,aw (ip ⟨4,true,ss,rd,rn,rm,ra,0,b,0⟩)]) true))):=by
 refine Lf.go (ctx:=ji) Tryz.ntmps33 Tryz.results33 rfl ?_
 simp only [go_sem,hb.1,b0 hb.2]
 refine ab (ctx:=ji) ak ⟨[9,11],[],[]⟩ (by kernel_rfl) ?_
 simp only [go_sem,hb.1,b0 hb.2]
theorem qi40 (ss:Bool) (rd rn rm ra b:Int) (hb:b<3∧¬b=2):Lf Tryz.f33 [(ai ac).enc ⟨4,false,ss,rd,rn,rm,ra,0,b,0⟩] (.ret (alO (.ln ((⟨#[109,111,118]⟩:ByteArray),[ah rd false,aw (ip ⟨4,false,ss,rd,rn,rm,ra,0,b,0⟩)]) true))):=by
 refine Lf.go (ctx:=ji) Tryz.ntmps33 Tryz.results33 rfl ?_
 simp only [go_sem,hb.1,b0 hb.2]
 refine ab (ctx:=ji) ak ⟨[9,11],[],[]⟩ (by kernel_rfl) ?_
 simp only [go_sem,hb.1,b0 hb.2]
theorem qi6 (xx ss:Bool) (rd rn rm ra a b c:Int):Lf Tryz.f33 [(ai ac).enc ⟨6,xx,ss,rd,rn,rm,ra,a,b,c⟩] (.ret (alO (.ln ((⟨#[114,111,114]⟩:ByteArray),[ah rd xx,ah rn xx,aw a]) (rn==rm)))):=by
 refine Lf.go (ctx:=dv) Tryz.ntmps33 Tryz.results33 rfl ?_
 simp only [go_sem]
 refine ab (ctx:=dv) ak ⟨[],[(14,[896]),(20,[16])],[(15,[896,16]),(16,[896,16]),(17,[896,16]),(18,[896,16]),(19,[896,16])]⟩ (by kernel_rfl) ?_
 simp only [go_sem]
end Go.Proofs.YtpjlafmhoifkmaaGreat
