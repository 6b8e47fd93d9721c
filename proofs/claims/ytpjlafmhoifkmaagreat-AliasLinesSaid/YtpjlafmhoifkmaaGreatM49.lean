import Derived.Test.YtpjlafmhoifkmaaGreatM47
import Derived.Test.YtpjlafmhoifkmaaGreatM11
set_option linter.unusedVariables false
set_option linter.unusedSimpArgs false
set_option maxRecDepth 100000
set_option maxHeartbeats 8000000
namespace Go.Proofs.YtpjlafmhoifkmaaGreat
open Go.RowKit
def bg:Ctx Tryz.prog:=[⟨_,aB⟩,⟨_,bN⟩,⟨_,ap⟩]
theorem w430:IntKind.i64.wrap ((63:Int)+1)=64:=by decide
theorem w431:IntKind.i64.wrap ((64:Int)-1)=63:=by decide
theorem w432:IntKind.i64.wrap ((64:Int)-0)=64:=by decide
theorem w433:IntKind.i64.wrap ((7:Int)+1)=8:=by decide
theorem w434:IntKind.i64.wrap ((7:Int)-0)=7:=by decide
theorem w435:IntKind.i64.wrap ((15:Int)+1)=16:=by decide
theorem w436:IntKind.i64.wrap ((15:Int)-0)=15:=by decide
theorem w437:IntKind.i64.wrap ((31:Int)+1)=32:=by decide
theorem w438:IntKind.i64.wrap ((31:Int)-0)=31:=by decide
theorem w439:IntKind.i64.wrap ((32:Int)-1)=31:=by decide
theorem QK:IntKind.i64.wrap ((32:Int)-0)=32:=by decide
attribute [local go_sem] ag dX d7 dQ dR eV eT fS gb gW gT gV gY eD eB fZ fW ek eh dp dq dJ dI eX eS bU bW bu aC aH bm fN cy gL opV opR opE ah oSP aw oTo oOf cw be op0 r0 emp co gOf aD aF aI aj alO ac bg w430 w431 w432 w433 w434 w435 w436 w437 w438 w439 QK
theorem PC (ss:Bool) (rd rn rm ra a:Int) (ha:0≤a∧a≤63):Lf Tryz.f34 [(ai ac).enc ⟨5,true,ss,rd,rn,rm,ra,a,0,63⟩] (.ret (aj ((⟨#[97,115,114]⟩:ByteArray),[ah rd true,ah rn true,aw a]))):=by
 refine Lf.go (ctx:=bg) Tryz.ntmps34 Tryz.results34 rfl ?_
 have k2:IntKind.i64.wrap (64-a)=64-a:=wr (by omega)
 have k3:IntKind.i64.wrap (63-a)=63-a:=wr (by omega)
 have k4:IntKind.i64.wrap ((63-a)+1)=(63-a)+1:=wr (by omega)
 simp only [go_sem,k2,k3,k4]
 refine ab (ctx:=bg) ak ⟨[],[],[]⟩ (by kernel_rfl) ?_
 simp only [go_sem,k2,k3,k4]
 refine ab (ctx:=bg) ak ⟨[],[],[]⟩ (by kernel_rfl) ?_
 simp only [go_sem,k2,k3,k4]
 refine ab (ctx:=bg) ak ⟨[6,7],[],[]⟩ (by kernel_rfl) ?_
 simp only [go_sem,k2,k3,k4]
theorem Qc (ss:Bool) (rd rn rm ra:Int):Lf Tryz.f34 [(ai ac).enc ⟨5,true,ss,rd,rn,rm,ra,0,0,7⟩] (.ret (aj ((⟨#[115,120,116,98]⟩:ByteArray),[ah rd true,ah rn false]))):=by
 refine Lf.go (ctx:=bg) Tryz.ntmps34 Tryz.results34 rfl ?_
 simp only [go_sem]
 refine ab (ctx:=bg) ak ⟨[],[],[]⟩ (by kernel_rfl) ?_
 simp only [go_sem]
 refine ab (ctx:=bg) ak ⟨[],[],[]⟩ (by kernel_rfl) ?_
 simp only [go_sem]
 refine ab (ctx:=bg) ak ⟨[5,6],[],[]⟩ (by kernel_rfl) ?_
 simp only [go_sem]
theorem LZ (ss:Bool) (rd rn rm ra:Int):Lf Tryz.f34 [(ai ac).enc ⟨5,true,ss,rd,rn,rm,ra,0,0,15⟩] (.ret (aj ((⟨#[115,120,116,104]⟩:ByteArray),[ah rd true,ah rn false]))):=by
 refine Lf.go (ctx:=bg) Tryz.ntmps34 Tryz.results34 rfl ?_
 simp only [go_sem]
 refine ab (ctx:=bg) ak ⟨[],[],[]⟩ (by kernel_rfl) ?_
 simp only [go_sem]
 refine ab (ctx:=bg) ak ⟨[],[],[]⟩ (by kernel_rfl) ?_
 simp only [go_sem]
 refine ab (ctx:=bg) ak ⟨[5,6],[],[]⟩ (by kernel_rfl) ?_
 simp only [go_sem]
theorem M9 (ss:Bool) (rd rn rm ra:Int):Lf Tryz.f34 [(ai ac).enc ⟨5,true,ss,rd,rn,rm,ra,0,0,31⟩] (.ret (aj ((⟨#[115,120,116,119]⟩:ByteArray),[ah rd true,ah rn false]))):=by
 refine Lf.go (ctx:=bg) Tryz.ntmps34 Tryz.results34 rfl ?_
 simp only [go_sem]
 refine ab (ctx:=bg) ak ⟨[],[],[]⟩ (by kernel_rfl) ?_
 simp only [go_sem]
 refine ab (ctx:=bg) ak ⟨[],[],[]⟩ (by kernel_rfl) ?_
 simp only [go_sem]
 refine ab (ctx:=bg) ak ⟨[5,6],[],[]⟩ (by kernel_rfl) ?_
 simp only [go_sem]
theorem Rn (ss:Bool) (rd rn rm ra a c:Int) (ha:0≤a∧a≤63) (hc:0≤c∧c≤63) (hf:¬c=63) (hl:c<a):Lf Tryz.f34 [(ai ac).enc ⟨5,true,ss,rd,rn,rm,ra,a,0,c⟩] (.ret (aj ((⟨#[115,98,102,105,122]⟩:ByteArray),[ah rd true,ah rn true,aw (64-a),aw (c+1)]))):=by
 refine Lf.go (ctx:=bg) Tryz.ntmps34 Tryz.results34 rfl ?_
 have k2:IntKind.i64.wrap (64-a)=64-a:=wr (by omega)
 have k3:IntKind.i64.wrap (c+1)=c+1:=wr (by omega)
 have k4:IntKind.i64.wrap (c-a)=c-a:=wr (by omega)
 have k5:IntKind.i64.wrap ((c-a)+1)=(c-a)+1:=wr (by omega)
 have k6:(a==(0:Int))=false:=b0 (by omega)
 simp only [go_sem,k2,k3,k4,k5,b0 hf,k6,hl]
 refine ab (ctx:=bg) ak ⟨[],[],[]⟩ (by kernel_rfl) ?_
 simp only [go_sem,k2,k3,k4,k5,b0 hf,k6,hl]
 refine ab (ctx:=bg) ak ⟨[],[],[]⟩ (by kernel_rfl) ?_
 simp only [go_sem,k2,k3,k4,k5,b0 hf,k6,hl]
theorem Qk (ss:Bool) (rd rn rm ra c:Int) (hc:0≤c∧c≤63) (hf:¬c=63) (hz:¬c=7∧¬c=15∧¬c=31):Lf Tryz.f34 [(ai ac).enc ⟨5,true,ss,rd,rn,rm,ra,0,0,c⟩] (.ret (aj ((⟨#[115,98,102,120]⟩:ByteArray),[ah rd true,ah rn true,aw 0,aw (c-0+1)]))):=by
 refine Lf.go (ctx:=bg) Tryz.ntmps34 Tryz.results34 rfl ?_
 have k2:IntKind.i64.wrap (c+1)=c+1:=wr (by omega)
 have k3:IntKind.i64.wrap (c-0)=c-0:=wr (by omega)
 have k4:IntKind.i64.wrap ((c-0)+1)=(c-0)+1:=wr (by omega)
 have k5:¬(c<0):=by omega
 simp only [go_sem,k2,k3,k4,b0 hf,b0 hz.1,b0 hz.2.1,b0 hz.2.2,k5]
 refine ab (ctx:=bg) ak ⟨[],[],[]⟩ (by kernel_rfl) ?_
 simp only [go_sem,k2,k3,k4,b0 hf,b0 hz.1,b0 hz.2.1,b0 hz.2.2,k5]
 refine ab (ctx:=bg) ak ⟨[],[],[]⟩ (by kernel_rfl) ?_
 simp only [go_sem,k2,k3,k4,b0 hf,b0 hz.1,b0 hz.2.1,b0 hz.2.2,k5]
theorem QC (ss:Bool) (rd rn rm ra a c:Int) (ha:0≤a∧a≤63) (hc:0≤c∧c≤63) (hf:¬c=63) (h0:¬a=0) (hl:¬c<a):Lf Tryz.f34 [(ai ac).enc ⟨5,true,ss,rd,rn,rm,ra,a,0,c⟩] (.ret (aj ((⟨#[115,98,102,120]⟩:ByteArray),[ah rd true,ah rn true,aw a,aw (c-a+1)]))):=by
 refine Lf.go (ctx:=bg) Tryz.ntmps34 Tryz.results34 rfl ?_
 have k2:IntKind.i64.wrap (64-a)=64-a:=wr (by omega)
 have k3:IntKind.i64.wrap (c+1)=c+1:=wr (by omega)
 have k4:IntKind.i64.wrap (c-a)=c-a:=wr (by omega)
 have k5:IntKind.i64.wrap ((c-a)+1)=(c-a)+1:=wr (by omega)
 simp only [go_sem,k2,k3,k4,k5,b0 hf,b0 h0,hl]
 refine ab (ctx:=bg) ak ⟨[],[],[]⟩ (by kernel_rfl) ?_
 simp only [go_sem,k2,k3,k4,k5,b0 hf,b0 h0,hl]
 refine ab (ctx:=bg) ak ⟨[],[],[]⟩ (by kernel_rfl) ?_
 simp only [go_sem,k2,k3,k4,k5,b0 hf,b0 h0,hl]
theorem OR (ss:Bool) (rd rm ra a c:Int) (ha:0≤a∧a≤63) (hc:0≤c∧c≤63) (hl:c<a):Lf Tryz.f34 [(ai ac).enc ⟨5,true,ss,rd,31,rm,ra,a,1,c⟩] (.ret (aj ((⟨#[98,102,99]⟩:ByteArray),[ah rd true,aw (64-a),aw (c+1)]))):=by
 refine Lf.go (ctx:=bg) Tryz.ntmps34 Tryz.results34 rfl ?_
 have k2:IntKind.i64.wrap (64-a)=64-a:=wr (by omega)
 have k3:IntKind.i64.wrap (c+1)=c+1:=wr (by omega)
 have k4:IntKind.i64.wrap (c-a)=c-a:=wr (by omega)
 have k5:IntKind.i64.wrap ((c-a)+1)=(c-a)+1:=wr (by omega)
 simp only [go_sem,k2,k3,k4,k5,hl]
 refine ab (ctx:=bg) ak ⟨[],[],[]⟩ (by kernel_rfl) ?_
 simp only [go_sem,k2,k3,k4,k5,hl]
 refine ab (ctx:=bg) ak ⟨[],[],[]⟩ (by kernel_rfl) ?_
 simp only [go_sem,k2,k3,k4,k5,hl]
 refine ab (ctx:=bg) ak ⟨[8,9],[],[]⟩ (by kernel_rfl) ?_
 simp only [go_sem,k2,k3,k4,k5,hl]
theorem NU (ss:Bool) (rd rn rm ra a c:Int) (ha:0≤a∧a≤63) (hc:0≤c∧c≤63) (hl:c<a) (hn:¬rn=31):Lf Tryz.f34 [(ai ac).enc ⟨5,true,ss,rd,rn,rm,ra,a,1,c⟩] (.ret (aj ((⟨#[98,102,105]⟩:ByteArray),[ah rd true,ah rn true,aw (64-a),aw (c+1)]))):=by
 refine Lf.go (ctx:=bg) Tryz.ntmps34 Tryz.results34 rfl ?_
 have k2:IntKind.i64.wrap (64-a)=64-a:=wr (by omega)
 have k3:IntKind.i64.wrap (c+1)=c+1:=wr (by omega)
 have k4:IntKind.i64.wrap (c-a)=c-a:=wr (by omega)
 have k5:IntKind.i64.wrap ((c-a)+1)=(c-a)+1:=wr (by omega)
 simp only [go_sem,k2,k3,k4,k5,hl,b0 hn]
 refine ab (ctx:=bg) ak ⟨[],[],[]⟩ (by kernel_rfl) ?_
 simp only [go_sem,k2,k3,k4,k5,hl,b0 hn]
 refine ab (ctx:=bg) ak ⟨[],[],[]⟩ (by kernel_rfl) ?_
 simp only [go_sem,k2,k3,k4,k5,hl,b0 hn]
theorem NY (ss:Bool) (rd rn rm ra a c:Int) (ha:0≤a∧a≤63) (hc:0≤c∧c≤63) (hl:¬c<a):Lf Tryz.f34 [(ai ac).enc ⟨5,true,ss,rd,rn,rm,ra,a,1,c⟩] (.ret (aj ((⟨#[98,102,120,105,108]⟩:ByteArray),[ah rd true,ah rn true,aw a,aw (c-a+1)]))):=by
 refine Lf.go (ctx:=bg) Tryz.ntmps34 Tryz.results34 rfl ?_
 have k2:IntKind.i64.wrap (64-a)=64-a:=wr (by omega)
 have k3:IntKind.i64.wrap (c+1)=c+1:=wr (by omega)
 have k4:IntKind.i64.wrap (c-a)=c-a:=wr (by omega)
 have k5:IntKind.i64.wrap ((c-a)+1)=(c-a)+1:=wr (by omega)
 simp only [go_sem,k2,k3,k4,k5,hl]
 refine ab (ctx:=bg) ak ⟨[],[],[]⟩ (by kernel_rfl) ?_
 simp only [go_sem,k2,k3,k4,k5,hl]
 refine ab (ctx:=bg) ak ⟨[],[],[]⟩ (by kernel_rfl) ?_
 simp only [go_sem,k2,k3,k4,k5,hl]
theorem QP (ss:Bool) (rd rn rm ra a:Int) (ha:0≤a∧a≤63):Lf Tryz.f34 [(ai ac).enc ⟨5,true,ss,rd,rn,rm,ra,a,2,63⟩] (.ret (aj ((⟨#[108,115,114]⟩:ByteArray),[ah rd true,ah rn true,aw a]))):=by
 refine Lf.go (ctx:=bg) Tryz.ntmps34 Tryz.results34 rfl ?_
 have k2:IntKind.i64.wrap (64-a)=64-a:=wr (by omega)
 have k3:IntKind.i64.wrap (63-a)=63-a:=wr (by omega)
 have k4:IntKind.i64.wrap ((63-a)+1)=(63-a)+1:=wr (by omega)
 simp only [go_sem,k2,k3,k4]
 refine ab (ctx:=bg) ak ⟨[],[],[]⟩ (by kernel_rfl) ?_
 simp only [go_sem,k2,k3,k4]
 refine ab (ctx:=bg) ak ⟨[],[],[]⟩ (by kernel_rfl) ?_
 simp only [go_sem,k2,k3,k4]
 refine ab (ctx:=bg) ak ⟨[6,7],[],[]⟩ (by kernel_rfl) ?_
 simp only [go_sem,k2,k3,k4]
theorem RF (ss:Bool) (rd rn rm ra a c:Int) (ha:0≤a∧a≤63) (hc:0≤c∧c≤63) (hf:¬c=63) (hs:c+1=a):Lf Tryz.f34 [(ai ac).enc ⟨5,true,ss,rd,rn,rm,ra,a,2,c⟩] (.ret (aj ((⟨#[108,115,108]⟩:ByteArray),[ah rd true,ah rn true,aw (64-a)]))):=by
 refine Lf.go (ctx:=bg) Tryz.ntmps34 Tryz.results34 rfl ?_
 have k2:IntKind.i64.wrap (64-a)=64-a:=wr (by omega)
 have k3:IntKind.i64.wrap (c+1)=c+1:=wr (by omega)
 have k4:IntKind.i64.wrap (c-a)=c-a:=wr (by omega)
 have k5:IntKind.i64.wrap ((c-a)+1)=(c-a)+1:=wr (by omega)
 have k6:((c+1)==(a:Int))=true:=b1 (by omega)
 simp only [go_sem,k2,k3,k4,k5,b0 hf,k6]
 refine ab (ctx:=bg) ak ⟨[],[],[]⟩ (by kernel_rfl) ?_
 simp only [go_sem,k2,k3,k4,k5,b0 hf,k6]
 refine ab (ctx:=bg) ak ⟨[],[],[]⟩ (by kernel_rfl) ?_
 simp only [go_sem,k2,k3,k4,k5,b0 hf,k6]
 refine ab (ctx:=bg) ak ⟨[8,9],[],[]⟩ (by kernel_rfl) ?_
 simp only [go_sem,k2,k3,k4,k5,b0 hf,k6]
theorem OA (ss:Bool) (rd rn rm ra c:Int) (hc:0≤c∧c≤63) (hf:¬c=63):Lf Tryz.f34 [(ai ac).enc ⟨5,true,ss,rd,rn,rm,ra,0,2,c⟩] (.ret (aj ((⟨#[117,98,102,120]⟩:ByteArray),[ah rd true,ah rn true,aw 0,aw (c-0+1)]))):=by
 refine Lf.go (ctx:=bg) Tryz.ntmps34 Tryz.results34 rfl ?_
 have k2:IntKind.i64.wrap (c+1)=c+1:=wr (by omega)
 have k3:IntKind.i64.wrap (c-0)=c-0:=wr (by omega)
 have k4:IntKind.i64.wrap ((c-0)+1)=(c-0)+1:=wr (by omega)
 have k5:((c+1)==(0:Int))=false:=b0 (by omega)
 have k6:¬(c<0):=by omega
 simp only [go_sem,k2,k3,k4,b0 hf,k5,k6]
 refine ab (ctx:=bg) ak ⟨[],[],[]⟩ (by kernel_rfl) ?_
 simp only [go_sem,k2,k3,k4,b0 hf,k5,k6]
 refine ab (ctx:=bg) ak ⟨[],[],[]⟩ (by kernel_rfl) ?_
 simp only [go_sem,k2,k3,k4,b0 hf,k5,k6]
theorem PL (ss:Bool) (rd rn rm ra a c:Int) (ha:0≤a∧a≤63) (hc:0≤c∧c≤63) (hf:¬c=63) (hs:¬c+1=a) (hl:c<a):Lf Tryz.f34 [(ai ac).enc ⟨5,true,ss,rd,rn,rm,ra,a,2,c⟩] (.ret (aj ((⟨#[117,98,102,105,122]⟩:ByteArray),[ah rd true,ah rn true,aw (64-a),aw (c+1)]))):=by
 refine Lf.go (ctx:=bg) Tryz.ntmps34 Tryz.results34 rfl ?_
 have k2:IntKind.i64.wrap (64-a)=64-a:=wr (by omega)
 have k3:IntKind.i64.wrap (c+1)=c+1:=wr (by omega)
 have k4:IntKind.i64.wrap (c-a)=c-a:=wr (by omega)
 have k5:IntKind.i64.wrap ((c-a)+1)=(c-a)+1:=wr (by omega)
 have k6:((c+1)==(a:Int))=false:=b0 (by omega)
 have k7:(a==(0:Int))=false:=b0 (by omega)
 simp only [go_sem,k2,k3,k4,k5,b0 hf,k6,k7,hl]
 refine ab (ctx:=bg) ak ⟨[],[],[]⟩ (by kernel_rfl) ?_
 simp only [go_sem,k2,k3,k4,k5,b0 hf,k6,k7,hl]
 refine ab (ctx:=bg) ak ⟨[],[],[]⟩ (by kernel_rfl) ?_
 simp only [go_sem,k2,k3,k4,k5,b0 hf,k6,k7,hl]
theorem Qo (ss:Bool) (rd rn rm ra a c:Int) (ha:0≤a∧a≤63) (hc:0≤c∧c≤63) (hf:¬c=63) (h0:¬a=0) (hl:¬c<a):Lf Tryz.f34 [(ai ac).enc ⟨5,true,ss,rd,rn,rm,ra,a,2,c⟩] (.ret (aj ((⟨#[117,98,102,120]⟩:ByteArray),[ah rd true,ah rn true,aw a,aw (c-a+1)]))):=by
 refine Lf.go (ctx:=bg) Tryz.ntmps34 Tryz.results34 rfl ?_
 have k2:IntKind.i64.wrap (64-a)=64-a:=wr (by omega)
 have k3:IntKind.i64.wrap (c+1)=c+1:=wr (by omega)
 have k4:IntKind.i64.wrap (c-a)=c-a:=wr (by omega)
 have k5:IntKind.i64.wrap ((c-a)+1)=(c-a)+1:=wr (by omega)
 have k6:((c+1)==(a:Int))=false:=b0 (by omega)
 simp only [go_sem,k2,k3,k4,k5,b0 hf,k6,b0 h0,hl]
 refine ab (ctx:=bg) ak ⟨[],[],[]⟩ (by kernel_rfl) ?_
 simp only [go_sem,k2,k3,k4,k5,b0 hf,k6,b0 h0,hl]
 refine ab (ctx:=bg) ak ⟨[],[],[]⟩ (by kernel_rfl) ?_
 simp only [go_sem,k2,k3,k4,k5,b0 hf,k6,b0 h0,hl]
theorem qf0f (ss:Bool) (rd rn rm ra a:Int) (ha:0≤a∧a≤63):Lf Tryz.f34 [(ai ac).enc ⟨5,false,ss,rd,rn,rm,ra,a,0,31⟩] (.ret (aj ((⟨#[97,115,114]⟩:ByteArray),[ah rd false,ah rn false,aw a]))):=by
 refine Lf.go (ctx:=bg) Tryz.ntmps34 Tryz.results34 rfl ?_
 have k2:IntKind.i64.wrap (32-a)=32-a:=wr (by omega)
 have k3:IntKind.i64.wrap (31-a)=31-a:=wr (by omega)
 have k4:IntKind.i64.wrap ((31-a)+1)=(31-a)+1:=wr (by omega)
 simp only [go_sem,k2,k3,k4]
 refine ab (ctx:=bg) ak ⟨[],[],[]⟩ (by kernel_rfl) ?_
 simp only [go_sem,k2,k3,k4]
 refine ab (ctx:=bg) ak ⟨[],[],[]⟩ (by kernel_rfl) ?_
 simp only [go_sem,k2,k3,k4]
 refine ab (ctx:=bg) ak ⟨[6,7],[],[]⟩ (by kernel_rfl) ?_
 simp only [go_sem,k2,k3,k4]
theorem qf07 (ss:Bool) (rd rn rm ra:Int):Lf Tryz.f34 [(ai ac).enc ⟨5,false,ss,rd,rn,rm,ra,0,0,7⟩] (.ret (aj ((⟨#[115,120,116,98]⟩:ByteArray),[ah rd false,ah rn false]))):=by
 refine Lf.go (ctx:=bg) Tryz.ntmps34 Tryz.results34 rfl ?_
 simp only [go_sem]
 refine ab (ctx:=bg) ak ⟨[],[],[]⟩ (by kernel_rfl) ?_
 simp only [go_sem]
 refine ab (ctx:=bg) ak ⟨[],[],[]⟩ (by kernel_rfl) ?_
 simp only [go_sem]
 refine ab (ctx:=bg) ak ⟨[5,6],[],[]⟩ (by kernel_rfl) ?_
 simp only [go_sem]
theorem Qx (ss:Bool) (rd rn rm ra:Int):Lf Tryz.f34 [(ai ac).enc ⟨5,false,ss,rd,rn,rm,ra,0,0,15⟩] (.ret (aj ((⟨#[115,120,116,104]⟩:ByteArray),[ah rd false,ah rn false]))):=by
 refine Lf.go (ctx:=bg) Tryz.ntmps34 Tryz.results34 rfl ?_
 simp only [go_sem]
 refine ab (ctx:=bg) ak ⟨[],[],[]⟩ (by kernel_rfl) ?_
 simp only [go_sem]
 refine ab (ctx:=bg) ak ⟨[],[],[]⟩ (by kernel_rfl) ?_
 simp only [go_sem]
 refine ab (ctx:=bg) ak ⟨[5,6],[],[]⟩ (by kernel_rfl) ?_
 simp only [go_sem]
theorem qf0l (ss:Bool) (rd rn rm ra a c:Int) (ha:0≤a∧a≤63) (hc:0≤c∧c≤63) (hf:¬c=31) (hl:c<a):Lf Tryz.f34 [(ai ac).enc ⟨5,false,ss,rd,rn,rm,ra,a,0,c⟩] (.ret (aj ((⟨#[115,98,102,105,122]⟩:ByteArray),[ah rd false,ah rn false,aw (32-a),aw (c+1)]))):=by
 refine Lf.go (ctx:=bg) Tryz.ntmps34 Tryz.results34 rfl ?_
 have k2:IntKind.i64.wrap (32-a)=32-a:=wr (by omega)
 have k3:IntKind.i64.wrap (c+1)=c+1:=wr (by omega)
 have k4:IntKind.i64.wrap (c-a)=c-a:=wr (by omega)
 have k5:IntKind.i64.wrap ((c-a)+1)=(c-a)+1:=wr (by omega)
 have k6:(a==(0:Int))=false:=b0 (by omega)
 simp only [go_sem,k2,k3,k4,k5,b0 hf,k6,hl]
 refine ab (ctx:=bg) ak ⟨[],[],[]⟩ (by kernel_rfl) ?_
 simp only [go_sem,k2,k3,k4,k5,b0 hf,k6,hl]
 refine ab (ctx:=bg) ak ⟨[],[],[]⟩ (by kernel_rfl) ?_
 simp only [go_sem,k2,k3,k4,k5,b0 hf,k6,hl]
theorem qf0z (ss:Bool) (rd rn rm ra c:Int) (hc:0≤c∧c≤63) (hf:¬c=31) (hz:¬c=7∧¬c=15∧¬c=31):Lf Tryz.f34 [(ai ac).enc ⟨5,false,ss,rd,rn,rm,ra,0,0,c⟩] (.ret (aj ((⟨#[115,98,102,120]⟩:ByteArray),[ah rd false,ah rn false,aw 0,aw (c-0+1)]))):=by
 refine Lf.go (ctx:=bg) Tryz.ntmps34 Tryz.results34 rfl ?_
 have k2:IntKind.i64.wrap (c+1)=c+1:=wr (by omega)
 have k3:IntKind.i64.wrap (c-0)=c-0:=wr (by omega)
 have k4:IntKind.i64.wrap ((c-0)+1)=(c-0)+1:=wr (by omega)
 have k5:¬(c<0):=by omega
 simp only [go_sem,k2,k3,k4,b0 hz.2.2,b0 hz.1,b0 hz.2.1,k5]
 refine ab (ctx:=bg) ak ⟨[],[],[]⟩ (by kernel_rfl) ?_
 simp only [go_sem,k2,k3,k4,b0 hz.2.2,b0 hz.1,b0 hz.2.1,k5]
 refine ab (ctx:=bg) ak ⟨[],[],[]⟩ (by kernel_rfl) ?_
 simp only [go_sem,k2,k3,k4,b0 hz.2.2,b0 hz.1,b0 hz.2.1,k5]
theorem qf0g (ss:Bool) (rd rn rm ra a c:Int) (ha:0≤a∧a≤63) (hc:0≤c∧c≤63) (hf:¬c=31) (h0:¬a=0) (hl:¬c<a):Lf Tryz.f34 [(ai ac).enc ⟨5,false,ss,rd,rn,rm,ra,a,0,c⟩] (.ret (aj ((⟨#[115,98,102,120]⟩:ByteArray),[ah rd false,ah rn false,aw a,aw (c-a+1)]))):=by
 refine Lf.go (ctx:=bg) Tryz.ntmps34 Tryz.results34 rfl ?_
 have k2:IntKind.i64.wrap (32-a)=32-a:=wr (by omega)
 have k3:IntKind.i64.wrap (c+1)=c+1:=wr (by omega)
 have k4:IntKind.i64.wrap (c-a)=c-a:=wr (by omega)
 have k5:IntKind.i64.wrap ((c-a)+1)=(c-a)+1:=wr (by omega)
 simp only [go_sem,k2,k3,k4,k5,b0 hf,b0 h0,hl]
 refine ab (ctx:=bg) ak ⟨[],[],[]⟩ (by kernel_rfl) ?_
 simp only [go_sem,k2,k3,k4,k5,b0 hf,b0 h0,hl]
 refine ab (ctx:=bg) ak ⟨[],[],[]⟩ (by kernel_rfl) ?_
 simp only [go_sem,k2,k3,k4,k5,b0 hf,b0 h0,hl]
theorem qf1z (ss:Bool) (rd rm ra a c:Int) (ha:0≤a∧a≤63) (hc:0≤c∧c≤63) (hl:c<a):Lf Tryz.f34 [(ai ac).enc ⟨5,false,ss,rd,31,rm,ra,a,1,c⟩] (.ret (aj ((⟨#[98,102,99]⟩:ByteArray),[ah rd false,aw (32-a),aw (c+1)]))):=by
 refine Lf.go (ctx:=bg) Tryz.ntmps34 Tryz.results34 rfl ?_
 have k2:IntKind.i64.wrap (32-a)=32-a:=wr (by omega)
 have k3:IntKind.i64.wrap (c+1)=c+1:=wr (by omega)
 have k4:IntKind.i64.wrap (c-a)=c-a:=wr (by omega)
 have k5:IntKind.i64.wrap ((c-a)+1)=(c-a)+1:=wr (by omega)
 simp only [go_sem,k2,k3,k4,k5,hl]
 refine ab (ctx:=bg) ak ⟨[],[],[]⟩ (by kernel_rfl) ?_
 simp only [go_sem,k2,k3,k4,k5,hl]
 refine ab (ctx:=bg) ak ⟨[],[],[]⟩ (by kernel_rfl) ?_
 simp only [go_sem,k2,k3,k4,k5,hl]
 refine ab (ctx:=bg) ak ⟨[8,9],[],[]⟩ (by kernel_rfl) ?_
 simp only [go_sem,k2,k3,k4,k5,hl]
theorem qf1l (ss:Bool) (rd rn rm ra a c:Int) (ha:0≤a∧a≤63) (hc:0≤c∧c≤63) (hl:c<a) (hn:¬rn=31):Lf Tryz.f34 [(ai ac).enc ⟨5,false,ss,rd,rn,rm,ra,a,1,c⟩] (.ret (aj ((⟨#[98,102,105]⟩:ByteArray),[ah rd false,ah rn false,aw (32-a),aw (c+1)]))):=by
 refine Lf.go (ctx:=bg) Tryz.ntmps34 Tryz.results34 rfl ?_
 have k2:IntKind.i64.wrap (32-a)=32-a:=wr (by omega)
 have k3:IntKind.i64.wrap (c+1)=c+1:=wr (by omega)
 have k4:IntKind.i64.wrap (c-a)=c-a:=wr (by omega)
 have k5:IntKind.i64.wrap ((c-a)+1)=(c-a)+1:=wr (by omega)
 simp only [go_sem,k2,k3,k4,k5,hl,b0 hn]
 refine ab (ctx:=bg) ak ⟨[],[],[]⟩ (by kernel_rfl) ?_
 simp only [go_sem,k2,k3,k4,k5,hl,b0 hn]
 refine ab (ctx:=bg) ak ⟨[],[],[]⟩ (by kernel_rfl) ?_
 simp only [go_sem,k2,k3,k4,k5,hl,b0 hn]
theorem qf1g (ss:Bool) (rd rn rm ra a c:Int) (ha:0≤a∧a≤63) (hc:0≤c∧c≤63) (hl:¬c<a):Lf Tryz.f34 [(ai ac).enc ⟨5,false,ss,rd,rn,rm,ra,a,1,c⟩] (.ret (aj ((⟨#[98,102,120,105,108]⟩:ByteArray),[ah rd false,ah rn false,aw a,aw (c-a+1)]))):=by
 refine Lf.go (ctx:=bg) Tryz.ntmps34 Tryz.results34 rfl ?_
 have k2:IntKind.i64.wrap (32-a)=32-a:=wr (by omega)
 have k3:IntKind.i64.wrap (c+1)=c+1:=wr (by omega)
 have k4:IntKind.i64.wrap (c-a)=c-a:=wr (by omega)
 have k5:IntKind.i64.wrap ((c-a)+1)=(c-a)+1:=wr (by omega)
 simp only [go_sem,k2,k3,k4,k5,hl]
 refine ab (ctx:=bg) ak ⟨[],[],[]⟩ (by kernel_rfl) ?_
 simp only [go_sem,k2,k3,k4,k5,hl]
 refine ab (ctx:=bg) ak ⟨[],[],[]⟩ (by kernel_rfl) ?_
 simp only [go_sem,k2,k3,k4,k5,hl]
theorem qf2f (ss:Bool) (rd rn rm ra a:Int) (ha:0≤a∧a≤63):Lf Tryz.f34 [(ai ac).enc ⟨5,false,ss,rd,rn,rm,ra,a,2,31⟩] (.ret (aj ((⟨#[108,115,114]⟩:ByteArray),[ah rd false,ah rn false,aw a]))):=by
 refine Lf.go (ctx:=bg) Tryz.ntmps34 Tryz.results34 rfl ?_
 have k2:IntKind.i64.wrap (32-a)=32-a:=wr (by omega)
 have k3:IntKind.i64.wrap (31-a)=31-a:=wr (by omega)
 have k4:IntKind.i64.wrap ((31-a)+1)=(31-a)+1:=wr (by omega)
 simp only [go_sem,k2,k3,k4]
 refine ab (ctx:=bg) ak ⟨[],[],[]⟩ (by kernel_rfl) ?_
 simp only [go_sem,k2,k3,k4]
 refine ab (ctx:=bg) ak ⟨[],[],[]⟩ (by kernel_rfl) ?_
 simp only [go_sem,k2,k3,k4]
 refine ab (ctx:=bg) ak ⟨[6,7],[],[]⟩ (by kernel_rfl) ?_
 simp only [go_sem,k2,k3,k4]
theorem qf2s (ss:Bool) (rd rn rm ra a c:Int) (ha:0≤a∧a≤63) (hc:0≤c∧c≤63) (hf:¬c=31) (hs:c+1=a):Lf Tryz.f34 [(ai ac).enc ⟨5,false,ss,rd,rn,rm,ra,a,2,c⟩] (.ret (aj ((⟨#[108,115,108]⟩:ByteArray),[ah rd false,ah rn false,aw (32-a)]))):=by
 refine Lf.go (ctx:=bg) Tryz.ntmps34 Tryz.results34 rfl ?_
 have k2:IntKind.i64.wrap (32-a)=32-a:=wr (by omega)
 have k3:IntKind.i64.wrap (c+1)=c+1:=wr (by omega)
 have k4:IntKind.i64.wrap (c-a)=c-a:=wr (by omega)
 have k5:IntKind.i64.wrap ((c-a)+1)=(c-a)+1:=wr (by omega)
 have k6:((c+1)==(a:Int))=true:=b1 (by omega)
 simp only [go_sem,k2,k3,k4,k5,b0 hf,k6]
 refine ab (ctx:=bg) ak ⟨[],[],[]⟩ (by kernel_rfl) ?_
 simp only [go_sem,k2,k3,k4,k5,b0 hf,k6]
 refine ab (ctx:=bg) ak ⟨[],[],[]⟩ (by kernel_rfl) ?_
 simp only [go_sem,k2,k3,k4,k5,b0 hf,k6]
 refine ab (ctx:=bg) ak ⟨[8,9],[],[]⟩ (by kernel_rfl) ?_
 simp only [go_sem,k2,k3,k4,k5,b0 hf,k6]
theorem qf27 (ss:Bool) (rd rn rm ra:Int):Lf Tryz.f34 [(ai ac).enc ⟨5,false,ss,rd,rn,rm,ra,0,2,7⟩] (.ret (aj ((⟨#[117,120,116,98]⟩:ByteArray),[ah rd false,ah rn false]))):=by
 refine Lf.go (ctx:=bg) Tryz.ntmps34 Tryz.results34 rfl ?_
 simp only [go_sem]
 refine ab (ctx:=bg) ak ⟨[],[],[]⟩ (by kernel_rfl) ?_
 simp only [go_sem]
 refine ab (ctx:=bg) ak ⟨[],[],[]⟩ (by kernel_rfl) ?_
 simp only [go_sem]
theorem Px (ss:Bool) (rd rn rm ra:Int):Lf Tryz.f34 [(ai ac).enc ⟨5,false,ss,rd,rn,rm,ra,0,2,15⟩] (.ret (aj ((⟨#[117,120,116,104]⟩:ByteArray),[ah rd false,ah rn false]))):=by
 refine Lf.go (ctx:=bg) Tryz.ntmps34 Tryz.results34 rfl ?_
 simp only [go_sem]
 refine ab (ctx:=bg) ak ⟨[],[],[]⟩ (by kernel_rfl) ?_
 simp only [go_sem]
 refine ab (ctx:=bg) ak ⟨[],[],[]⟩ (by kernel_rfl) ?_
 simp only [go_sem]
theorem qf2z (ss:Bool) (rd rn rm ra c:Int) (hc:0≤c∧c≤63) (hf:¬c=31) (hz:¬c=7∧¬c=15):Lf Tryz.f34 [(ai ac).enc ⟨5,false,ss,rd,rn,rm,ra,0,2,c⟩] (.ret (aj ((⟨#[117,98,102,120]⟩:ByteArray),[ah rd false,ah rn false,aw 0,aw (c-0+1)]))):=by
 refine Lf.go (ctx:=bg) Tryz.ntmps34 Tryz.results34 rfl ?_
 have k2:IntKind.i64.wrap (c+1)=c+1:=wr (by omega)
 have k3:IntKind.i64.wrap (c-0)=c-0:=wr (by omega)
 have k4:IntKind.i64.wrap ((c-0)+1)=(c-0)+1:=wr (by omega)
 have k5:((c+1)==(0:Int))=false:=b0 (by omega)
 have k6:¬(c<0):=by omega
 simp only [go_sem,k2,k3,k4,b0 hf,k5,b0 hz.1,b0 hz.2,k6]
 refine ab (ctx:=bg) ak ⟨[],[],[]⟩ (by kernel_rfl) ?_
 simp only [go_sem,k2,k3,k4,b0 hf,k5,b0 hz.1,b0 hz.2,k6]
 refine ab (ctx:=bg) ak ⟨[],[],[]⟩ (by kernel_rfl) ?_
 simp only [go_sem,k2,k3,k4,b0 hf,k5,b0 hz.1,b0 hz.2,k6]
theorem qf2l (ss:Bool) (rd rn rm ra a c:Int) (ha:0≤a∧a≤63) (hc:0≤c∧c≤63) (hf:¬c=31) (hs:¬c+1=a) (hl:c<a):Lf Tryz.f34 [(ai ac).enc ⟨5,false,ss,rd,rn,rm,ra,a,2,c⟩] (.ret (aj ((⟨#[117,98,102,105,122]⟩:ByteArray),[ah rd false,ah rn false,aw (32-a),aw (c+1)]))):=by
 refine Lf.go (ctx:=bg) Tryz.ntmps34 Tryz.results34 rfl ?_
 have k2:IntKind.i64.wrap (32-a)=32-a:=wr (by omega)
 have k3:IntKind.i64.wrap (c+1)=c+1:=wr (by omega)
 have k4:IntKind.i64.wrap (c-a)=c-a:=wr (by omega)
 have k5:IntKind.i64.wrap ((c-a)+1)=(c-a)+1:=wr (by omega)
 have k6:((c+1)==(a:Int))=false:=b0 (by omega)
 have k7:(a==(0:Int))=false:=b0 (by omega)
 simp only [go_sem,k2,k3,k4,k5,b0 hf,k6,k7,hl]
 refine ab (ctx:=bg) ak ⟨[],[],[]⟩ (by kernel_rfl) ?_
 simp only [go_sem,k2,k3,k4,k5,b0 hf,k6,k7,hl]
 refine ab (ctx:=bg) ak ⟨[],[],[]⟩ (by kernel_rfl) ?_
 simp only [go_sem,k2,k3,k4,k5,b0 hf,k6,k7,hl]
theorem qf2g (ss:Bool) (rd rn rm ra a c:Int) (ha:0≤a∧a≤63) (hc:0≤c∧c≤63) (hf:¬c=31) (h0:¬a=0) (hl:¬c<a):Lf Tryz.f34 [(ai ac).enc ⟨5,false,ss,rd,rn,rm,ra,a,2,c⟩] (.ret (aj ((⟨#[117,98,102,120]⟩:ByteArray),[ah rd false,ah rn false,aw a,aw (c-a+1)]))):=by
 refine Lf.go (ctx:=bg) Tryz.ntmps34 Tryz.results34 rfl ?_
 have k2:IntKind.i64.wrap (32-a)=32-a:=wr (by omega)
 have k3:IntKind.i64.wrap (c+1)=c+1:=wr (by omega)
 have k4:IntKind.i64.wrap (c-a)=c-a:=wr (by omega)
 have k5:IntKind.i64.wrap ((c-a)+1)=(c-a)+1:=wr (by omega)
 have k6:((c+1)==(a:Int))=false:=b0 (by omega)
 simp only [go_sem,k2,k3,k4,k5,b0 hf,k6,b0 h0,hl]
 refine ab (ctx:=bg) ak ⟨[],[],[]⟩ (by kernel_rfl) ?_
 simp only [go_sem,k2,k3,k4,k5,b0 hf,k6,b0 h0,hl]
 refine ab (ctx:=bg) ak ⟨[],[],[]⟩ (by kernel_rfl) ?_
 simp only [go_sem,k2,k3,k4,k5,b0 hf,k6,b0 h0,hl]
end Go.Proofs.YtpjlafmhoifkmaaGreat
