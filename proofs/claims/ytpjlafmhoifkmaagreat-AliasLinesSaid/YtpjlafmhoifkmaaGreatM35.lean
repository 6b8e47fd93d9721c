import Derived.Test.YtpjlafmhoifkmaaGreatM33
set_option linter.unusedVariables false
set_option linter.unusedSimpArgs false
set_option maxRecDepth 100000
set_option maxHeartbeats 8000000
namespace Go.Proofs.YtpjlafmhoifkmaaGreat
section
open Go.RowKit
attribute [local go_sem] dX d7 dQ dR eV eT fS gb gW gT gV gY eD eB fZ fW ek eh dp dq dJ dI eX eS bU bW bu aC aH bm fN cy gL opV opR opE ah oSP aw oTo oOf cw be op0 r0 emp co gOf aD aF aI aj ac
theorem rd1x (ss:Bool) (rd rn rm ra a b c:Int) (ha : -1000000000000≤a∧a≤1000000000000):SW Tryz.prog ⟨none,0⟩ Tryz.f73.ntmps (Tryz.f73.body.getD .skip) ⟨0,ag 0 [(ai ac).enc ⟨1,true,ss,rd,rn,rm,ra,a,b,c⟩],[]⟩ (ax Tryz.prog Tryz.f73.results.toList (.ret (aj (((⟨#[97,100,114,112]⟩:ByteArray),[ah rd true,oTo (4096*a)]))))):=by
 refine aa (ctx:=[⟨_,aB⟩,⟨_,bN⟩,⟨_,cU⟩,⟨_,bO⟩,⟨_,aA⟩,⟨_,ap⟩]) 4000 ?_
 rw [Tryz.ntmps73,Tryz.results73]
 simp only [Tryz.f73,Option.getD_some,ag]
 have w1:IntKind.i64.wrap (4096*a)=4096*a:=by rw [IntKind.wrap_i64];omega
 simp only [go_sem,w1]
 refine ab (ctx:=[⟨_,aB⟩,⟨_,bN⟩,⟨_,cU⟩,⟨_,bO⟩,⟨_,aA⟩,⟨_,ap⟩]) ak ⟨[8,9],[],[]⟩ (by kernel_rfl) ?_
 simp only [go_sem,w1]
theorem rd1w (ss:Bool) (rd rn rm ra a b c:Int):SW Tryz.prog ⟨none,0⟩ Tryz.f73.ntmps (Tryz.f73.body.getD .skip) ⟨0,ag 0 [(ai ac).enc ⟨1,false,ss,rd,rn,rm,ra,a,b,c⟩],[]⟩ (ax Tryz.prog Tryz.f73.results.toList (.ret (aj (((⟨#[97,100,114]⟩:ByteArray),[ah rd true,oTo a]))))):=by
 refine aa (ctx:=[⟨_,aB⟩,⟨_,bN⟩,⟨_,cU⟩,⟨_,bO⟩,⟨_,aA⟩,⟨_,ap⟩]) 4000 ?_
 rw [Tryz.ntmps73,Tryz.results73]
 simp only [Tryz.f73,Option.getD_some,ag]
 simp only [go_sem]
 refine ab (ctx:=[⟨_,aB⟩,⟨_,bN⟩,⟨_,cU⟩,⟨_,bO⟩,⟨_,aA⟩,⟨_,ap⟩]) ak ⟨[7,8],[],[]⟩ (by kernel_rfl) ?_
 simp only [go_sem]
theorem rd7 (xx ss:Bool) (rd rn rm ra a b c:Int) (ha : -1000000000000≤a∧a≤1000000000000):SW Tryz.prog ⟨none,0⟩ Tryz.f73.ntmps (Tryz.f73.body.getD .skip) ⟨0,ag 0 [(ai ac).enc ⟨7,xx,ss,rd,rn,rm,ra,a,b,c⟩],[]⟩ (ax Tryz.prog Tryz.f73.results.toList (.ret (aj (((⟨#[98,46]⟩:ByteArray)++(cV 2 b).1,[oTo (4*a)]))))):=by
 refine aa (ctx:=[⟨_,aB⟩,⟨_,bN⟩,⟨_,cU⟩,⟨_,bO⟩,⟨_,aA⟩,⟨_,ap⟩,⟨_,zC⟩]) 4000 ?_
 rw [Tryz.ntmps73,Tryz.results73]
 simp only [Tryz.f73,Option.getD_some,ag]
 have w1:IntKind.i64.wrap (4*a)=4*a:=by rw [IntKind.wrap_i64];omega
 obtain ⟨C,hC⟩:∃ C,(cV 2 b).1=C:=⟨_,rfl⟩
 have lC:C.size≤2:=by rw [← hC];exact tE b
 have s2:((⟨#[98,46]⟩:ByteArray)).size=2:=rfl
 have m1:2+C.size≤maxLen:=by unfold maxLen;omega
 simp only [go_sem,w1,BU,BJ,cf,hC,s2,m1]
theorem rd8 (xx ss:Bool) (rd rn rm ra a b c:Int) (ha : -1000000000000≤a∧a≤1000000000000):SW Tryz.prog ⟨none,0⟩ Tryz.f73.ntmps (Tryz.f73.body.getD .skip) ⟨0,ag 0 [(ai ac).enc ⟨8,xx,ss,rd,rn,rm,ra,a,b,c⟩],[]⟩ (ax Tryz.prog Tryz.f73.results.toList (.ret (aj ((cJ (⟨#[98]⟩:ByteArray) ss (⟨#[108]⟩:ByteArray),[oTo (4*a)]))))):=by
 refine aa (ctx:=[⟨_,aB⟩,⟨_,bN⟩,⟨_,cU⟩,⟨_,bO⟩,⟨_,aA⟩,⟨_,ap⟩]) 4000 ?_
 rw [Tryz.ntmps73,Tryz.results73]
 simp only [Tryz.f73,Option.getD_some,ag]
 have w1:IntKind.i64.wrap (4*a)=4*a:=by rw [IntKind.wrap_i64];omega
 simp only [go_sem,w1]
 refine ab (ctx:=[⟨_,aB⟩,⟨_,bN⟩,⟨_,cU⟩,⟨_,bO⟩,⟨_,aA⟩,⟨_,ap⟩]) ak ⟨[8,9],[],[]⟩ (by kernel_rfl) ?_
 simp only [go_sem,w1]
theorem rd9 (xx ss:Bool) (rd rn rm ra a b c:Int) (ha : -1000000000000≤a∧a≤1000000000000):SW Tryz.prog ⟨none,0⟩ Tryz.f73.ntmps (Tryz.f73.body.getD .skip) ⟨0,ag 0 [(ai ac).enc ⟨9,xx,ss,rd,rn,rm,ra,a,b,c⟩],[]⟩ (ax Tryz.prog Tryz.f73.results.toList (.ret (aj ((ae b [(⟨#[99,98,122]⟩:ByteArray),(⟨#[99,98,110,122]⟩:ByteArray)],[ah rd xx,oTo (4*a)]))))):=by
 refine aa (ctx:=[⟨_,aB⟩,⟨_,bN⟩,⟨_,cU⟩,⟨_,bO⟩,⟨_,aA⟩,⟨_,ap⟩]) 4000 ?_
 rw [Tryz.ntmps73,Tryz.results73]
 simp only [Tryz.f73,Option.getD_some,ag]
 have w1:IntKind.i64.wrap (4*a)=4*a:=by rw [IntKind.wrap_i64];omega
 simp only [go_sem,w1]
 refine ab (ctx:=[⟨_,aB⟩,⟨_,bN⟩,⟨_,cU⟩,⟨_,bO⟩,⟨_,aA⟩,⟨_,ap⟩]) ak ⟨[14,15],[(3,[224])],[(4,[224]),(5,[224]),(6,[224]),(7,[224]),(9,[224]),(10,[224]),(11,[224])]⟩ (by kernel_rfl) ?_
 simp only [go_sem,w1]
theorem rd10 (xx ss:Bool) (rd rn rm ra a b c:Int) (ha : -1000000000000≤a∧a≤1000000000000):SW Tryz.prog ⟨none,0⟩ Tryz.f73.ntmps (Tryz.f73.body.getD .skip) ⟨0,ag 0 [(ai ac).enc ⟨10,xx,ss,rd,rn,rm,ra,a,b,c⟩],[]⟩ (ax Tryz.prog Tryz.f73.results.toList (.ret (aj ((ae b [(⟨#[116,98,122]⟩:ByteArray),(⟨#[116,98,110,122]⟩:ByteArray)],[ah rd (decide (31<c)),aw c,oTo (4*a)]))))):=by
 refine aa (ctx:=[⟨_,aB⟩,⟨_,bN⟩,⟨_,cU⟩,⟨_,bO⟩,⟨_,aA⟩,⟨_,ap⟩]) 4000 ?_
 rw [Tryz.ntmps73,Tryz.results73]
 simp only [Tryz.f73,Option.getD_some,ag]
 have w1:IntKind.i64.wrap (4*a)=4*a:=by rw [IntKind.wrap_i64];omega
 simp only [go_sem,w1]
 refine ab (ctx:=[⟨_,aB⟩,⟨_,bN⟩,⟨_,cU⟩,⟨_,bO⟩,⟨_,aA⟩,⟨_,ap⟩]) ak ⟨[18,19],[(3,[256])],[(4,[256]),(5,[256]),(6,[256]),(7,[256]),(8,[256]),(10,[256]),(11,[256]),(13,[256]),(14,[256]),(15,[256])]⟩ (by kernel_rfl) ?_
 simp only [go_sem,w1]
theorem rd11 (xx ss:Bool) (rd rn rm ra a b c:Int) (hb:¬b=4):SW Tryz.prog ⟨none,0⟩ Tryz.f73.ntmps (Tryz.f73.body.getD .skip) ⟨0,ag 0 [(ai ac).enc ⟨11,xx,ss,rd,rn,rm,ra,a,b,c⟩],[]⟩ (ax Tryz.prog Tryz.f73.results.toList (.ret (aj ((ae b [(⟨#[98,114]⟩:ByteArray),(⟨#[98,108,114]⟩:ByteArray),(⟨#[114,101,116]⟩:ByteArray)],[ah rn true]))))):=by
 refine aa (ctx:=[⟨_,aB⟩,⟨_,bN⟩,⟨_,cU⟩,⟨_,bO⟩,⟨_,aA⟩,⟨_,ap⟩]) 4000 ?_
 rw [Tryz.ntmps73,Tryz.results73]
 simp only [Tryz.f73,Option.getD_some,ag]
 simp only [go_sem,hb]
 refine ab (ctx:=[⟨_,aB⟩,⟨_,bN⟩,⟨_,cU⟩,⟨_,bO⟩,⟨_,aA⟩,⟨_,ap⟩]) ak ⟨[8,9],[(3,[304])],[(4,[304]),(5,[304])]⟩ (by kernel_rfl) ?_
 simp only [go_sem,hb]
theorem PX (xx ss:Bool) (rd rn rm ra a c:Int):SW Tryz.prog ⟨none,0⟩ Tryz.f73.ntmps (Tryz.f73.body.getD .skip) ⟨0,ag 0 [(ai ac).enc ⟨11,xx,ss,rd,rn,rm,ra,a,4,c⟩],[]⟩ (ax Tryz.prog Tryz.f73.results.toList (.ret (aj (((⟨#[101,114,101,116]⟩:ByteArray),[]))))):=by
 refine aa (ctx:=[⟨_,aB⟩,⟨_,bN⟩,⟨_,cU⟩,⟨_,bO⟩,⟨_,aA⟩,⟨_,u4⟩]) 4000 ?_
 rw [Tryz.ntmps73,Tryz.results73]
 simp only [Tryz.f73,Option.getD_some,ag]
 simp only [go_sem,zM,xL,Jj]
end
section
open Go.RowKit
attribute [local go_sem] dX d7 dQ dR eV eT fS gb gW gT gV gY eD eB fZ fW ek eh dp dq dJ dI eX eS bU bW bu aC aH bm fN cy gL opV opR opE ah oSP aw oTo oOf cw be op0 r0 emp co gOf aD aF aI aj ac
theorem ri2c (xx ss:Bool) (rd rn rm ra a b:Int):SW Tryz.prog ⟨none,0⟩ Tryz.f74.ntmps (Tryz.f74.body.getD .skip) ⟨0,ag 0 [(ai ac).enc ⟨2,xx,ss,rd,rn,rm,ra,a,b,1⟩],[]⟩ (ax Tryz.prog Tryz.f74.results.toList (.ret (aj ((cJ (ae b [(⟨#[97,100,100]⟩:ByteArray),(⟨#[115,117,98]⟩:ByteArray)]) ss (⟨#[115]⟩:ByteArray),[spF (!ss) rd xx,oSP rn xx,cw (aw a) 1 12]))))):=by
 refine aa (ctx:=[⟨_,aB⟩,⟨_,ct⟩,⟨_,dl⟩,⟨_,bN⟩,⟨_,fG⟩,⟨_,bO⟩,⟨_,aA⟩,⟨_,ap⟩]) 4000 ?_
 rw [Tryz.ntmps74,Tryz.results74]
 simp only [Tryz.f74,Option.getD_some,ag]
 have pz:(ae b [(⟨#[97,100,100]⟩:ByteArray),(⟨#[115,117,98]⟩:ByteArray)]).size≤1000:=Nat.le_trans (av (k:=10) (by decide)) (by decide)
 simp only [go_sem,pz]
 refine ab (ctx:=[⟨_,aB⟩,⟨_,ct⟩,⟨_,dl⟩,⟨_,bN⟩,⟨_,fG⟩,⟨_,bO⟩,⟨_,aA⟩,⟨_,ap⟩]) ak ⟨[22,23],[(3,[528])],[(4,[528]),(5,[528]),(7,[528]),(8,[528]),(9,[528]),(10,[528]),(11,[528]),(12,[528]),(13,[528]),(15,[528]),(16,[528]),(17,[528]),(18,[528]),(20,[528])]⟩ (by kernel_rfl) ?_
 simp only [go_sem,pz]
theorem ri2 (xx ss:Bool) (rd rn rm ra a b c:Int) (hc:¬c=1):SW Tryz.prog ⟨none,0⟩ Tryz.f74.ntmps (Tryz.f74.body.getD .skip) ⟨0,ag 0 [(ai ac).enc ⟨2,xx,ss,rd,rn,rm,ra,a,b,c⟩],[]⟩ (ax Tryz.prog Tryz.f74.results.toList (.ret (aj ((cJ (ae b [(⟨#[97,100,100]⟩:ByteArray),(⟨#[115,117,98]⟩:ByteArray)]) ss (⟨#[115]⟩:ByteArray),[spF (!ss) rd xx,oSP rn xx,aw a]))))):=by
 refine aa (ctx:=[⟨_,aB⟩,⟨_,ct⟩,⟨_,dl⟩,⟨_,bN⟩,⟨_,fG⟩,⟨_,bO⟩,⟨_,aA⟩,⟨_,ap⟩]) 4000 ?_
 rw [Tryz.ntmps74,Tryz.results74]
 simp only [Tryz.f74,Option.getD_some,ag]
 have pz:(ae b [(⟨#[97,100,100]⟩:ByteArray),(⟨#[115,117,98]⟩:ByteArray)]).size≤1000:=Nat.le_trans (av (k:=10) (by decide)) (by decide)
 simp only [go_sem,pz,hc]
 refine ab (ctx:=[⟨_,aB⟩,⟨_,ct⟩,⟨_,dl⟩,⟨_,bN⟩,⟨_,fG⟩,⟨_,bO⟩,⟨_,aA⟩,⟨_,ap⟩]) ak ⟨[22,23],[(3,[480])],[(4,[480]),(5,[480]),(7,[480]),(8,[480]),(9,[480]),(10,[480]),(11,[480]),(12,[480]),(13,[480]),(15,[480]),(16,[480]),(17,[480]),(18,[480]),(20,[480])]⟩ (by kernel_rfl) ?_
 simp only [go_sem,pz,hc]
theorem ri3 (xx ss:Bool) (rd rn rm ra a b c:Int):SW Tryz.prog ⟨none,0⟩ Tryz.f74.ntmps (Tryz.f74.body.getD .skip) ⟨0,ag 0 [(ai ac).enc ⟨3,xx,ss,rd,rn,rm,ra,a,b,c⟩],[]⟩ (ax Tryz.prog Tryz.f74.results.toList (.ret (aj ((ae b [(⟨#[97,110,100]⟩:ByteArray),(⟨#[111,114,114]⟩:ByteArray),(⟨#[101,111,114]⟩:ByteArray),(⟨#[97,110,100,115]⟩:ByteArray)],[spF (decide (b<3)) rd xx,ah rn xx,aw a]))))):=by
 refine aa (ctx:=[⟨_,aB⟩,⟨_,ct⟩,⟨_,dl⟩,⟨_,bN⟩,⟨_,fG⟩,⟨_,bO⟩,⟨_,aA⟩,⟨_,ap⟩]) 4000 ?_
 rw [Tryz.ntmps74,Tryz.results74]
 simp only [Tryz.f74,Option.getD_some,ag]
 simp only [go_sem]
 refine ab (ctx:=[⟨_,aB⟩,⟨_,ct⟩,⟨_,dl⟩,⟨_,bN⟩,⟨_,fG⟩,⟨_,bO⟩,⟨_,aA⟩,⟨_,ap⟩]) ak ⟨[17,18],[(3,[384])],[(4,[384]),(5,[384]),(6,[384]),(7,[384]),(8,[384]),(9,[384]),(10,[384]),(12,[384]),(13,[384]),(14,[384])]⟩ (by kernel_rfl) ?_
 simp only [go_sem]
theorem ri4c (xx ss:Bool) (rd rn rm ra a b c:Int) (hc:0<c∧c≤3):SW Tryz.prog ⟨none,0⟩ Tryz.f74.ntmps (Tryz.f74.body.getD .skip) ⟨0,ag 0 [(ai ac).enc ⟨4,xx,ss,rd,rn,rm,ra,a,b,c⟩],[]⟩ (ax Tryz.prog Tryz.f74.results.toList (.ret (aj ((ae b [(⟨#[109,111,118,110]⟩:ByteArray),emp,(⟨#[109,111,118,122]⟩:ByteArray),(⟨#[109,111,118,107]⟩:ByteArray)],[ah rd xx,cw (aw a) 1 (16*c)]))))):=by
 refine aa (ctx:=[⟨_,aB⟩,⟨_,ct⟩,⟨_,dl⟩,⟨_,bN⟩,⟨_,fG⟩,⟨_,bO⟩,⟨_,aA⟩,⟨_,ap⟩]) 4000 ?_
 rw [Tryz.ntmps74,Tryz.results74]
 simp only [Tryz.f74,Option.getD_some,ag]
 have w1:IntKind.i64.wrap (16*c)=16*c:=by rw [IntKind.wrap_i64];omega
 simp only [go_sem,w1,hc.1]
 refine ab (ctx:=[⟨_,aB⟩,⟨_,ct⟩,⟨_,dl⟩,⟨_,bN⟩,⟨_,fG⟩,⟨_,bO⟩,⟨_,aA⟩,⟨_,ap⟩]) ak ⟨[7,8],[(3,[640])],[(4,[640]),(5,[640]),(6,[640])]⟩ (by kernel_rfl) ?_
 simp only [go_sem,w1,hc.1]
theorem ri4 (xx ss:Bool) (rd rn rm ra a b c:Int) (hc:¬0<c):SW Tryz.prog ⟨none,0⟩ Tryz.f74.ntmps (Tryz.f74.body.getD .skip) ⟨0,ag 0 [(ai ac).enc ⟨4,xx,ss,rd,rn,rm,ra,a,b,c⟩],[]⟩ (ax Tryz.prog Tryz.f74.results.toList (.ret (aj ((ae b [(⟨#[109,111,118,110]⟩:ByteArray),emp,(⟨#[109,111,118,122]⟩:ByteArray),(⟨#[109,111,118,107]⟩:ByteArray)],[ah rd xx,aw a]))))):=by
 refine aa (ctx:=[⟨_,aB⟩,⟨_,ct⟩,⟨_,dl⟩,⟨_,bN⟩,⟨_,fG⟩,⟨_,bO⟩,⟨_,aA⟩,⟨_,ap⟩]) 4000 ?_
 rw [Tryz.ntmps74,Tryz.results74]
 simp only [Tryz.f74,Option.getD_some,ag]
 simp only [go_sem,hc]
 refine ab (ctx:=[⟨_,aB⟩,⟨_,ct⟩,⟨_,dl⟩,⟨_,bN⟩,⟨_,fG⟩,⟨_,bO⟩,⟨_,aA⟩,⟨_,ap⟩]) ak ⟨[7,8],[(3,[544])],[(4,[544]),(5,[544]),(6,[544])]⟩ (by kernel_rfl) ?_
 simp only [go_sem,hc]
theorem ri5 (xx ss:Bool) (rd rn rm ra a b c:Int):SW Tryz.prog ⟨none,0⟩ Tryz.f74.ntmps (Tryz.f74.body.getD .skip) ⟨0,ag 0 [(ai ac).enc ⟨5,xx,ss,rd,rn,rm,ra,a,b,c⟩],[]⟩ (ax Tryz.prog Tryz.f74.results.toList (.ret (aj ((ae b [(⟨#[115,98,102,109]⟩:ByteArray),(⟨#[98,102,109]⟩:ByteArray),(⟨#[117,98,102,109]⟩:ByteArray)],[ah rd xx,ah rn xx,aw a,aw c]))))):=by
 refine aa (ctx:=[⟨_,aB⟩,⟨_,ct⟩,⟨_,dl⟩,⟨_,bN⟩,⟨_,fG⟩,⟨_,bO⟩,⟨_,aA⟩,⟨_,ap⟩]) 4000 ?_
 rw [Tryz.ntmps74,Tryz.results74]
 simp only [Tryz.f74,Option.getD_some,ag]
 simp only [go_sem]
 refine ab (ctx:=[⟨_,aB⟩,⟨_,ct⟩,⟨_,dl⟩,⟨_,bN⟩,⟨_,fG⟩,⟨_,bO⟩,⟨_,aA⟩,⟨_,ap⟩]) ak ⟨[13,14],[(3,[448])],[(4,[448]),(5,[448]),(6,[448]),(7,[448]),(9,[448]),(10,[448])]⟩ (by kernel_rfl) ?_
 simp only [go_sem]
theorem ri6 (xx ss:Bool) (rd rn rm ra a b c:Int):SW Tryz.prog ⟨none,0⟩ Tryz.f74.ntmps (Tryz.f74.body.getD .skip) ⟨0,ag 0 [(ai ac).enc ⟨6,xx,ss,rd,rn,rm,ra,a,b,c⟩],[]⟩ (ax Tryz.prog Tryz.f74.results.toList (.ret (aj (((⟨#[101,120,116,114]⟩:ByteArray),[ah rd xx,ah rn xx,ah rm xx,aw a]))))):=by
 refine aa (ctx:=[⟨_,aB⟩,⟨_,ct⟩,⟨_,dl⟩,⟨_,bN⟩,⟨_,fG⟩,⟨_,bO⟩,⟨_,aA⟩,⟨_,ap⟩]) 4000 ?_
 rw [Tryz.ntmps74,Tryz.results74]
 simp only [Tryz.f74,Option.getD_some,ag]
 simp only [go_sem]
 refine ab (ctx:=[⟨_,aB⟩,⟨_,ct⟩,⟨_,dl⟩,⟨_,bN⟩,⟨_,fG⟩,⟨_,bO⟩,⟨_,aA⟩,⟨_,ap⟩]) ak ⟨[11,12],[],[]⟩ (by kernel_rfl) ?_
 simp only [go_sem]
theorem rs12 (xx ss:Bool) (rd rn rm ra a b c:Int):SW Tryz.prog ⟨none,0⟩ Tryz.f75.ntmps (Tryz.f75.body.getD .skip) ⟨0,ag 0 [(ai ac).enc ⟨12,xx,ss,rd,rn,rm,ra,a,b,c⟩],[]⟩ (ax Tryz.prog Tryz.f75.results.toList (.ret (aj ((ae b [(⟨#[115,118,99]⟩:ByteArray),(⟨#[104,118,99]⟩:ByteArray),(⟨#[115,109,99]⟩:ByteArray),(⟨#[98,114,107]⟩:ByteArray),(⟨#[104,108,116]⟩:ByteArray),(⟨#[100,99,112,115,49]⟩:ByteArray),(⟨#[100,99,112,115,50]⟩:ByteArray),(⟨#[100,99,112,115,51]⟩:ByteArray)],[aw a]))))):=by
 refine aa (ctx:=[⟨_,aB⟩,⟨_,bN⟩,⟨_,bC⟩,⟨_,aA⟩,⟨_,ap⟩]) 4000 ?_
 rw [Tryz.ntmps75,Tryz.results75]
 simp only [Tryz.f75,Option.getD_some,ag]
 simp only [go_sem]
 refine ab (ctx:=[⟨_,aB⟩,⟨_,bN⟩,⟨_,bC⟩,⟨_,aA⟩,⟨_,ap⟩]) ak ⟨[8,9],[(3,[208])],[(4,[208]),(5,[208])]⟩ (by kernel_rfl) ?_
 simp only [go_sem]
theorem rs13 (xx ss:Bool) (rd rn rm ra a b c:Int):SW Tryz.prog ⟨none,0⟩ Tryz.f75.ntmps (Tryz.f75.body.getD .skip) ⟨0,ag 0 [(ai ac).enc ⟨13,xx,ss,rd,rn,rm,ra,a,b,c⟩],[]⟩ (ax Tryz.prog Tryz.f75.results.toList (.ret (aj (((⟨#[104,105,110,116]⟩:ByteArray),[aw a]))))):=by
 refine aa (ctx:=[⟨_,aB⟩,⟨_,bN⟩,⟨_,bC⟩,⟨_,aA⟩,⟨_,ap⟩]) 4000 ?_
 rw [Tryz.ntmps75,Tryz.results75]
 simp only [Tryz.f75,Option.getD_some,ag]
 simp only [go_sem]
theorem PY (xx ss:Bool) (rd rn rm ra a c:Int):SW Tryz.prog ⟨none,0⟩ Tryz.f75.ntmps (Tryz.f75.body.getD .skip) ⟨0,ag 0 [(ai ac).enc ⟨14,xx,ss,rd,rn,rm,ra,a,4,c⟩],[]⟩ (ax Tryz.prog Tryz.f75.results.toList (.ret (aj ((ae 0 [(⟨#[100,115,98]⟩:ByteArray),(⟨#[100,109,98]⟩:ByteArray)],[oOf 7 a]))))):=by
 refine aa (ctx:=[⟨_,aB⟩,⟨_,bN⟩,⟨_,bC⟩,⟨_,aA⟩,⟨_,ap⟩]) 4000 ?_
 rw [Tryz.ntmps75,Tryz.results75]
 simp only [Tryz.f75,Option.getD_some,ag]
 have w1:IntKind.i64.wrap ((4:Int)-4)=0:=by decide
 simp only [go_sem,w1]
 refine ab (ctx:=[⟨_,aB⟩,⟨_,bN⟩,⟨_,bC⟩,⟨_,aA⟩,⟨_,ap⟩]) ak ⟨[9,10],[(4,[368])],[(5,[368]),(6,[368])]⟩ (by kernel_rfl) ?_
 simp only [go_sem,w1]
theorem Rr (xx ss:Bool) (rd rn rm ra a c:Int):SW Tryz.prog ⟨none,0⟩ Tryz.f75.ntmps (Tryz.f75.body.getD .skip) ⟨0,ag 0 [(ai ac).enc ⟨14,xx,ss,rd,rn,rm,ra,a,5,c⟩],[]⟩ (ax Tryz.prog Tryz.f75.results.toList (.ret (aj ((ae 1 [(⟨#[100,115,98]⟩:ByteArray),(⟨#[100,109,98]⟩:ByteArray)],[oOf 7 a]))))):=by
 refine aa (ctx:=[⟨_,aB⟩,⟨_,bN⟩,⟨_,bC⟩,⟨_,aA⟩,⟨_,ap⟩]) 4000 ?_
 rw [Tryz.ntmps75,Tryz.results75]
 simp only [Tryz.f75,Option.getD_some,ag]
 have w1:IntKind.i64.wrap ((5:Int)-4)=1:=by decide
 simp only [go_sem,w1]
 refine ab (ctx:=[⟨_,aB⟩,⟨_,bN⟩,⟨_,bC⟩,⟨_,aA⟩,⟨_,ap⟩]) ak ⟨[9,10],[(4,[416])],[(5,[416]),(6,[416])]⟩ (by kernel_rfl) ?_
 simp only [go_sem,w1]
theorem P0 (xx ss:Bool) (rd rn rm ra a c:Int):SW Tryz.prog ⟨none,0⟩ Tryz.f75.ntmps (Tryz.f75.body.getD .skip) ⟨0,ag 0 [(ai ac).enc ⟨14,xx,ss,rd,rn,rm,ra,a,2,c⟩],[]⟩ (ax Tryz.prog Tryz.f75.results.toList (.ret (aj (((⟨#[99,108,114,101,120]⟩:ByteArray),[aw a]))))):=by
 refine aa (ctx:=[⟨_,aB⟩,⟨_,bN⟩,⟨_,bC⟩,⟨_,aA⟩,⟨_,ap⟩]) 4000 ?_
 rw [Tryz.ntmps75,Tryz.results75]
 simp only [Tryz.f75,Option.getD_some,ag]
 simp only [go_sem]
theorem rs14 (xx ss:Bool) (rd rn rm ra a b c:Int) (hb:¬b=4∧¬b=5∧¬b=2):SW Tryz.prog ⟨none,0⟩ Tryz.f75.ntmps (Tryz.f75.body.getD .skip) ⟨0,ag 0 [(ai ac).enc ⟨14,xx,ss,rd,rn,rm,ra,a,b,c⟩],[]⟩ (ax Tryz.prog Tryz.f75.results.toList (.ret (aj (((⟨#[105,115,98]⟩:ByteArray),[aw a]))))):=by
 refine aa (ctx:=[⟨_,aB⟩,⟨_,bN⟩,⟨_,bC⟩,⟨_,aA⟩,⟨_,ap⟩]) 4000 ?_
 rw [Tryz.ntmps75,Tryz.results75]
 simp only [Tryz.f75,Option.getD_some,ag]
 simp only [go_sem,hb]
theorem Ra (xx ss:Bool) (rd rn rm ra a c:Int):SW Tryz.prog ⟨none,0⟩ Tryz.f75.ntmps (Tryz.f75.body.getD .skip) ⟨0,ag 0 [(ai ac).enc ⟨15,xx,ss,rd,rn,rm,ra,a,1,c⟩],[]⟩ (ax Tryz.prog Tryz.f75.results.toList (.ret (aj (((⟨#[109,114,115]⟩:ByteArray),[ah rd true,oOf 6 a]))))):=by
 refine aa (ctx:=[⟨_,aB⟩,⟨_,bN⟩,⟨_,bC⟩,⟨_,aA⟩,⟨_,ap⟩]) 4000 ?_
 rw [Tryz.ntmps75,Tryz.results75]
 simp only [Tryz.f75,Option.getD_some,ag]
 simp only [go_sem]
 refine ab (ctx:=[⟨_,aB⟩,⟨_,bN⟩,⟨_,bC⟩,⟨_,aA⟩,⟨_,ap⟩]) ak ⟨[5,6],[],[]⟩ (by kernel_rfl) ?_
 simp only [go_sem]
theorem rs15 (xx ss:Bool) (rd rn rm ra a b c:Int) (hb:¬b=1):SW Tryz.prog ⟨none,0⟩ Tryz.f75.ntmps (Tryz.f75.body.getD .skip) ⟨0,ag 0 [(ai ac).enc ⟨15,xx,ss,rd,rn,rm,ra,a,b,c⟩],[]⟩ (ax Tryz.prog Tryz.f75.results.toList (.ret (aj (((⟨#[109,115,114]⟩:ByteArray),[oOf 6 a,ah rd true]))))):=by
 refine aa (ctx:=[⟨_,aB⟩,⟨_,bN⟩,⟨_,bC⟩,⟨_,aA⟩,⟨_,ap⟩]) 4000 ?_
 rw [Tryz.ntmps75,Tryz.results75]
 simp only [Tryz.f75,Option.getD_some,ag]
 simp only [go_sem,hb]
 refine ab (ctx:=[⟨_,aB⟩,⟨_,bN⟩,⟨_,bC⟩,⟨_,aA⟩,⟨_,ap⟩]) ak ⟨[5,6],[],[]⟩ (by kernel_rfl) ?_
 simp only [go_sem,hb]
theorem rs16 (xx ss:Bool) (rd rn rm ra a b c:Int):SW Tryz.prog ⟨none,0⟩ Tryz.f75.ntmps (Tryz.f75.body.getD .skip) ⟨0,ag 0 [(ai ac).enc ⟨16,xx,ss,rd,rn,rm,ra,a,b,c⟩],[]⟩ (ax Tryz.prog Tryz.f75.results.toList (.ret (aj (((⟨#[109,115,114]⟩:ByteArray),[oOf 9 b,aw a]))))):=by
 refine aa (ctx:=[⟨_,aB⟩,⟨_,bN⟩,⟨_,bC⟩,⟨_,aA⟩,⟨_,ap⟩]) 4000 ?_
 rw [Tryz.ntmps75,Tryz.results75]
 simp only [Tryz.f75,Option.getD_some,ag]
 simp only [go_sem]
 refine ab (ctx:=[⟨_,aB⟩,⟨_,bN⟩,⟨_,bC⟩,⟨_,aA⟩,⟨_,ap⟩]) ak ⟨[7,8],[],[]⟩ (by kernel_rfl) ?_
 simp only [go_sem]
theorem Oh (xx ss:Bool) (rd rn rm ra a c:Int) (ha:0≤a∧a≤16383):SW Tryz.prog ⟨none,0⟩ Tryz.f75.ntmps (Tryz.f75.body.getD .skip) ⟨0,ag 0 [(ai ac).enc ⟨17,xx,ss,rd,rn,rm,ra,a,1,c⟩],[]⟩ (ax Tryz.prog Tryz.f75.results.toList (.ret (aj (((⟨#[115,121,115,108]⟩:ByteArray),ah rd true::[aw (a / 2048),aw (a / 128 % 16),aw (a / 8 % 16),aw (a % 8)]))))):=by
 refine aa (ctx:=[⟨_,aB⟩,⟨_,bN⟩,⟨_,bC⟩,⟨_,aA⟩,⟨_,ap⟩]) 4000 ?_
 rw [Tryz.ntmps75,Tryz.results75]
 simp only [Tryz.f75,Option.getD_some,ag]
 have d1:a.tdiv 2048=a / 2048:=Int.tdiv_eq_ediv_of_nonneg ha.1
 have d2:a.tdiv 128=a / 128:=Int.tdiv_eq_ediv_of_nonneg ha.1
 have d3:a.tdiv 8=a / 8:=Int.tdiv_eq_ediv_of_nonneg ha.1
 have d4:a.tmod 8=a % 8:=Int.tmod_eq_emod_of_nonneg ha.1
 have d5:(a / 128).tmod 16=a / 128 % 16:=Int.tmod_eq_emod_of_nonneg (by omega)
 have d6:(a / 8).tmod 16=a / 8 % 16:=Int.tmod_eq_emod_of_nonneg (by omega)
 have w1:IntKind.i64.wrap (a / 2048)=a / 2048:=by rw [IntKind.wrap_i64];omega
 have w2:IntKind.i64.wrap (a / 128)=a / 128:=by rw [IntKind.wrap_i64];omega
 have w3:IntKind.i64.wrap (a / 8)=a / 8:=by rw [IntKind.wrap_i64];omega
 have m1:(0:Nat)+1≤maxLen:=by unfold maxLen;omega
 have m2:(1:Nat)+4≤maxLen:=by unfold maxLen;omega
 have m3:(4:Nat)+1≤maxLen:=by unfold maxLen;omega
 have m4:(1:Nat)≤maxLen:=by unfold maxLen;omega
 have m5:(5:Nat)≤maxLen:=by unfold maxLen;omega
 simp only [go_sem,d1,d2,d3,d4,d5,d6,w1,w2,w3,m1,m2,m3,m4,m5]
 refine ab (ctx:=[⟨_,aB⟩,⟨_,bN⟩,⟨_,bC⟩,⟨_,aA⟩,⟨_,ap⟩]) ak ⟨[],[],[]⟩ (by kernel_rfl) ?_
 simp only [go_sem,d1,d2,d3,d4,d5,d6,w1,w2,w3,m1,m2,m3,m4,m5]
theorem rs17 (xx ss:Bool) (rd rn rm ra a b c:Int) (ha:0≤a∧a≤16383) (hb:¬b=1):SW Tryz.prog ⟨none,0⟩ Tryz.f75.ntmps (Tryz.f75.body.getD .skip) ⟨0,ag 0 [(ai ac).enc ⟨17,xx,ss,rd,rn,rm,ra,a,b,c⟩],[]⟩ (ax Tryz.prog Tryz.f75.results.toList (.ret (aj (((⟨#[115,121,115]⟩:ByteArray),[aw (a / 2048),aw (a / 128 % 16),aw (a / 8 % 16),aw (a % 8)]++[ah rd true]))))):=by
 refine aa (ctx:=[⟨_,aB⟩,⟨_,bN⟩,⟨_,bC⟩,⟨_,aA⟩,⟨_,ap⟩]) 4000 ?_
 rw [Tryz.ntmps75,Tryz.results75]
 simp only [Tryz.f75,Option.getD_some,ag]
 have d1:a.tdiv 2048=a / 2048:=Int.tdiv_eq_ediv_of_nonneg ha.1
 have d2:a.tdiv 128=a / 128:=Int.tdiv_eq_ediv_of_nonneg ha.1
 have d3:a.tdiv 8=a / 8:=Int.tdiv_eq_ediv_of_nonneg ha.1
 have d4:a.tmod 8=a % 8:=Int.tmod_eq_emod_of_nonneg ha.1
 have d5:(a / 128).tmod 16=a / 128 % 16:=Int.tmod_eq_emod_of_nonneg (by omega)
 have d6:(a / 8).tmod 16=a / 8 % 16:=Int.tmod_eq_emod_of_nonneg (by omega)
 have w1:IntKind.i64.wrap (a / 2048)=a / 2048:=by rw [IntKind.wrap_i64];omega
 have w2:IntKind.i64.wrap (a / 128)=a / 128:=by rw [IntKind.wrap_i64];omega
 have w3:IntKind.i64.wrap (a / 8)=a / 8:=by rw [IntKind.wrap_i64];omega
 have m1:(0:Nat)+1≤maxLen:=by unfold maxLen;omega
 have m2:(1:Nat)+4≤maxLen:=by unfold maxLen;omega
 have m3:(4:Nat)+1≤maxLen:=by unfold maxLen;omega
 have m4:(1:Nat)≤maxLen:=by unfold maxLen;omega
 have m5:(5:Nat)≤maxLen:=by unfold maxLen;omega
 simp only [go_sem,d1,d2,d3,d4,d5,d6,w1,w2,w3,m1,m2,m3,m4,m5,hb]
 refine ab (ctx:=[⟨_,aB⟩,⟨_,bN⟩,⟨_,bC⟩,⟨_,aA⟩,⟨_,ap⟩]) ak ⟨[],[],[]⟩ (by kernel_rfl) ?_
 simp only [go_sem,d1,d2,d3,d4,d5,d6,w1,w2,w3,m1,m2,m3,m4,m5,hb]
end
end Go.Proofs.YtpjlafmhoifkmaaGreat
