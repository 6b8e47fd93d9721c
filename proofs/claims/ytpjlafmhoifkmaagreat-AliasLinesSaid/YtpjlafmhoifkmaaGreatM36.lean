import Derived.Test.YtpjlafmhoifkmaaGreatM33
set_option linter.unusedVariables false
set_option linter.unusedSimpArgs false
set_option maxRecDepth 100000
set_option maxHeartbeats 8000000
namespace Go.Proofs.YtpjlafmhoifkmaaGreat
open Go.RowKit
attribute [local go_sem] dX d7 dQ dR eV eT fS gb gW gT gV gY eD eB fZ fW ek eh dp dq dJ dI eX eS bU bW bu aC aH bm fN cy gL opV opR opE ah oSP aw oTo oOf cw be op0 r0 emp co gOf aD aF aI aj ac
theorem ra24 (xx ss:Bool) (rd rn rm ra a b c:Int) (hc:0≤c∧c≤7) (hb:0≤b∧b≤3):SW Tryz.prog ⟨none,0⟩ Tryz.f78.ntmps (Tryz.f78.body.getD .skip) ⟨0,ag 0 [(ai ac).enc ⟨24,xx,ss,rd,rn,rm,ra,a,b,c⟩],[]⟩ (ax Tryz.prog Tryz.f78.results.toList (.ret (aj ((ae (2*b+aU ss) [(⟨#[97,110,100]⟩:ByteArray),(⟨#[98,105,99]⟩:ByteArray),(⟨#[111,114,114]⟩:ByteArray),(⟨#[111,114,110]⟩:ByteArray),(⟨#[101,111,114]⟩:ByteArray),(⟨#[101,111,110]⟩:ByteArray),(⟨#[97,110,100,115]⟩:ByteArray),(⟨#[98,105,99,115]⟩:ByteArray)],[ah rd xx,ah rn xx,shF ⟨24,xx,ss,rd,rn,rm,ra,a,b,c⟩]))))):=by
 refine aa (ctx:=[⟨_,aB⟩,⟨_,ct⟩,⟨_,dl⟩,⟨_,bO⟩,⟨_,aG⟩,⟨_,aA⟩,⟨_,ap⟩,⟨_,iW⟩]) 4000 ?_
 rw [Tryz.ntmps78,Tryz.results78]
 simp only [Tryz.f78,Option.getD_some,ag]
 have w1:IntKind.i64.wrap (2*b)=2*b:=by rw [IntKind.wrap_i64];omega
 have hf:0≤aU ss∧aU ss≤1:=by cases ss<;>decide
 have w2:IntKind.i64.wrap (2*b+aU ss)=2*b+aU ss:=by rw [IntKind.wrap_i64];omega
 simp only [go_sem,w1,w2,hc.1,hc.2,iA,iD]
 refine ab (ctx:=[⟨_,aB⟩,⟨_,ct⟩,⟨_,dl⟩,⟨_,bO⟩,⟨_,aG⟩,⟨_,aA⟩,⟨_,ap⟩,⟨_,iW⟩]) ak ⟨[14,15],[(8,[432])],[(9,[432]),(10,[432]),(11,[432])]⟩ (by kernel_rfl) ?_
 simp only [go_sem,w1,w2,hc.1,hc.2,iA,iD]
theorem ra25 (xx ss:Bool) (rd rn rm ra a b c:Int) (hc:0≤c∧c≤7):SW Tryz.prog ⟨none,0⟩ Tryz.f78.ntmps (Tryz.f78.body.getD .skip) ⟨0,ag 0 [(ai ac).enc ⟨25,xx,ss,rd,rn,rm,ra,a,b,c⟩],[]⟩ (ax Tryz.prog Tryz.f78.results.toList (.ret (aj ((cJ (ae b [(⟨#[97,100,100]⟩:ByteArray),(⟨#[115,117,98]⟩:ByteArray)]) ss (⟨#[115]⟩:ByteArray),[ah rd xx,ah rn xx,shF ⟨25,xx,ss,rd,rn,rm,ra,a,b,c⟩]))))):=by
 refine aa (ctx:=[⟨_,aB⟩,⟨_,ct⟩,⟨_,dl⟩,⟨_,bO⟩,⟨_,aG⟩,⟨_,aA⟩,⟨_,ap⟩,⟨_,iW⟩]) 4000 ?_
 rw [Tryz.ntmps78,Tryz.results78]
 simp only [Tryz.f78,Option.getD_some,ag]
 have pz:(ae b [(⟨#[97,100,100]⟩:ByteArray),(⟨#[115,117,98]⟩:ByteArray)]).size≤1000:=Nat.le_trans (av (k:=10) (by decide)) (by decide)
 simp only [go_sem,pz,hc.1,hc.2,iA,iD]
 refine ab (ctx:=[⟨_,aB⟩,⟨_,ct⟩,⟨_,dl⟩,⟨_,bO⟩,⟨_,aG⟩,⟨_,aA⟩,⟨_,ap⟩,⟨_,iW⟩]) ak ⟨[12,13],[(3,[384])],[(4,[384]),(5,[384]),(7,[384]),(8,[384]),(9,[384])]⟩ (by kernel_rfl) ?_
 simp only [go_sem,pz,hc.1,hc.2,iA,iD]
theorem ra26 (xx ss:Bool) (rd rn rm ra a b c:Int) (hc:0≤c∧c≤7):SW Tryz.prog ⟨none,0⟩ Tryz.f78.ntmps (Tryz.f78.body.getD .skip) ⟨0,ag 0 [(ai ac).enc ⟨26,xx,ss,rd,rn,rm,ra,a,b,c⟩],[]⟩ (ax Tryz.prog Tryz.f78.results.toList (.ret (aj ((cJ (ae b [(⟨#[97,100,100]⟩:ByteArray),(⟨#[115,117,98]⟩:ByteArray)]) ss (⟨#[115]⟩:ByteArray),[spF (!ss) rd xx,oSP rn xx,dK ⟨26,xx,ss,rd,rn,rm,ra,a,b,c⟩]))))):=by
 refine aa (ctx:=[⟨_,aB⟩,⟨_,ct⟩,⟨_,dl⟩,⟨_,bO⟩,⟨_,aG⟩,⟨_,aA⟩,⟨_,ap⟩,⟨_,iZ⟩]) 4000 ?_
 rw [Tryz.ntmps78,Tryz.results78]
 simp only [Tryz.f78,Option.getD_some,ag]
 have pz:(ae b [(⟨#[97,100,100]⟩:ByteArray),(⟨#[115,117,98]⟩:ByteArray)]).size≤1000:=Nat.le_trans (av (k:=10) (by decide)) (by decide)
 simp only [go_sem,pz,hc.1,hc.2,jf,jg]
 refine ab (ctx:=[⟨_,aB⟩,⟨_,ct⟩,⟨_,dl⟩,⟨_,bO⟩,⟨_,aG⟩,⟨_,aA⟩,⟨_,ap⟩,⟨_,iZ⟩]) ak ⟨[23,24],[(3,[416])],[(4,[416]),(5,[416]),(7,[416]),(8,[416]),(9,[416]),(10,[416]),(11,[416]),(12,[416]),(13,[416]),(15,[416]),(16,[416]),(17,[416]),(18,[416]),(20,[416])]⟩ (by kernel_rfl) ?_
 simp only [go_sem,pz,hc.1,hc.2,jf,jg]
theorem ra27 (xx ss:Bool) (rd rn rm ra a b c:Int):SW Tryz.prog ⟨none,0⟩ Tryz.f78.ntmps (Tryz.f78.body.getD .skip) ⟨0,ag 0 [(ai ac).enc ⟨27,xx,ss,rd,rn,rm,ra,a,b,c⟩],[]⟩ (ax Tryz.prog Tryz.f78.results.toList (.ret (aj ((cJ (ae b [(⟨#[97,100,99]⟩:ByteArray),(⟨#[115,98,99]⟩:ByteArray)]) ss (⟨#[115]⟩:ByteArray),[ah rd xx,ah rn xx,ah rm xx]))))):=by
 refine aa (ctx:=[⟨_,aB⟩,⟨_,ct⟩,⟨_,dl⟩,⟨_,bO⟩,⟨_,aG⟩,⟨_,aA⟩,⟨_,ap⟩]) 4000 ?_
 rw [Tryz.ntmps78,Tryz.results78]
 simp only [Tryz.f78,Option.getD_some,ag]
 have pz:(ae b [(⟨#[97,100,99]⟩:ByteArray),(⟨#[115,98,99]⟩:ByteArray)]).size≤1000:=Nat.le_trans (av (k:=10) (by decide)) (by decide)
 simp only [go_sem,pz]
 refine ab (ctx:=[⟨_,aB⟩,⟨_,ct⟩,⟨_,dl⟩,⟨_,bO⟩,⟨_,aG⟩,⟨_,aA⟩,⟨_,ap⟩]) ak ⟨[15,16],[(3,[416])],[(4,[416]),(5,[416]),(7,[416]),(8,[416]),(9,[416]),(10,[416]),(11,[416]),(12,[416])]⟩ (by kernel_rfl) ?_
 simp only [go_sem,pz]
theorem Q9 (xx:Bool) (rd rn rm ra a b c:Int):SW Tryz.prog ⟨none,0⟩ Tryz.f79.ntmps (Tryz.f79.body.getD .skip) ⟨0,ag 0 [(ai ac).enc ⟨28,xx,true,rd,rn,rm,ra,a,b,c⟩],[]⟩ (ax Tryz.prog Tryz.f79.results.toList (.ret (aj ((ae b [(⟨#[99,99,109,110]⟩:ByteArray),(⟨#[99,99,109,112]⟩:ByteArray)],[ah rn xx,aw rm,aw a,oOf 4 c]))))):=by
 refine aa (ctx:=[⟨_,aB⟩,⟨_,bN⟩,⟨_,bC⟩,⟨_,aA⟩,⟨_,ap⟩]) 4000 ?_
 rw [Tryz.ntmps79,Tryz.results79]
 simp only [Tryz.f79,Option.getD_some,ag]
 simp only [go_sem]
 refine ab (ctx:=[⟨_,aB⟩,⟨_,bN⟩,⟨_,bC⟩,⟨_,aA⟩,⟨_,ap⟩]) ak ⟨[13,14],[(3,[560])],[(4,[560]),(5,[560]),(6,[560]),(7,[560]),(9,[560]),(10,[560])]⟩ (by kernel_rfl) ?_
 simp only [go_sem]
theorem rr28 (xx:Bool) (rd rn rm ra a b c:Int):SW Tryz.prog ⟨none,0⟩ Tryz.f79.ntmps (Tryz.f79.body.getD .skip) ⟨0,ag 0 [(ai ac).enc ⟨28,xx,false,rd,rn,rm,ra,a,b,c⟩],[]⟩ (ax Tryz.prog Tryz.f79.results.toList (.ret (aj ((ae b [(⟨#[99,99,109,110]⟩:ByteArray),(⟨#[99,99,109,112]⟩:ByteArray)],[ah rn xx,ah rm xx,aw a,oOf 4 c]))))):=by
 refine aa (ctx:=[⟨_,aB⟩,⟨_,bN⟩,⟨_,bC⟩,⟨_,aA⟩,⟨_,ap⟩]) 4000 ?_
 rw [Tryz.ntmps79,Tryz.results79]
 simp only [Tryz.f79,Option.getD_some,ag]
 simp only [go_sem]
 refine ab (ctx:=[⟨_,aB⟩,⟨_,bN⟩,⟨_,bC⟩,⟨_,aA⟩,⟨_,ap⟩]) ak ⟨[13,14],[(3,[496])],[(4,[496]),(5,[496]),(6,[496]),(7,[496]),(9,[496]),(10,[496])]⟩ (by kernel_rfl) ?_
 simp only [go_sem]
theorem rr29 (xx ss:Bool) (rd rn rm ra a b c:Int):SW Tryz.prog ⟨none,0⟩ Tryz.f79.ntmps (Tryz.f79.body.getD .skip) ⟨0,ag 0 [(ai ac).enc ⟨29,xx,ss,rd,rn,rm,ra,a,b,c⟩],[]⟩ (ax Tryz.prog Tryz.f79.results.toList (.ret (aj ((ae b [(⟨#[99,115,101,108]⟩:ByteArray),(⟨#[99,115,105,110,99]⟩:ByteArray),(⟨#[99,115,105,110,118]⟩:ByteArray),(⟨#[99,115,110,101,103]⟩:ByteArray)],[ah rd xx,ah rn xx,ah rm xx,oOf 4 a]))))):=by
 refine aa (ctx:=[⟨_,aB⟩,⟨_,bN⟩,⟨_,bC⟩,⟨_,aA⟩,⟨_,ap⟩]) 4000 ?_
 rw [Tryz.ntmps79,Tryz.results79]
 simp only [Tryz.f79,Option.getD_some,ag]
 simp only [go_sem]
 refine ab (ctx:=[⟨_,aB⟩,⟨_,bN⟩,⟨_,bC⟩,⟨_,aA⟩,⟨_,ap⟩]) ak ⟨[11,12],[(3,[496])],[(4,[496]),(5,[496]),(6,[496]),(7,[496]),(8,[496])]⟩ (by kernel_rfl) ?_
 simp only [go_sem]
theorem Py (ss:Bool) (rd rn rm ra a c:Int):SW Tryz.prog ⟨none,0⟩ Tryz.f79.ntmps (Tryz.f79.body.getD .skip) ⟨0,ag 0 [(ai ac).enc ⟨30,false,ss,rd,rn,rm,ra,a,2,c⟩],[]⟩ (ax Tryz.prog Tryz.f79.results.toList (.ret (aj (((⟨#[114,101,118]⟩:ByteArray),[ah rd false,ah rn false]))))):=by
 refine aa (ctx:=[⟨_,aB⟩,⟨_,bN⟩,⟨_,bC⟩,⟨_,aA⟩,⟨_,ap⟩]) 4000 ?_
 rw [Tryz.ntmps79,Tryz.results79]
 simp only [Tryz.f79,Option.getD_some,ag]
 simp only [go_sem]
theorem QY (ss:Bool) (rd rn rm ra a b c:Int):SW Tryz.prog ⟨none,0⟩ Tryz.f79.ntmps (Tryz.f79.body.getD .skip) ⟨0,ag 0 [(ai ac).enc ⟨30,true,ss,rd,rn,rm,ra,a,b,c⟩],[]⟩ (ax Tryz.prog Tryz.f79.results.toList (.ret (aj ((ae b [(⟨#[114,98,105,116]⟩:ByteArray),(⟨#[114,101,118,49,54]⟩:ByteArray),(⟨#[114,101,118,51,50]⟩:ByteArray),(⟨#[114,101,118]⟩:ByteArray),(⟨#[99,108,122]⟩:ByteArray),(⟨#[99,108,115]⟩:ByteArray)],[ah rd true,ah rn true]))))):=by
 refine aa (ctx:=[⟨_,aB⟩,⟨_,bN⟩,⟨_,bC⟩,⟨_,aA⟩,⟨_,ap⟩]) 4000 ?_
 rw [Tryz.ntmps79,Tryz.results79]
 simp only [Tryz.f79,Option.getD_some,ag]
 cases hq:(b==2)<;>simp only [go_sem,hq]
theorem rr30 (xx ss:Bool) (rd rn rm ra a b c:Int) (hb:¬b=2):SW Tryz.prog ⟨none,0⟩ Tryz.f79.ntmps (Tryz.f79.body.getD .skip) ⟨0,ag 0 [(ai ac).enc ⟨30,xx,ss,rd,rn,rm,ra,a,b,c⟩],[]⟩ (ax Tryz.prog Tryz.f79.results.toList (.ret (aj ((ae b [(⟨#[114,98,105,116]⟩:ByteArray),(⟨#[114,101,118,49,54]⟩:ByteArray),(⟨#[114,101,118,51,50]⟩:ByteArray),(⟨#[114,101,118]⟩:ByteArray),(⟨#[99,108,122]⟩:ByteArray),(⟨#[99,108,115]⟩:ByteArray)],[ah rd xx,ah rn xx]))))):=by
 refine aa (ctx:=[⟨_,aB⟩,⟨_,bN⟩,⟨_,bC⟩,⟨_,aA⟩,⟨_,ap⟩]) 4000 ?_
 rw [Tryz.ntmps79,Tryz.results79]
 simp only [Tryz.f79,Option.getD_some,ag]
 have hq:(b==2)=false:=by simpa using hb
 simp only [go_sem,hq]
theorem QW (xx ss:Bool) (rd rn rm ra a b c:Int) (hb:16≤b∧b≤23):SW Tryz.prog ⟨none,0⟩ Tryz.f79.ntmps (Tryz.f79.body.getD .skip) ⟨0,ag 0 [(ai ac).enc ⟨31,xx,ss,rd,rn,rm,ra,a,b,c⟩],[]⟩ (ax Tryz.prog Tryz.f79.results.toList (.ret (aj (((⟨#[99,114,99,51,50]⟩:ByteArray)++ae (b-16) [(⟨#[98]⟩:ByteArray),(⟨#[104]⟩:ByteArray),(⟨#[119]⟩:ByteArray),(⟨#[120]⟩:ByteArray),(⟨#[99,98]⟩:ByteArray),(⟨#[99,104]⟩:ByteArray),(⟨#[99,119]⟩:ByteArray),(⟨#[99,120]⟩:ByteArray)],[ah rd false,ah rn false,ah rm (decide (b % 4=3))]))))):=by
 refine aa (ctx:=[⟨_,aB⟩,⟨_,bN⟩,⟨_,bC⟩,⟨_,aA⟩,⟨_,ap⟩]) 4000 ?_
 rw [Tryz.ntmps79,Tryz.results79]
 simp only [Tryz.f79,Option.getD_some,ag]
 have w1:IntKind.i64.wrap (b-16)=b-16:=by rw [IntKind.wrap_i64];omega
 have t4:b.tmod 4=b % 4:=Int.tmod_eq_emod_of_nonneg (by omega)
 have e2:=bH (b % 4) 3
 have z1:((⟨#[99,114,99,51,50]⟩:ByteArray)).size=5:=rfl
 have m1:∀ n,5+(ae n [(⟨#[98]⟩:ByteArray),(⟨#[104]⟩:ByteArray),(⟨#[119]⟩:ByteArray),(⟨#[120]⟩:ByteArray),(⟨#[99,98]⟩:ByteArray),(⟨#[99,104]⟩:ByteArray),(⟨#[99,119]⟩:ByteArray),(⟨#[99,120]⟩:ByteArray)]).size≤maxLen:=fun n=>by have:(ae n [(⟨#[98]⟩:ByteArray),(⟨#[104]⟩:ByteArray),(⟨#[119]⟩:ByteArray),(⟨#[120]⟩:ByteArray),(⟨#[99,98]⟩:ByteArray),(⟨#[99,104]⟩:ByteArray),(⟨#[99,119]⟩:ByteArray),(⟨#[99,120]⟩:ByteArray)]).size≤2:=av (by decide);unfold maxLen;omega
 simp only [go_sem,hb.1,w1,t4,e2,z1,m1]
 refine ab (ctx:=[⟨_,aB⟩,⟨_,bN⟩,⟨_,bC⟩,⟨_,aA⟩,⟨_,ap⟩]) ak ⟨[15,16],[],[]⟩ (by kernel_rfl) ?_
 simp only [go_sem,hb.1,w1,t4,e2,z1,m1]
theorem rr31 (xx ss:Bool) (rd rn rm ra a b c:Int) (hb:¬16≤b):SW Tryz.prog ⟨none,0⟩ Tryz.f79.ntmps (Tryz.f79.body.getD .skip) ⟨0,ag 0 [(ai ac).enc ⟨31,xx,ss,rd,rn,rm,ra,a,b,c⟩],[]⟩ (ax Tryz.prog Tryz.f79.results.toList (.ret (aj ((ae b [emp,emp,(⟨#[117,100,105,118]⟩:ByteArray),(⟨#[115,100,105,118]⟩:ByteArray),emp,emp,emp,emp,(⟨#[108,115,108,118]⟩:ByteArray),(⟨#[108,115,114,118]⟩:ByteArray),(⟨#[97,115,114,118]⟩:ByteArray),(⟨#[114,111,114,118]⟩:ByteArray)],[ah rd xx,ah rn xx,ah rm xx]))))):=by
 refine aa (ctx:=[⟨_,aB⟩,⟨_,bN⟩,⟨_,bC⟩,⟨_,aA⟩,⟨_,ap⟩]) 4000 ?_
 rw [Tryz.ntmps79,Tryz.results79]
 simp only [Tryz.f79,Option.getD_some,ag]
 simp only [go_sem,hb]
theorem QN (xx ss:Bool) (rd rn rm ra a c:Int):SW Tryz.prog ⟨none,0⟩ Tryz.f79.ntmps (Tryz.f79.body.getD .skip) ⟨0,ag 0 [(ai ac).enc ⟨32,xx,ss,rd,rn,rm,ra,a,0,c⟩],[]⟩ (ax Tryz.prog Tryz.f79.results.toList (.ret (aj ((g7 ⟨32,xx,ss,rd,rn,rm,ra,a,0,c⟩,[ah rd xx,ah rn xx,ah rm xx,ah ra xx]))))):=by
 refine aa (ctx:=[⟨_,aB⟩,⟨_,bN⟩,⟨_,bC⟩,⟨_,aA⟩,⟨_,ap⟩]) 4000 ?_
 rw [Tryz.ntmps79,Tryz.results79]
 simp only [Tryz.f79,Option.getD_some,ag]
 simp only [go_sem,g7]
 refine ab (ctx:=[⟨_,aB⟩,⟨_,bN⟩,⟨_,bC⟩,⟨_,aA⟩,⟨_,ap⟩]) ak ⟨[10,11],[],[]⟩ (by kernel_rfl) ?_
 simp only [go_sem,g7]
theorem QR (xx ss:Bool) (rd rn rm ra a c:Int):SW Tryz.prog ⟨none,0⟩ Tryz.f79.ntmps (Tryz.f79.body.getD .skip) ⟨0,ag 0 [(ai ac).enc ⟨32,xx,ss,rd,rn,rm,ra,a,1,c⟩],[]⟩ (ax Tryz.prog Tryz.f79.results.toList (.ret (aj ((g7 ⟨32,xx,ss,rd,rn,rm,ra,a,1,c⟩,[ah rd xx,ah rn xx,ah rm xx,ah ra xx]))))):=by
 refine aa (ctx:=[⟨_,aB⟩,⟨_,bN⟩,⟨_,bC⟩,⟨_,aA⟩,⟨_,ap⟩]) 4000 ?_
 rw [Tryz.ntmps79,Tryz.results79]
 simp only [Tryz.f79,Option.getD_some,ag]
 simp only [go_sem,g7]
 refine ab (ctx:=[⟨_,aB⟩,⟨_,bN⟩,⟨_,bC⟩,⟨_,aA⟩,⟨_,ap⟩]) ak ⟨[10,11],[],[]⟩ (by kernel_rfl) ?_
 simp only [go_sem,g7]
theorem P9 (xx ss:Bool) (rd rn rm ra a c:Int):SW Tryz.prog ⟨none,0⟩ Tryz.f79.ntmps (Tryz.f79.body.getD .skip) ⟨0,ag 0 [(ai ac).enc ⟨32,xx,ss,rd,rn,rm,ra,a,4,c⟩],[]⟩ (ax Tryz.prog Tryz.f79.results.toList (.ret (aj ((g7 ⟨32,xx,ss,rd,rn,rm,ra,a,4,c⟩,[ah rd true,ah rn true,ah rm true]))))):=by
 refine aa (ctx:=[⟨_,aB⟩,⟨_,bN⟩,⟨_,bC⟩,⟨_,aA⟩,⟨_,ap⟩]) 4000 ?_
 rw [Tryz.ntmps79,Tryz.results79]
 simp only [Tryz.f79,Option.getD_some,ag]
 simp only [go_sem,g7]
 refine ab (ctx:=[⟨_,aB⟩,⟨_,bN⟩,⟨_,bC⟩,⟨_,aA⟩,⟨_,ap⟩]) ak ⟨[11,12],[],[]⟩ (by kernel_rfl) ?_
 simp only [go_sem,g7]
theorem OO (xx ss:Bool) (rd rn rm ra a c:Int):SW Tryz.prog ⟨none,0⟩ Tryz.f79.ntmps (Tryz.f79.body.getD .skip) ⟨0,ag 0 [(ai ac).enc ⟨32,xx,ss,rd,rn,rm,ra,a,7,c⟩],[]⟩ (ax Tryz.prog Tryz.f79.results.toList (.ret (aj ((g7 ⟨32,xx,ss,rd,rn,rm,ra,a,7,c⟩,[ah rd true,ah rn true,ah rm true]))))):=by
 refine aa (ctx:=[⟨_,aB⟩,⟨_,bN⟩,⟨_,bC⟩,⟨_,aA⟩,⟨_,ap⟩]) 4000 ?_
 rw [Tryz.ntmps79,Tryz.results79]
 simp only [Tryz.f79,Option.getD_some,ag]
 simp only [go_sem,g7]
 refine ab (ctx:=[⟨_,aB⟩,⟨_,bN⟩,⟨_,bC⟩,⟨_,aA⟩,⟨_,ap⟩]) ak ⟨[11,12],[],[]⟩ (by kernel_rfl) ?_
 simp only [go_sem,g7]
theorem rr32 (xx ss:Bool) (rd rn rm ra a b c:Int) (hb:¬b=0∧¬b=1∧¬b=4∧¬b=7):SW Tryz.prog ⟨none,0⟩ Tryz.f79.ntmps (Tryz.f79.body.getD .skip) ⟨0,ag 0 [(ai ac).enc ⟨32,xx,ss,rd,rn,rm,ra,a,b,c⟩],[]⟩ (ax Tryz.prog Tryz.f79.results.toList (.ret (aj ((g7 ⟨32,xx,ss,rd,rn,rm,ra,a,b,c⟩,[ah rd true,ah rn false,ah rm false,ah ra true]))))):=by
 refine aa (ctx:=[⟨_,aB⟩,⟨_,bN⟩,⟨_,bC⟩,⟨_,aA⟩,⟨_,ap⟩]) 4000 ?_
 rw [Tryz.ntmps79,Tryz.results79]
 simp only [Tryz.f79,Option.getD_some,ag]
 have h0:(b==0)=false:=by simpa using hb.1
 have h1:(b==1)=false:=by simpa using hb.2.1
 have h4:(b==4)=false:=by simpa using hb.2.2.1
 have h7:(b==7)=false:=by simpa using hb.2.2.2
 simp only [go_sem,g7,h0,h1,h4,h7]
 refine ab (ctx:=[⟨_,aB⟩,⟨_,bN⟩,⟨_,bC⟩,⟨_,aA⟩,⟨_,ap⟩]) ak ⟨[14,15],[],[]⟩ (by kernel_rfl) ?_
 simp only [go_sem,g7,h0,h1,h4,h7]
end Go.Proofs.YtpjlafmhoifkmaaGreat
