import Derived.Test.YtpjlafmhoifkmaaGreatM33
set_option linter.unusedVariables false
set_option linter.unusedSimpArgs false
set_option maxRecDepth 100000
set_option maxHeartbeats 8000000
namespace Go.Proofs.YtpjlafmhoifkmaaGreat
open Go.RowKit
attribute [local go_sem] dX d7 dQ dR eV eT fS gb gW gT gV gY eD eB fZ fW ek eh dp dq dJ dI eX eS bU bW bu aC aH bm fN cy gL opV opR opE ah oSP aw oTo oOf cw be op0 r0 emp co gOf aD aF aI aj ac
theorem QL (xx ss:Bool) (rd rn rm ra a c:Int) (ha : -1000000000000≤a∧a≤1000000000000):SW Tryz.prog ⟨none,0⟩ Tryz.f77.ntmps (Tryz.f77.body.getD .skip) ⟨0,ag 0 [(ai ac).enc ⟨18,xx,ss,rd,rn,rm,ra,a,3,c⟩],[]⟩ (ax Tryz.prog Tryz.f77.results.toList (.ret (aj ((ae 3 [(⟨#[108,100,114]⟩:ByteArray),(⟨#[108,100,114]⟩:ByteArray),(⟨#[108,100,114,115,119]⟩:ByteArray),(⟨#[112,114,102,109]⟩:ByteArray)],[oOf 8 rd,oTo (4*a)]))))):=by
 refine aa (ctx:=[⟨_,aB⟩,⟨_,cU⟩,⟨_,bC⟩,⟨_,bA⟩,⟨_,aG⟩,⟨_,aA⟩,⟨_,ap⟩]) 4000 ?_
 rw [Tryz.ntmps77,Tryz.results77]
 simp only [Tryz.f77,Option.getD_some,ag]
 have w1:IntKind.i64.wrap (4*a)=4*a:=by rw [IntKind.wrap_i64];omega
 simp only [go_sem,w1]
 refine ab (ctx:=[⟨_,aB⟩,⟨_,cU⟩,⟨_,bC⟩,⟨_,bA⟩,⟨_,aG⟩,⟨_,aA⟩,⟨_,ap⟩]) ak ⟨[10,11],[(3,[368])],[(4,[368]),(5,[368]),(6,[368]),(7,[368])]⟩ (by kernel_rfl) ?_
 simp only [go_sem,w1]
theorem RH (xx ss:Bool) (rd rn rm ra a b c:Int) (ha : -1000000000000≤a∧a≤1000000000000) (hb:¬b=3):SW Tryz.prog ⟨none,0⟩ Tryz.f77.ntmps (Tryz.f77.body.getD .skip) ⟨0,ag 0 [(ai ac).enc ⟨18,xx,ss,rd,rn,rm,ra,a,b,c⟩],[]⟩ (ax Tryz.prog Tryz.f77.results.toList (.ret (aj ((ae b [(⟨#[108,100,114]⟩:ByteArray),(⟨#[108,100,114]⟩:ByteArray),(⟨#[108,100,114,115,119]⟩:ByteArray),(⟨#[112,114,102,109]⟩:ByteArray)],[ah rd (decide (0<b)),oTo (4*a)]))))):=by
 refine aa (ctx:=[⟨_,aB⟩,⟨_,cU⟩,⟨_,bC⟩,⟨_,bA⟩,⟨_,aG⟩,⟨_,aA⟩,⟨_,ap⟩]) 4000 ?_
 rw [Tryz.ntmps77,Tryz.results77]
 simp only [Tryz.f77,Option.getD_some,ag]
 have w1:IntKind.i64.wrap (4*a)=4*a:=by rw [IntKind.wrap_i64];omega
 have h3:(b==3)=false:=by simpa using hb
 simp only [go_sem,w1,h3]
 refine ab (ctx:=[⟨_,aB⟩,⟨_,cU⟩,⟨_,bC⟩,⟨_,bA⟩,⟨_,aG⟩,⟨_,aA⟩,⟨_,ap⟩]) ak ⟨[10,11],[(3,[304])],[(4,[304]),(5,[304]),(6,[304]),(7,[304])]⟩ (by kernel_rfl) ?_
 simp only [go_sem,w1,h3]
theorem Bv (xx:Bool) (rd rn rm ra a b c:Int) (ha : -1000000000000≤a∧a≤1000000000000) (hc:c=1) (hb:b=2):SW Tryz.prog ⟨none,0⟩ Tryz.f77.ntmps (Tryz.f77.body.getD .skip) ⟨0,ag 0 [(ai ac).enc ⟨19,xx,true,rd,rn,rm,ra,a,b,c⟩],[]⟩ (ax Tryz.prog Tryz.f77.results.toList (.ret (aj (((⟨#[108,100]⟩:ByteArray)++(ae c [(⟨#[110,112]⟩:ByteArray),(⟨#[112]⟩:ByteArray),(⟨#[112]⟩:ByteArray),(⟨#[112]⟩:ByteArray)]++ae b [emp,(⟨#[115,119]⟩:ByteArray),emp]),[ah rd (decide (0<b)),ah ra (decide (0<b)),be rn 2 (8*a)]))))):=by
 refine aa (ctx:=[⟨_,aB⟩,⟨_,cU⟩,⟨_,bC⟩,⟨_,bA⟩,⟨_,aG⟩,⟨_,aA⟩,⟨_,ap⟩]) 4000 ?_
 rw [Tryz.ntmps77,Tryz.results77]
 simp only [Tryz.f77,Option.getD_some,ag]
 have w1:IntKind.i64.wrap (8*a)=8*a:=by rw [IntKind.wrap_i64];omega
 obtain ⟨A1,h1⟩:∃ A,ae c [(⟨#[110,112]⟩:ByteArray),(⟨#[112]⟩:ByteArray),(⟨#[112]⟩:ByteArray),(⟨#[112]⟩:ByteArray)]=A:=⟨_,rfl⟩
 obtain ⟨A2,h2⟩:∃ A,ae b [(⟨#[]⟩:ByteArray),(⟨#[115,119]⟩:ByteArray),(⟨#[]⟩:ByteArray)]=A:=⟨_,rfl⟩
 have h2':ae b [emp,(⟨#[115,119]⟩:ByteArray),emp]=A2:=h2
 have l1:A1.size≤2:=by rw [← h1];exact av (by decide)
 have l2:A2.size≤2:=by rw [← h2];exact av (by decide)
 have m1:A1.size+A2.size≤maxLen:=by unfold maxLen;omega
 have m2:2+(A1.size+A2.size)≤maxLen:=by unfold maxLen;omega
 have z1:((⟨#[108,100]⟩:ByteArray)).size=2:=rfl
 have b1:(c==1)=true:=by simpa using hc
 have b3:(c==3)=false:=by simpa using (show ¬c=3 by omega)
 have b2:(b==2)=true:=by simpa using hb
 simp only [go_sem,w1,b1,b2,b3,h1,h2,h2',m1,m2,z1,ByteArray.size_append]
 refine ab (ctx:=[⟨_,aB⟩,⟨_,cU⟩,⟨_,bC⟩,⟨_,bA⟩,⟨_,aG⟩,⟨_,aA⟩,⟨_,ap⟩]) ak ⟨[],[(4,[416]),(8,[480])],[(0,[416,480]),(5,[416]),(6,[416]),(7,[416])]⟩ (by kernel_rfl) ?_
 simp only [go_sem,w1,b1,b2,b3,h1,h2,h2',m1,m2,z1,ByteArray.size_append]
 refine ab (ctx:=[⟨_,aB⟩,⟨_,cU⟩,⟨_,bC⟩,⟨_,bA⟩,⟨_,aG⟩,⟨_,aA⟩,⟨_,ap⟩]) ak ⟨[22,23],[],[]⟩ (by kernel_rfl) ?_
 simp only [go_sem,w1,b1,b2,b3,h1,h2,h2',m1,m2,z1,ByteArray.size_append]
theorem CG (xx:Bool) (rd rn rm ra a b c:Int) (ha : -1000000000000≤a∧a≤1000000000000) (hc:c=1) (hb:¬b=2):SW Tryz.prog ⟨none,0⟩ Tryz.f77.ntmps (Tryz.f77.body.getD .skip) ⟨0,ag 0 [(ai ac).enc ⟨19,xx,true,rd,rn,rm,ra,a,b,c⟩],[]⟩ (ax Tryz.prog Tryz.f77.results.toList (.ret (aj (((⟨#[108,100]⟩:ByteArray)++(ae c [(⟨#[110,112]⟩:ByteArray),(⟨#[112]⟩:ByteArray),(⟨#[112]⟩:ByteArray),(⟨#[112]⟩:ByteArray)]++ae b [emp,(⟨#[115,119]⟩:ByteArray),emp]),[ah rd (decide (0<b)),ah ra (decide (0<b)),be rn 2 (4*a)]))))):=by
 refine aa (ctx:=[⟨_,aB⟩,⟨_,cU⟩,⟨_,bC⟩,⟨_,bA⟩,⟨_,aG⟩,⟨_,aA⟩,⟨_,ap⟩]) 4000 ?_
 rw [Tryz.ntmps77,Tryz.results77]
 simp only [Tryz.f77,Option.getD_some,ag]
 have w1:IntKind.i64.wrap (4*a)=4*a:=by rw [IntKind.wrap_i64];omega
 obtain ⟨A1,h1⟩:∃ A,ae c [(⟨#[110,112]⟩:ByteArray),(⟨#[112]⟩:ByteArray),(⟨#[112]⟩:ByteArray),(⟨#[112]⟩:ByteArray)]=A:=⟨_,rfl⟩
 obtain ⟨A2,h2⟩:∃ A,ae b [(⟨#[]⟩:ByteArray),(⟨#[115,119]⟩:ByteArray),(⟨#[]⟩:ByteArray)]=A:=⟨_,rfl⟩
 have h2':ae b [emp,(⟨#[115,119]⟩:ByteArray),emp]=A2:=h2
 have l1:A1.size≤2:=by rw [← h1];exact av (by decide)
 have l2:A2.size≤2:=by rw [← h2];exact av (by decide)
 have m1:A1.size+A2.size≤maxLen:=by unfold maxLen;omega
 have m2:2+(A1.size+A2.size)≤maxLen:=by unfold maxLen;omega
 have z1:((⟨#[108,100]⟩:ByteArray)).size=2:=rfl
 have b1:(c==1)=true:=by simpa using hc
 have b3:(c==3)=false:=by simpa using (show ¬c=3 by omega)
 have b2:(b==2)=false:=by simpa using hb
 simp only [go_sem,w1,b1,b2,b3,h1,h2,h2',m1,m2,z1,ByteArray.size_append]
 refine ab (ctx:=[⟨_,aB⟩,⟨_,cU⟩,⟨_,bC⟩,⟨_,bA⟩,⟨_,aG⟩,⟨_,aA⟩,⟨_,ap⟩]) ak ⟨[],[(4,[400]),(8,[464])],[(0,[400,464]),(5,[400]),(6,[400]),(7,[400])]⟩ (by kernel_rfl) ?_
 simp only [go_sem,w1,b1,b2,b3,h1,h2,h2',m1,m2,z1,ByteArray.size_append]
 refine ab (ctx:=[⟨_,aB⟩,⟨_,cU⟩,⟨_,bC⟩,⟨_,bA⟩,⟨_,aG⟩,⟨_,aA⟩,⟨_,ap⟩]) ak ⟨[22,23],[],[]⟩ (by kernel_rfl) ?_
 simp only [go_sem,w1,b1,b2,b3,h1,h2,h2',m1,m2,z1,ByteArray.size_append]
theorem BY (xx:Bool) (rd rn rm ra a b c:Int) (ha : -1000000000000≤a∧a≤1000000000000) (hc:c=3) (hb:b=2):SW Tryz.prog ⟨none,0⟩ Tryz.f77.ntmps (Tryz.f77.body.getD .skip) ⟨0,ag 0 [(ai ac).enc ⟨19,xx,true,rd,rn,rm,ra,a,b,c⟩],[]⟩ (ax Tryz.prog Tryz.f77.results.toList (.ret (aj (((⟨#[108,100]⟩:ByteArray)++(ae c [(⟨#[110,112]⟩:ByteArray),(⟨#[112]⟩:ByteArray),(⟨#[112]⟩:ByteArray),(⟨#[112]⟩:ByteArray)]++ae b [emp,(⟨#[115,119]⟩:ByteArray),emp]),[ah rd (decide (0<b)),ah ra (decide (0<b)),be rn 1 (8*a)]))))):=by
 refine aa (ctx:=[⟨_,aB⟩,⟨_,cU⟩,⟨_,bC⟩,⟨_,bA⟩,⟨_,aG⟩,⟨_,aA⟩,⟨_,ap⟩]) 4000 ?_
 rw [Tryz.ntmps77,Tryz.results77]
 simp only [Tryz.f77,Option.getD_some,ag]
 have w1:IntKind.i64.wrap (8*a)=8*a:=by rw [IntKind.wrap_i64];omega
 obtain ⟨A1,h1⟩:∃ A,ae c [(⟨#[110,112]⟩:ByteArray),(⟨#[112]⟩:ByteArray),(⟨#[112]⟩:ByteArray),(⟨#[112]⟩:ByteArray)]=A:=⟨_,rfl⟩
 obtain ⟨A2,h2⟩:∃ A,ae b [(⟨#[]⟩:ByteArray),(⟨#[115,119]⟩:ByteArray),(⟨#[]⟩:ByteArray)]=A:=⟨_,rfl⟩
 have h2':ae b [emp,(⟨#[115,119]⟩:ByteArray),emp]=A2:=h2
 have l1:A1.size≤2:=by rw [← h1];exact av (by decide)
 have l2:A2.size≤2:=by rw [← h2];exact av (by decide)
 have m1:A1.size+A2.size≤maxLen:=by unfold maxLen;omega
 have m2:2+(A1.size+A2.size)≤maxLen:=by unfold maxLen;omega
 have z1:((⟨#[108,100]⟩:ByteArray)).size=2:=rfl
 have b1:(c==1)=false:=by simpa using (show ¬c=1 by omega)
 have b3:(c==3)=true:=by simpa using hc
 have b2:(b==2)=true:=by simpa using hb
 simp only [go_sem,w1,b1,b2,b3,h1,h2,h2',m1,m2,z1,ByteArray.size_append]
 refine ab (ctx:=[⟨_,aB⟩,⟨_,cU⟩,⟨_,bC⟩,⟨_,bA⟩,⟨_,aG⟩,⟨_,aA⟩,⟨_,ap⟩]) ak ⟨[],[(4,[448]),(8,[512])],[(0,[448,512]),(5,[448]),(6,[448]),(7,[448])]⟩ (by kernel_rfl) ?_
 simp only [go_sem,w1,b1,b2,b3,h1,h2,h2',m1,m2,z1,ByteArray.size_append]
 refine ab (ctx:=[⟨_,aB⟩,⟨_,cU⟩,⟨_,bC⟩,⟨_,bA⟩,⟨_,aG⟩,⟨_,aA⟩,⟨_,ap⟩]) ak ⟨[22,23],[],[]⟩ (by kernel_rfl) ?_
 simp only [go_sem,w1,b1,b2,b3,h1,h2,h2',m1,m2,z1,ByteArray.size_append]
theorem AP (xx:Bool) (rd rn rm ra a b c:Int) (ha : -1000000000000≤a∧a≤1000000000000) (hc:c=3) (hb:¬b=2):SW Tryz.prog ⟨none,0⟩ Tryz.f77.ntmps (Tryz.f77.body.getD .skip) ⟨0,ag 0 [(ai ac).enc ⟨19,xx,true,rd,rn,rm,ra,a,b,c⟩],[]⟩ (ax Tryz.prog Tryz.f77.results.toList (.ret (aj (((⟨#[108,100]⟩:ByteArray)++(ae c [(⟨#[110,112]⟩:ByteArray),(⟨#[112]⟩:ByteArray),(⟨#[112]⟩:ByteArray),(⟨#[112]⟩:ByteArray)]++ae b [emp,(⟨#[115,119]⟩:ByteArray),emp]),[ah rd (decide (0<b)),ah ra (decide (0<b)),be rn 1 (4*a)]))))):=by
 refine aa (ctx:=[⟨_,aB⟩,⟨_,cU⟩,⟨_,bC⟩,⟨_,bA⟩,⟨_,aG⟩,⟨_,aA⟩,⟨_,ap⟩]) 4000 ?_
 rw [Tryz.ntmps77,Tryz.results77]
 simp only [Tryz.f77,Option.getD_some,ag]
 have w1:IntKind.i64.wrap (4*a)=4*a:=by rw [IntKind.wrap_i64];omega
 obtain ⟨A1,h1⟩:∃ A,ae c [(⟨#[110,112]⟩:ByteArray),(⟨#[112]⟩:ByteArray),(⟨#[112]⟩:ByteArray),(⟨#[112]⟩:ByteArray)]=A:=⟨_,rfl⟩
 obtain ⟨A2,h2⟩:∃ A,ae b [(⟨#[]⟩:ByteArray),(⟨#[115,119]⟩:ByteArray),(⟨#[]⟩:ByteArray)]=A:=⟨_,rfl⟩
 have h2':ae b [emp,(⟨#[115,119]⟩:ByteArray),emp]=A2:=h2
 have l1:A1.size≤2:=by rw [← h1];exact av (by decide)
 have l2:A2.size≤2:=by rw [← h2];exact av (by decide)
 have m1:A1.size+A2.size≤maxLen:=by unfold maxLen;omega
 have m2:2+(A1.size+A2.size)≤maxLen:=by unfold maxLen;omega
 have z1:((⟨#[108,100]⟩:ByteArray)).size=2:=rfl
 have b1:(c==1)=false:=by simpa using (show ¬c=1 by omega)
 have b3:(c==3)=true:=by simpa using hc
 have b2:(b==2)=false:=by simpa using hb
 simp only [go_sem,w1,b1,b2,b3,h1,h2,h2',m1,m2,z1,ByteArray.size_append]
 refine ab (ctx:=[⟨_,aB⟩,⟨_,cU⟩,⟨_,bC⟩,⟨_,bA⟩,⟨_,aG⟩,⟨_,aA⟩,⟨_,ap⟩]) ak ⟨[],[(4,[432]),(8,[496])],[(0,[432,496]),(5,[432]),(6,[432]),(7,[432])]⟩ (by kernel_rfl) ?_
 simp only [go_sem,w1,b1,b2,b3,h1,h2,h2',m1,m2,z1,ByteArray.size_append]
 refine ab (ctx:=[⟨_,aB⟩,⟨_,cU⟩,⟨_,bC⟩,⟨_,bA⟩,⟨_,aG⟩,⟨_,aA⟩,⟨_,ap⟩]) ak ⟨[22,23],[],[]⟩ (by kernel_rfl) ?_
 simp only [go_sem,w1,b1,b2,b3,h1,h2,h2',m1,m2,z1,ByteArray.size_append]
theorem C3 (xx:Bool) (rd rn rm ra a b c:Int) (ha : -1000000000000≤a∧a≤1000000000000) (hc:¬c=1∧¬c=3) (hb:b=2):SW Tryz.prog ⟨none,0⟩ Tryz.f77.ntmps (Tryz.f77.body.getD .skip) ⟨0,ag 0 [(ai ac).enc ⟨19,xx,true,rd,rn,rm,ra,a,b,c⟩],[]⟩ (ax Tryz.prog Tryz.f77.results.toList (.ret (aj (((⟨#[108,100]⟩:ByteArray)++(ae c [(⟨#[110,112]⟩:ByteArray),(⟨#[112]⟩:ByteArray),(⟨#[112]⟩:ByteArray),(⟨#[112]⟩:ByteArray)]++ae b [emp,(⟨#[115,119]⟩:ByteArray),emp]),[ah rd (decide (0<b)),ah ra (decide (0<b)),be rn 0 (8*a)]))))):=by
 refine aa (ctx:=[⟨_,aB⟩,⟨_,cU⟩,⟨_,bC⟩,⟨_,bA⟩,⟨_,aG⟩,⟨_,aA⟩,⟨_,ap⟩]) 4000 ?_
 rw [Tryz.ntmps77,Tryz.results77]
 simp only [Tryz.f77,Option.getD_some,ag]
 have w1:IntKind.i64.wrap (8*a)=8*a:=by rw [IntKind.wrap_i64];omega
 obtain ⟨A1,h1⟩:∃ A,ae c [(⟨#[110,112]⟩:ByteArray),(⟨#[112]⟩:ByteArray),(⟨#[112]⟩:ByteArray),(⟨#[112]⟩:ByteArray)]=A:=⟨_,rfl⟩
 obtain ⟨A2,h2⟩:∃ A,ae b [(⟨#[]⟩:ByteArray),(⟨#[115,119]⟩:ByteArray),(⟨#[]⟩:ByteArray)]=A:=⟨_,rfl⟩
 have h2':ae b [emp,(⟨#[115,119]⟩:ByteArray),emp]=A2:=h2
 have l1:A1.size≤2:=by rw [← h1];exact av (by decide)
 have l2:A2.size≤2:=by rw [← h2];exact av (by decide)
 have m1:A1.size+A2.size≤maxLen:=by unfold maxLen;omega
 have m2:2+(A1.size+A2.size)≤maxLen:=by unfold maxLen;omega
 have z1:((⟨#[108,100]⟩:ByteArray)).size=2:=rfl
 have b1:(c==1)=false:=by simpa using (show ¬c=1 by omega)
 have b3:(c==3)=false:=by simpa using (show ¬c=3 by omega)
 have b2:(b==2)=true:=by simpa using hb
 simp only [go_sem,w1,b1,b2,b3,h1,h2,h2',m1,m2,z1,ByteArray.size_append]
 refine ab (ctx:=[⟨_,aB⟩,⟨_,cU⟩,⟨_,bC⟩,⟨_,bA⟩,⟨_,aG⟩,⟨_,aA⟩,⟨_,ap⟩]) ak ⟨[],[(4,[432]),(8,[496])],[(0,[432,496]),(5,[432]),(6,[432]),(7,[432])]⟩ (by kernel_rfl) ?_
 simp only [go_sem,w1,b1,b2,b3,h1,h2,h2',m1,m2,z1,ByteArray.size_append]
 refine ab (ctx:=[⟨_,aB⟩,⟨_,cU⟩,⟨_,bC⟩,⟨_,bA⟩,⟨_,aG⟩,⟨_,aA⟩,⟨_,ap⟩]) ak ⟨[22,23],[],[]⟩ (by kernel_rfl) ?_
 simp only [go_sem,w1,b1,b2,b3,h1,h2,h2',m1,m2,z1,ByteArray.size_append]
theorem BC (xx:Bool) (rd rn rm ra a b c:Int) (ha : -1000000000000≤a∧a≤1000000000000) (hc:¬c=1∧¬c=3) (hb:¬b=2):SW Tryz.prog ⟨none,0⟩ Tryz.f77.ntmps (Tryz.f77.body.getD .skip) ⟨0,ag 0 [(ai ac).enc ⟨19,xx,true,rd,rn,rm,ra,a,b,c⟩],[]⟩ (ax Tryz.prog Tryz.f77.results.toList (.ret (aj (((⟨#[108,100]⟩:ByteArray)++(ae c [(⟨#[110,112]⟩:ByteArray),(⟨#[112]⟩:ByteArray),(⟨#[112]⟩:ByteArray),(⟨#[112]⟩:ByteArray)]++ae b [emp,(⟨#[115,119]⟩:ByteArray),emp]),[ah rd (decide (0<b)),ah ra (decide (0<b)),be rn 0 (4*a)]))))):=by
 refine aa (ctx:=[⟨_,aB⟩,⟨_,cU⟩,⟨_,bC⟩,⟨_,bA⟩,⟨_,aG⟩,⟨_,aA⟩,⟨_,ap⟩]) 4000 ?_
 rw [Tryz.ntmps77,Tryz.results77]
 simp only [Tryz.f77,Option.getD_some,ag]
 have w1:IntKind.i64.wrap (4*a)=4*a:=by rw [IntKind.wrap_i64];omega
 obtain ⟨A1,h1⟩:∃ A,ae c [(⟨#[110,112]⟩:ByteArray),(⟨#[112]⟩:ByteArray),(⟨#[112]⟩:ByteArray),(⟨#[112]⟩:ByteArray)]=A:=⟨_,rfl⟩
 obtain ⟨A2,h2⟩:∃ A,ae b [(⟨#[]⟩:ByteArray),(⟨#[115,119]⟩:ByteArray),(⟨#[]⟩:ByteArray)]=A:=⟨_,rfl⟩
 have h2':ae b [emp,(⟨#[115,119]⟩:ByteArray),emp]=A2:=h2
 have l1:A1.size≤2:=by rw [← h1];exact av (by decide)
 have l2:A2.size≤2:=by rw [← h2];exact av (by decide)
 have m1:A1.size+A2.size≤maxLen:=by unfold maxLen;omega
 have m2:2+(A1.size+A2.size)≤maxLen:=by unfold maxLen;omega
 have z1:((⟨#[108,100]⟩:ByteArray)).size=2:=rfl
 have b1:(c==1)=false:=by simpa using (show ¬c=1 by omega)
 have b3:(c==3)=false:=by simpa using (show ¬c=3 by omega)
 have b2:(b==2)=false:=by simpa using hb
 simp only [go_sem,w1,b1,b2,b3,h1,h2,h2',m1,m2,z1,ByteArray.size_append]
 refine ab (ctx:=[⟨_,aB⟩,⟨_,cU⟩,⟨_,bC⟩,⟨_,bA⟩,⟨_,aG⟩,⟨_,aA⟩,⟨_,ap⟩]) ak ⟨[],[(4,[416]),(8,[480])],[(0,[416,480]),(5,[416]),(6,[416]),(7,[416])]⟩ (by kernel_rfl) ?_
 simp only [go_sem,w1,b1,b2,b3,h1,h2,h2',m1,m2,z1,ByteArray.size_append]
 refine ab (ctx:=[⟨_,aB⟩,⟨_,cU⟩,⟨_,bC⟩,⟨_,bA⟩,⟨_,aG⟩,⟨_,aA⟩,⟨_,ap⟩]) ak ⟨[22,23],[],[]⟩ (by kernel_rfl) ?_
 simp only [go_sem,w1,b1,b2,b3,h1,h2,h2',m1,m2,z1,ByteArray.size_append]
theorem FX (xx:Bool) (rd rn rm ra a b c:Int) (ha : -1000000000000≤a∧a≤1000000000000) (hc:c=1) (hb:b=2):SW Tryz.prog ⟨none,0⟩ Tryz.f77.ntmps (Tryz.f77.body.getD .skip) ⟨0,ag 0 [(ai ac).enc ⟨19,xx,false,rd,rn,rm,ra,a,b,c⟩],[]⟩ (ax Tryz.prog Tryz.f77.results.toList (.ret (aj (((⟨#[115,116]⟩:ByteArray)++(ae c [(⟨#[110,112]⟩:ByteArray),(⟨#[112]⟩:ByteArray),(⟨#[112]⟩:ByteArray),(⟨#[112]⟩:ByteArray)]++ae b [emp,(⟨#[115,119]⟩:ByteArray),emp]),[ah rd (decide (0<b)),ah ra (decide (0<b)),be rn 2 (8*a)]))))):=by
 refine aa (ctx:=[⟨_,aB⟩,⟨_,cU⟩,⟨_,bC⟩,⟨_,bA⟩,⟨_,aG⟩,⟨_,aA⟩,⟨_,ap⟩]) 4000 ?_
 rw [Tryz.ntmps77,Tryz.results77]
 simp only [Tryz.f77,Option.getD_some,ag]
 have w1:IntKind.i64.wrap (8*a)=8*a:=by rw [IntKind.wrap_i64];omega
 obtain ⟨A1,h1⟩:∃ A,ae c [(⟨#[110,112]⟩:ByteArray),(⟨#[112]⟩:ByteArray),(⟨#[112]⟩:ByteArray),(⟨#[112]⟩:ByteArray)]=A:=⟨_,rfl⟩
 obtain ⟨A2,h2⟩:∃ A,ae b [(⟨#[]⟩:ByteArray),(⟨#[115,119]⟩:ByteArray),(⟨#[]⟩:ByteArray)]=A:=⟨_,rfl⟩
 have h2':ae b [emp,(⟨#[115,119]⟩:ByteArray),emp]=A2:=h2
 have l1:A1.size≤2:=by rw [← h1];exact av (by decide)
 have l2:A2.size≤2:=by rw [← h2];exact av (by decide)
 have m1:A1.size+A2.size≤maxLen:=by unfold maxLen;omega
 have m2:2+(A1.size+A2.size)≤maxLen:=by unfold maxLen;omega
 have z1:((⟨#[115,116]⟩:ByteArray)).size=2:=rfl
 have b1:(c==1)=true:=by simpa using hc
 have b3:(c==3)=false:=by simpa using (show ¬c=3 by omega)
 have b2:(b==2)=true:=by simpa using hb
 simp only [go_sem,w1,b1,b2,b3,h1,h2,h2',m1,m2,z1,ByteArray.size_append]
 refine ab (ctx:=[⟨_,aB⟩,⟨_,cU⟩,⟨_,bC⟩,⟨_,bA⟩,⟨_,aG⟩,⟨_,aA⟩,⟨_,ap⟩]) ak ⟨[],[(4,[400]),(8,[464])],[(0,[400,464]),(5,[400]),(6,[400]),(7,[400])]⟩ (by kernel_rfl) ?_
 simp only [go_sem,w1,b1,b2,b3,h1,h2,h2',m1,m2,z1,ByteArray.size_append]
 refine ab (ctx:=[⟨_,aB⟩,⟨_,cU⟩,⟨_,bC⟩,⟨_,bA⟩,⟨_,aG⟩,⟨_,aA⟩,⟨_,ap⟩]) ak ⟨[22,23],[],[]⟩ (by kernel_rfl) ?_
 simp only [go_sem,w1,b1,b2,b3,h1,h2,h2',m1,m2,z1,ByteArray.size_append]
theorem GY (xx:Bool) (rd rn rm ra a b c:Int) (ha : -1000000000000≤a∧a≤1000000000000) (hc:c=1) (hb:¬b=2):SW Tryz.prog ⟨none,0⟩ Tryz.f77.ntmps (Tryz.f77.body.getD .skip) ⟨0,ag 0 [(ai ac).enc ⟨19,xx,false,rd,rn,rm,ra,a,b,c⟩],[]⟩ (ax Tryz.prog Tryz.f77.results.toList (.ret (aj (((⟨#[115,116]⟩:ByteArray)++(ae c [(⟨#[110,112]⟩:ByteArray),(⟨#[112]⟩:ByteArray),(⟨#[112]⟩:ByteArray),(⟨#[112]⟩:ByteArray)]++ae b [emp,(⟨#[115,119]⟩:ByteArray),emp]),[ah rd (decide (0<b)),ah ra (decide (0<b)),be rn 2 (4*a)]))))):=by
 refine aa (ctx:=[⟨_,aB⟩,⟨_,cU⟩,⟨_,bC⟩,⟨_,bA⟩,⟨_,aG⟩,⟨_,aA⟩,⟨_,ap⟩]) 4000 ?_
 rw [Tryz.ntmps77,Tryz.results77]
 simp only [Tryz.f77,Option.getD_some,ag]
 have w1:IntKind.i64.wrap (4*a)=4*a:=by rw [IntKind.wrap_i64];omega
 obtain ⟨A1,h1⟩:∃ A,ae c [(⟨#[110,112]⟩:ByteArray),(⟨#[112]⟩:ByteArray),(⟨#[112]⟩:ByteArray),(⟨#[112]⟩:ByteArray)]=A:=⟨_,rfl⟩
 obtain ⟨A2,h2⟩:∃ A,ae b [(⟨#[]⟩:ByteArray),(⟨#[115,119]⟩:ByteArray),(⟨#[]⟩:ByteArray)]=A:=⟨_,rfl⟩
 have h2':ae b [emp,(⟨#[115,119]⟩:ByteArray),emp]=A2:=h2
 have l1:A1.size≤2:=by rw [← h1];exact av (by decide)
 have l2:A2.size≤2:=by rw [← h2];exact av (by decide)
 have m1:A1.size+A2.size≤maxLen:=by unfold maxLen;omega
 have m2:2+(A1.size+A2.size)≤maxLen:=by unfold maxLen;omega
 have z1:((⟨#[115,116]⟩:ByteArray)).size=2:=rfl
 have b1:(c==1)=true:=by simpa using hc
 have b3:(c==3)=false:=by simpa using (show ¬c=3 by omega)
 have b2:(b==2)=false:=by simpa using hb
 simp only [go_sem,w1,b1,b2,b3,h1,h2,h2',m1,m2,z1,ByteArray.size_append]
 refine ab (ctx:=[⟨_,aB⟩,⟨_,cU⟩,⟨_,bC⟩,⟨_,bA⟩,⟨_,aG⟩,⟨_,aA⟩,⟨_,ap⟩]) ak ⟨[],[(4,[384]),(8,[448])],[(0,[384,448]),(5,[384]),(6,[384]),(7,[384])]⟩ (by kernel_rfl) ?_
 simp only [go_sem,w1,b1,b2,b3,h1,h2,h2',m1,m2,z1,ByteArray.size_append]
 refine ab (ctx:=[⟨_,aB⟩,⟨_,cU⟩,⟨_,bC⟩,⟨_,bA⟩,⟨_,aG⟩,⟨_,aA⟩,⟨_,ap⟩]) ak ⟨[22,23],[],[]⟩ (by kernel_rfl) ?_
 simp only [go_sem,w1,b1,b2,b3,h1,h2,h2',m1,m2,z1,ByteArray.size_append]
theorem GB (xx:Bool) (rd rn rm ra a b c:Int) (ha : -1000000000000≤a∧a≤1000000000000) (hc:c=3) (hb:b=2):SW Tryz.prog ⟨none,0⟩ Tryz.f77.ntmps (Tryz.f77.body.getD .skip) ⟨0,ag 0 [(ai ac).enc ⟨19,xx,false,rd,rn,rm,ra,a,b,c⟩],[]⟩ (ax Tryz.prog Tryz.f77.results.toList (.ret (aj (((⟨#[115,116]⟩:ByteArray)++(ae c [(⟨#[110,112]⟩:ByteArray),(⟨#[112]⟩:ByteArray),(⟨#[112]⟩:ByteArray),(⟨#[112]⟩:ByteArray)]++ae b [emp,(⟨#[115,119]⟩:ByteArray),emp]),[ah rd (decide (0<b)),ah ra (decide (0<b)),be rn 1 (8*a)]))))):=by
 refine aa (ctx:=[⟨_,aB⟩,⟨_,cU⟩,⟨_,bC⟩,⟨_,bA⟩,⟨_,aG⟩,⟨_,aA⟩,⟨_,ap⟩]) 4000 ?_
 rw [Tryz.ntmps77,Tryz.results77]
 simp only [Tryz.f77,Option.getD_some,ag]
 have w1:IntKind.i64.wrap (8*a)=8*a:=by rw [IntKind.wrap_i64];omega
 obtain ⟨A1,h1⟩:∃ A,ae c [(⟨#[110,112]⟩:ByteArray),(⟨#[112]⟩:ByteArray),(⟨#[112]⟩:ByteArray),(⟨#[112]⟩:ByteArray)]=A:=⟨_,rfl⟩
 obtain ⟨A2,h2⟩:∃ A,ae b [(⟨#[]⟩:ByteArray),(⟨#[115,119]⟩:ByteArray),(⟨#[]⟩:ByteArray)]=A:=⟨_,rfl⟩
 have h2':ae b [emp,(⟨#[115,119]⟩:ByteArray),emp]=A2:=h2
 have l1:A1.size≤2:=by rw [← h1];exact av (by decide)
 have l2:A2.size≤2:=by rw [← h2];exact av (by decide)
 have m1:A1.size+A2.size≤maxLen:=by unfold maxLen;omega
 have m2:2+(A1.size+A2.size)≤maxLen:=by unfold maxLen;omega
 have z1:((⟨#[115,116]⟩:ByteArray)).size=2:=rfl
 have b1:(c==1)=false:=by simpa using (show ¬c=1 by omega)
 have b3:(c==3)=true:=by simpa using hc
 have b2:(b==2)=true:=by simpa using hb
 simp only [go_sem,w1,b1,b2,b3,h1,h2,h2',m1,m2,z1,ByteArray.size_append]
 refine ab (ctx:=[⟨_,aB⟩,⟨_,cU⟩,⟨_,bC⟩,⟨_,bA⟩,⟨_,aG⟩,⟨_,aA⟩,⟨_,ap⟩]) ak ⟨[],[(4,[432]),(8,[496])],[(0,[432,496]),(5,[432]),(6,[432]),(7,[432])]⟩ (by kernel_rfl) ?_
 simp only [go_sem,w1,b1,b2,b3,h1,h2,h2',m1,m2,z1,ByteArray.size_append]
 refine ab (ctx:=[⟨_,aB⟩,⟨_,cU⟩,⟨_,bC⟩,⟨_,bA⟩,⟨_,aG⟩,⟨_,aA⟩,⟨_,ap⟩]) ak ⟨[22,23],[],[]⟩ (by kernel_rfl) ?_
 simp only [go_sem,w1,b1,b2,b3,h1,h2,h2',m1,m2,z1,ByteArray.size_append]
theorem Dt (xx:Bool) (rd rn rm ra a b c:Int) (ha : -1000000000000≤a∧a≤1000000000000) (hc:c=3) (hb:¬b=2):SW Tryz.prog ⟨none,0⟩ Tryz.f77.ntmps (Tryz.f77.body.getD .skip) ⟨0,ag 0 [(ai ac).enc ⟨19,xx,false,rd,rn,rm,ra,a,b,c⟩],[]⟩ (ax Tryz.prog Tryz.f77.results.toList (.ret (aj (((⟨#[115,116]⟩:ByteArray)++(ae c [(⟨#[110,112]⟩:ByteArray),(⟨#[112]⟩:ByteArray),(⟨#[112]⟩:ByteArray),(⟨#[112]⟩:ByteArray)]++ae b [emp,(⟨#[115,119]⟩:ByteArray),emp]),[ah rd (decide (0<b)),ah ra (decide (0<b)),be rn 1 (4*a)]))))):=by
 refine aa (ctx:=[⟨_,aB⟩,⟨_,cU⟩,⟨_,bC⟩,⟨_,bA⟩,⟨_,aG⟩,⟨_,aA⟩,⟨_,ap⟩]) 4000 ?_
 rw [Tryz.ntmps77,Tryz.results77]
 simp only [Tryz.f77,Option.getD_some,ag]
 have w1:IntKind.i64.wrap (4*a)=4*a:=by rw [IntKind.wrap_i64];omega
 obtain ⟨A1,h1⟩:∃ A,ae c [(⟨#[110,112]⟩:ByteArray),(⟨#[112]⟩:ByteArray),(⟨#[112]⟩:ByteArray),(⟨#[112]⟩:ByteArray)]=A:=⟨_,rfl⟩
 obtain ⟨A2,h2⟩:∃ A,ae b [(⟨#[]⟩:ByteArray),(⟨#[115,119]⟩:ByteArray),(⟨#[]⟩:ByteArray)]=A:=⟨_,rfl⟩
 have h2':ae b [emp,(⟨#[115,119]⟩:ByteArray),emp]=A2:=h2
 have l1:A1.size≤2:=by rw [← h1];exact av (by decide)
 have l2:A2.size≤2:=by rw [← h2];exact av (by decide)
 have m1:A1.size+A2.size≤maxLen:=by unfold maxLen;omega
 have m2:2+(A1.size+A2.size)≤maxLen:=by unfold maxLen;omega
 have z1:((⟨#[115,116]⟩:ByteArray)).size=2:=rfl
 have b1:(c==1)=false:=by simpa using (show ¬c=1 by omega)
 have b3:(c==3)=true:=by simpa using hc
 have b2:(b==2)=false:=by simpa using hb
 simp only [go_sem,w1,b1,b2,b3,h1,h2,h2',m1,m2,z1,ByteArray.size_append]
 refine ab (ctx:=[⟨_,aB⟩,⟨_,cU⟩,⟨_,bC⟩,⟨_,bA⟩,⟨_,aG⟩,⟨_,aA⟩,⟨_,ap⟩]) ak ⟨[],[(4,[416]),(8,[480])],[(0,[416,480]),(5,[416]),(6,[416]),(7,[416])]⟩ (by kernel_rfl) ?_
 simp only [go_sem,w1,b1,b2,b3,h1,h2,h2',m1,m2,z1,ByteArray.size_append]
 refine ab (ctx:=[⟨_,aB⟩,⟨_,cU⟩,⟨_,bC⟩,⟨_,bA⟩,⟨_,aG⟩,⟨_,aA⟩,⟨_,ap⟩]) ak ⟨[22,23],[],[]⟩ (by kernel_rfl) ?_
 simp only [go_sem,w1,b1,b2,b3,h1,h2,h2',m1,m2,z1,ByteArray.size_append]
theorem Ew (xx:Bool) (rd rn rm ra a b c:Int) (ha : -1000000000000≤a∧a≤1000000000000) (hc:¬c=1∧¬c=3) (hb:b=2):SW Tryz.prog ⟨none,0⟩ Tryz.f77.ntmps (Tryz.f77.body.getD .skip) ⟨0,ag 0 [(ai ac).enc ⟨19,xx,false,rd,rn,rm,ra,a,b,c⟩],[]⟩ (ax Tryz.prog Tryz.f77.results.toList (.ret (aj (((⟨#[115,116]⟩:ByteArray)++(ae c [(⟨#[110,112]⟩:ByteArray),(⟨#[112]⟩:ByteArray),(⟨#[112]⟩:ByteArray),(⟨#[112]⟩:ByteArray)]++ae b [emp,(⟨#[115,119]⟩:ByteArray),emp]),[ah rd (decide (0<b)),ah ra (decide (0<b)),be rn 0 (8*a)]))))):=by
 refine aa (ctx:=[⟨_,aB⟩,⟨_,cU⟩,⟨_,bC⟩,⟨_,bA⟩,⟨_,aG⟩,⟨_,aA⟩,⟨_,ap⟩]) 4000 ?_
 rw [Tryz.ntmps77,Tryz.results77]
 simp only [Tryz.f77,Option.getD_some,ag]
 have w1:IntKind.i64.wrap (8*a)=8*a:=by rw [IntKind.wrap_i64];omega
 obtain ⟨A1,h1⟩:∃ A,ae c [(⟨#[110,112]⟩:ByteArray),(⟨#[112]⟩:ByteArray),(⟨#[112]⟩:ByteArray),(⟨#[112]⟩:ByteArray)]=A:=⟨_,rfl⟩
 obtain ⟨A2,h2⟩:∃ A,ae b [(⟨#[]⟩:ByteArray),(⟨#[115,119]⟩:ByteArray),(⟨#[]⟩:ByteArray)]=A:=⟨_,rfl⟩
 have h2':ae b [emp,(⟨#[115,119]⟩:ByteArray),emp]=A2:=h2
 have l1:A1.size≤2:=by rw [← h1];exact av (by decide)
 have l2:A2.size≤2:=by rw [← h2];exact av (by decide)
 have m1:A1.size+A2.size≤maxLen:=by unfold maxLen;omega
 have m2:2+(A1.size+A2.size)≤maxLen:=by unfold maxLen;omega
 have z1:((⟨#[115,116]⟩:ByteArray)).size=2:=rfl
 have b1:(c==1)=false:=by simpa using (show ¬c=1 by omega)
 have b3:(c==3)=false:=by simpa using (show ¬c=3 by omega)
 have b2:(b==2)=true:=by simpa using hb
 simp only [go_sem,w1,b1,b2,b3,h1,h2,h2',m1,m2,z1,ByteArray.size_append]
 refine ab (ctx:=[⟨_,aB⟩,⟨_,cU⟩,⟨_,bC⟩,⟨_,bA⟩,⟨_,aG⟩,⟨_,aA⟩,⟨_,ap⟩]) ak ⟨[],[(4,[416]),(8,[480])],[(0,[416,480]),(5,[416]),(6,[416]),(7,[416])]⟩ (by kernel_rfl) ?_
 simp only [go_sem,w1,b1,b2,b3,h1,h2,h2',m1,m2,z1,ByteArray.size_append]
 refine ab (ctx:=[⟨_,aB⟩,⟨_,cU⟩,⟨_,bC⟩,⟨_,bA⟩,⟨_,aG⟩,⟨_,aA⟩,⟨_,ap⟩]) ak ⟨[22,23],[],[]⟩ (by kernel_rfl) ?_
 simp only [go_sem,w1,b1,b2,b3,h1,h2,h2',m1,m2,z1,ByteArray.size_append]
theorem GI (xx:Bool) (rd rn rm ra a b c:Int) (ha : -1000000000000≤a∧a≤1000000000000) (hc:¬c=1∧¬c=3) (hb:¬b=2):SW Tryz.prog ⟨none,0⟩ Tryz.f77.ntmps (Tryz.f77.body.getD .skip) ⟨0,ag 0 [(ai ac).enc ⟨19,xx,false,rd,rn,rm,ra,a,b,c⟩],[]⟩ (ax Tryz.prog Tryz.f77.results.toList (.ret (aj (((⟨#[115,116]⟩:ByteArray)++(ae c [(⟨#[110,112]⟩:ByteArray),(⟨#[112]⟩:ByteArray),(⟨#[112]⟩:ByteArray),(⟨#[112]⟩:ByteArray)]++ae b [emp,(⟨#[115,119]⟩:ByteArray),emp]),[ah rd (decide (0<b)),ah ra (decide (0<b)),be rn 0 (4*a)]))))):=by
 refine aa (ctx:=[⟨_,aB⟩,⟨_,cU⟩,⟨_,bC⟩,⟨_,bA⟩,⟨_,aG⟩,⟨_,aA⟩,⟨_,ap⟩]) 4000 ?_
 rw [Tryz.ntmps77,Tryz.results77]
 simp only [Tryz.f77,Option.getD_some,ag]
 have w1:IntKind.i64.wrap (4*a)=4*a:=by rw [IntKind.wrap_i64];omega
 obtain ⟨A1,h1⟩:∃ A,ae c [(⟨#[110,112]⟩:ByteArray),(⟨#[112]⟩:ByteArray),(⟨#[112]⟩:ByteArray),(⟨#[112]⟩:ByteArray)]=A:=⟨_,rfl⟩
 obtain ⟨A2,h2⟩:∃ A,ae b [(⟨#[]⟩:ByteArray),(⟨#[115,119]⟩:ByteArray),(⟨#[]⟩:ByteArray)]=A:=⟨_,rfl⟩
 have h2':ae b [emp,(⟨#[115,119]⟩:ByteArray),emp]=A2:=h2
 have l1:A1.size≤2:=by rw [← h1];exact av (by decide)
 have l2:A2.size≤2:=by rw [← h2];exact av (by decide)
 have m1:A1.size+A2.size≤maxLen:=by unfold maxLen;omega
 have m2:2+(A1.size+A2.size)≤maxLen:=by unfold maxLen;omega
 have z1:((⟨#[115,116]⟩:ByteArray)).size=2:=rfl
 have b1:(c==1)=false:=by simpa using (show ¬c=1 by omega)
 have b3:(c==3)=false:=by simpa using (show ¬c=3 by omega)
 have b2:(b==2)=false:=by simpa using hb
 simp only [go_sem,w1,b1,b2,b3,h1,h2,h2',m1,m2,z1,ByteArray.size_append]
 refine ab (ctx:=[⟨_,aB⟩,⟨_,cU⟩,⟨_,bC⟩,⟨_,bA⟩,⟨_,aG⟩,⟨_,aA⟩,⟨_,ap⟩]) ak ⟨[],[(4,[400]),(8,[464])],[(0,[400,464]),(5,[400]),(6,[400]),(7,[400])]⟩ (by kernel_rfl) ?_
 simp only [go_sem,w1,b1,b2,b3,h1,h2,h2',m1,m2,z1,ByteArray.size_append]
 refine ab (ctx:=[⟨_,aB⟩,⟨_,cU⟩,⟨_,bC⟩,⟨_,bA⟩,⟨_,aG⟩,⟨_,aA⟩,⟨_,ap⟩]) ak ⟨[22,23],[],[]⟩ (by kernel_rfl) ?_
 simp only [go_sem,w1,b1,b2,b3,h1,h2,h2',m1,m2,z1,ByteArray.size_append]
theorem Ls (xx:Bool) (rd rn rm ra b c:Int):SW Tryz.prog ⟨none,0⟩ Tryz.f77.ntmps (Tryz.f77.body.getD .skip) ⟨0,ag 0 [(ai ac).enc ⟨23,xx,true,rd,rn,rm,ra,2,b,c⟩],[]⟩ (ax Tryz.prog Tryz.f77.results.toList (.ret (aj ((((⟨#[108,100]⟩:ByteArray)++(ae (aU true) [(⟨#[108]⟩:ByteArray),(⟨#[97]⟩:ByteArray)]++(⟨#[114]⟩:ByteArray)))++ae b [(⟨#[98]⟩:ByteArray),(⟨#[104]⟩:ByteArray),emp,emp],[ah rd (decide (b=3)),be rn 0 0]))))):=by
 refine aa (ctx:=[⟨_,aB⟩,⟨_,cU⟩,⟨_,bC⟩,⟨_,bA⟩,⟨_,aG⟩,⟨_,aA⟩,⟨_,ap⟩]) 4000 ?_
 rw [Tryz.ntmps77,Tryz.results77]
 simp only [Tryz.f77,Option.getD_some,ag]
 have e2:=bH b 3
 have n1:(1:Nat)≤maxLen:=by unfold maxLen;omega
 have n2:(2:Nat)≤maxLen:=by unfold maxLen;omega
 have n3:(3:Nat)≤maxLen:=by unfold maxLen;omega
 have n4:(4:Nat)≤maxLen:=by unfold maxLen;omega
 have n5:(5:Nat)≤maxLen:=by unfold maxLen;omega
 obtain ⟨A1,hA1⟩:∃ A,ae (aU true) [(⟨#[108]⟩:ByteArray),(⟨#[97]⟩:ByteArray)]=A:=⟨_,rfl⟩
 have hA1':ae (aU true) [(⟨#[108]⟩:ByteArray),(⟨#[97]⟩:ByteArray)]=A1:=hA1
 have lA1:A1.size≤1:=by rw [← hA1];exact av (by decide)
 obtain ⟨A5,hA5⟩:∃ A,ae b [(⟨#[98]⟩:ByteArray),(⟨#[104]⟩:ByteArray),(⟨#[]⟩:ByteArray),(⟨#[]⟩:ByteArray)]=A:=⟨_,rfl⟩
 have hA5':ae b [(⟨#[98]⟩:ByteArray),(⟨#[104]⟩:ByteArray),emp,emp]=A5:=hA5
 have lA5:A5.size≤1:=by rw [← hA5];exact av (by decide)
 have m0:A1.size+1≤maxLen:=by unfold maxLen;omega
 have m1:2+(A1.size+1)≤maxLen:=by unfold maxLen;omega
 have m2:2+(A1.size+1)+A5.size≤maxLen:=by unfold maxLen;omega
 have z0:((⟨#[108,100]⟩:ByteArray)).size=2:=rfl
 have z1:((⟨#[114]⟩:ByteArray)).size=1:=rfl
 have z2:((⟨#[120]⟩:ByteArray)).size=1:=rfl
 simp only [go_sem,e2,n1,n2,n3,n4,n5,ByteArray.size_append,hA1,hA1',hA5,hA5',m0,m1,m2,z0,z1,z2]
theorem JE (rd rn rm ra b c:Int):SW Tryz.prog ⟨none,0⟩ Tryz.f77.ntmps (Tryz.f77.body.getD .skip) ⟨0,ag 0 [(ai ac).enc ⟨23,true,true,rd,rn,rm,ra,0,b,c⟩],[]⟩ (ax Tryz.prog Tryz.f77.results.toList (.ret (aj ((((⟨#[108,100]⟩:ByteArray)++(ae (aU true) [(⟨#[108,120]⟩:ByteArray),(⟨#[97,120]⟩:ByteArray)]++ae 0 [(⟨#[114]⟩:ByteArray),(⟨#[112]⟩:ByteArray)]))++ae b [(⟨#[98]⟩:ByteArray),(⟨#[104]⟩:ByteArray),emp,emp],[ah rd (decide (b=3)),be rn 0 0]))))):=by
 refine aa (ctx:=[⟨_,aB⟩,⟨_,cU⟩,⟨_,bC⟩,⟨_,bA⟩,⟨_,aG⟩,⟨_,aA⟩,⟨_,ap⟩]) 4000 ?_
 rw [Tryz.ntmps77,Tryz.results77]
 simp only [Tryz.f77,Option.getD_some,ag]
 have e2:=bH b 3
 have n1:(1:Nat)≤maxLen:=by unfold maxLen;omega
 have n2:(2:Nat)≤maxLen:=by unfold maxLen;omega
 have n3:(3:Nat)≤maxLen:=by unfold maxLen;omega
 have n4:(4:Nat)≤maxLen:=by unfold maxLen;omega
 have n5:(5:Nat)≤maxLen:=by unfold maxLen;omega
 obtain ⟨A1,hA1⟩:∃ A,ae (aU true) [(⟨#[108,120]⟩:ByteArray),(⟨#[97,120]⟩:ByteArray)]=A:=⟨_,rfl⟩
 have hA1':ae (aU true) [(⟨#[108,120]⟩:ByteArray),(⟨#[97,120]⟩:ByteArray)]=A1:=hA1
 have lA1:A1.size≤2:=by rw [← hA1];exact av (by decide)
 obtain ⟨A2,hA2⟩:∃ A,ae 0 [(⟨#[114]⟩:ByteArray),(⟨#[112]⟩:ByteArray)]=A:=⟨_,rfl⟩
 have hA2':ae 0 [(⟨#[114]⟩:ByteArray),(⟨#[112]⟩:ByteArray)]=A2:=hA2
 have lA2:A2.size≤1:=by rw [← hA2];exact av (by decide)
 obtain ⟨A5,hA5⟩:∃ A,ae b [(⟨#[98]⟩:ByteArray),(⟨#[104]⟩:ByteArray),(⟨#[]⟩:ByteArray),(⟨#[]⟩:ByteArray)]=A:=⟨_,rfl⟩
 have hA5':ae b [(⟨#[98]⟩:ByteArray),(⟨#[104]⟩:ByteArray),emp,emp]=A5:=hA5
 have lA5:A5.size≤1:=by rw [← hA5];exact av (by decide)
 have m0:A1.size+A2.size≤maxLen:=by unfold maxLen;omega
 have m1:2+(A1.size+A2.size)≤maxLen:=by unfold maxLen;omega
 have m2:2+(A1.size+A2.size)+A5.size≤maxLen:=by unfold maxLen;omega
 have z0:((⟨#[108,100]⟩:ByteArray)).size=2:=rfl
 have z1:((⟨#[114]⟩:ByteArray)).size=1:=rfl
 have z2:((⟨#[120]⟩:ByteArray)).size=1:=rfl
 simp only [go_sem,e2,n1,n2,n3,n4,n5,ByteArray.size_append,hA1,hA1',hA2,hA2',hA5,hA5',m0,m1,m2,z0,z1,z2]
 refine ab (ctx:=[⟨_,aB⟩,⟨_,cU⟩,⟨_,bC⟩,⟨_,bA⟩,⟨_,aG⟩,⟨_,aA⟩,⟨_,ap⟩]) ak ⟨[],[(5,[368]),(9,[432])],[(0,[368,432]),(6,[368]),(7,[368]),(8,[368])]⟩ (by kernel_rfl) ?_
 simp only [go_sem,e2,n1,n2,n3,n4,n5,ByteArray.size_append,hA1,hA1',hA2,hA2',hA5,hA5',m0,m1,m2,z0,z1,z2]
theorem Mr (rd rn rm ra b c:Int):SW Tryz.prog ⟨none,0⟩ Tryz.f77.ntmps (Tryz.f77.body.getD .skip) ⟨0,ag 0 [(ai ac).enc ⟨23,false,true,rd,rn,rm,ra,0,b,c⟩],[]⟩ (ax Tryz.prog Tryz.f77.results.toList (.ret (aj ((((⟨#[108,100]⟩:ByteArray)++((⟨#[120]⟩:ByteArray)++ae 0 [(⟨#[114]⟩:ByteArray),(⟨#[112]⟩:ByteArray)]))++ae b [(⟨#[98]⟩:ByteArray),(⟨#[104]⟩:ByteArray),emp,emp],[ah rd (decide (b=3)),be rn 0 0]))))):=by
 refine aa (ctx:=[⟨_,aB⟩,⟨_,cU⟩,⟨_,bC⟩,⟨_,bA⟩,⟨_,aG⟩,⟨_,aA⟩,⟨_,ap⟩]) 4000 ?_
 rw [Tryz.ntmps77,Tryz.results77]
 simp only [Tryz.f77,Option.getD_some,ag]
 have e2:=bH b 3
 have n1:(1:Nat)≤maxLen:=by unfold maxLen;omega
 have n2:(2:Nat)≤maxLen:=by unfold maxLen;omega
 have n3:(3:Nat)≤maxLen:=by unfold maxLen;omega
 have n4:(4:Nat)≤maxLen:=by unfold maxLen;omega
 have n5:(5:Nat)≤maxLen:=by unfold maxLen;omega
 obtain ⟨A2,hA2⟩:∃ A,ae 0 [(⟨#[114]⟩:ByteArray),(⟨#[112]⟩:ByteArray)]=A:=⟨_,rfl⟩
 have hA2':ae 0 [(⟨#[114]⟩:ByteArray),(⟨#[112]⟩:ByteArray)]=A2:=hA2
 have lA2:A2.size≤1:=by rw [← hA2];exact av (by decide)
 obtain ⟨A5,hA5⟩:∃ A,ae b [(⟨#[98]⟩:ByteArray),(⟨#[104]⟩:ByteArray),(⟨#[]⟩:ByteArray),(⟨#[]⟩:ByteArray)]=A:=⟨_,rfl⟩
 have hA5':ae b [(⟨#[98]⟩:ByteArray),(⟨#[104]⟩:ByteArray),emp,emp]=A5:=hA5
 have lA5:A5.size≤1:=by rw [← hA5];exact av (by decide)
 have m0:1+A2.size≤maxLen:=by unfold maxLen;omega
 have m1:2+(1+A2.size)≤maxLen:=by unfold maxLen;omega
 have m2:2+(1+A2.size)+A5.size≤maxLen:=by unfold maxLen;omega
 have z0:((⟨#[108,100]⟩:ByteArray)).size=2:=rfl
 have z1:((⟨#[114]⟩:ByteArray)).size=1:=rfl
 have z2:((⟨#[120]⟩:ByteArray)).size=1:=rfl
 simp only [go_sem,e2,n1,n2,n3,n4,n5,ByteArray.size_append,hA2,hA2',hA5,hA5',m0,m1,m2,z0,z1,z2]
theorem IZ (rd rn rm ra b c:Int):SW Tryz.prog ⟨none,0⟩ Tryz.f77.ntmps (Tryz.f77.body.getD .skip) ⟨0,ag 0 [(ai ac).enc ⟨23,true,true,rd,rn,rm,ra,1,b,c⟩],[]⟩ (ax Tryz.prog Tryz.f77.results.toList (.ret (aj ((((⟨#[108,100]⟩:ByteArray)++(ae (aU true) [(⟨#[108,120]⟩:ByteArray),(⟨#[97,120]⟩:ByteArray)]++ae 1 [(⟨#[114]⟩:ByteArray),(⟨#[112]⟩:ByteArray)]))++ae b [(⟨#[98]⟩:ByteArray),(⟨#[104]⟩:ByteArray),emp,emp],[ah rd (decide (b=3)),ah ra (decide (b=3)),be rn 0 0]))))):=by
 refine aa (ctx:=[⟨_,aB⟩,⟨_,cU⟩,⟨_,bC⟩,⟨_,bA⟩,⟨_,aG⟩,⟨_,aA⟩,⟨_,ap⟩]) 4000 ?_
 rw [Tryz.ntmps77,Tryz.results77]
 simp only [Tryz.f77,Option.getD_some,ag]
 have e2:=bH b 3
 have n1:(1:Nat)≤maxLen:=by unfold maxLen;omega
 have n2:(2:Nat)≤maxLen:=by unfold maxLen;omega
 have n3:(3:Nat)≤maxLen:=by unfold maxLen;omega
 have n4:(4:Nat)≤maxLen:=by unfold maxLen;omega
 have n5:(5:Nat)≤maxLen:=by unfold maxLen;omega
 obtain ⟨A1,hA1⟩:∃ A,ae (aU true) [(⟨#[108,120]⟩:ByteArray),(⟨#[97,120]⟩:ByteArray)]=A:=⟨_,rfl⟩
 have hA1':ae (aU true) [(⟨#[108,120]⟩:ByteArray),(⟨#[97,120]⟩:ByteArray)]=A1:=hA1
 have lA1:A1.size≤2:=by rw [← hA1];exact av (by decide)
 obtain ⟨A2,hA2⟩:∃ A,ae 1 [(⟨#[114]⟩:ByteArray),(⟨#[112]⟩:ByteArray)]=A:=⟨_,rfl⟩
 have hA2':ae 1 [(⟨#[114]⟩:ByteArray),(⟨#[112]⟩:ByteArray)]=A2:=hA2
 have lA2:A2.size≤1:=by rw [← hA2];exact av (by decide)
 obtain ⟨A5,hA5⟩:∃ A,ae b [(⟨#[98]⟩:ByteArray),(⟨#[104]⟩:ByteArray),(⟨#[]⟩:ByteArray),(⟨#[]⟩:ByteArray)]=A:=⟨_,rfl⟩
 have hA5':ae b [(⟨#[98]⟩:ByteArray),(⟨#[104]⟩:ByteArray),emp,emp]=A5:=hA5
 have lA5:A5.size≤1:=by rw [← hA5];exact av (by decide)
 have m0:A1.size+A2.size≤maxLen:=by unfold maxLen;omega
 have m1:2+(A1.size+A2.size)≤maxLen:=by unfold maxLen;omega
 have m2:2+(A1.size+A2.size)+A5.size≤maxLen:=by unfold maxLen;omega
 have z0:((⟨#[108,100]⟩:ByteArray)).size=2:=rfl
 have z1:((⟨#[114]⟩:ByteArray)).size=1:=rfl
 have z2:((⟨#[120]⟩:ByteArray)).size=1:=rfl
 simp only [go_sem,e2,n1,n2,n3,n4,n5,ByteArray.size_append,hA1,hA1',hA2,hA2',hA5,hA5',m0,m1,m2,z0,z1,z2]
 refine ab (ctx:=[⟨_,aB⟩,⟨_,cU⟩,⟨_,bC⟩,⟨_,bA⟩,⟨_,aG⟩,⟨_,aA⟩,⟨_,ap⟩]) ak ⟨[],[(5,[368]),(9,[432])],[(0,[368,432]),(6,[368]),(7,[368]),(8,[368])]⟩ (by kernel_rfl) ?_
 simp only [go_sem,e2,n1,n2,n3,n4,n5,ByteArray.size_append,hA1,hA1',hA2,hA2',hA5,hA5',m0,m1,m2,z0,z1,z2]
theorem L6 (rd rn rm ra b c:Int):SW Tryz.prog ⟨none,0⟩ Tryz.f77.ntmps (Tryz.f77.body.getD .skip) ⟨0,ag 0 [(ai ac).enc ⟨23,false,true,rd,rn,rm,ra,1,b,c⟩],[]⟩ (ax Tryz.prog Tryz.f77.results.toList (.ret (aj ((((⟨#[108,100]⟩:ByteArray)++((⟨#[120]⟩:ByteArray)++ae 1 [(⟨#[114]⟩:ByteArray),(⟨#[112]⟩:ByteArray)]))++ae b [(⟨#[98]⟩:ByteArray),(⟨#[104]⟩:ByteArray),emp,emp],[ah rd (decide (b=3)),ah ra (decide (b=3)),be rn 0 0]))))):=by
 refine aa (ctx:=[⟨_,aB⟩,⟨_,cU⟩,⟨_,bC⟩,⟨_,bA⟩,⟨_,aG⟩,⟨_,aA⟩,⟨_,ap⟩]) 4000 ?_
 rw [Tryz.ntmps77,Tryz.results77]
 simp only [Tryz.f77,Option.getD_some,ag]
 have e2:=bH b 3
 have n1:(1:Nat)≤maxLen:=by unfold maxLen;omega
 have n2:(2:Nat)≤maxLen:=by unfold maxLen;omega
 have n3:(3:Nat)≤maxLen:=by unfold maxLen;omega
 have n4:(4:Nat)≤maxLen:=by unfold maxLen;omega
 have n5:(5:Nat)≤maxLen:=by unfold maxLen;omega
 obtain ⟨A2,hA2⟩:∃ A,ae 1 [(⟨#[114]⟩:ByteArray),(⟨#[112]⟩:ByteArray)]=A:=⟨_,rfl⟩
 have hA2':ae 1 [(⟨#[114]⟩:ByteArray),(⟨#[112]⟩:ByteArray)]=A2:=hA2
 have lA2:A2.size≤1:=by rw [← hA2];exact av (by decide)
 obtain ⟨A5,hA5⟩:∃ A,ae b [(⟨#[98]⟩:ByteArray),(⟨#[104]⟩:ByteArray),(⟨#[]⟩:ByteArray),(⟨#[]⟩:ByteArray)]=A:=⟨_,rfl⟩
 have hA5':ae b [(⟨#[98]⟩:ByteArray),(⟨#[104]⟩:ByteArray),emp,emp]=A5:=hA5
 have lA5:A5.size≤1:=by rw [← hA5];exact av (by decide)
 have m0:1+A2.size≤maxLen:=by unfold maxLen;omega
 have m1:2+(1+A2.size)≤maxLen:=by unfold maxLen;omega
 have m2:2+(1+A2.size)+A5.size≤maxLen:=by unfold maxLen;omega
 have z0:((⟨#[108,100]⟩:ByteArray)).size=2:=rfl
 have z1:((⟨#[114]⟩:ByteArray)).size=1:=rfl
 have z2:((⟨#[120]⟩:ByteArray)).size=1:=rfl
 simp only [go_sem,e2,n1,n2,n3,n4,n5,ByteArray.size_append,hA2,hA2',hA5,hA5',m0,m1,m2,z0,z1,z2]
theorem Q8 (xx:Bool) (rd rn rm ra b c:Int):SW Tryz.prog ⟨none,0⟩ Tryz.f77.ntmps (Tryz.f77.body.getD .skip) ⟨0,ag 0 [(ai ac).enc ⟨23,xx,false,rd,rn,rm,ra,2,b,c⟩],[]⟩ (ax Tryz.prog Tryz.f77.results.toList (.ret (aj ((((⟨#[115,116]⟩:ByteArray)++(ae (aU false) [(⟨#[108]⟩:ByteArray),(⟨#[97]⟩:ByteArray)]++(⟨#[114]⟩:ByteArray)))++ae b [(⟨#[98]⟩:ByteArray),(⟨#[104]⟩:ByteArray),emp,emp],[ah rd (decide (b=3)),be rn 0 0]))))):=by
 refine aa (ctx:=[⟨_,aB⟩,⟨_,cU⟩,⟨_,bC⟩,⟨_,bA⟩,⟨_,aG⟩,⟨_,aA⟩,⟨_,ap⟩]) 4000 ?_
 rw [Tryz.ntmps77,Tryz.results77]
 simp only [Tryz.f77,Option.getD_some,ag]
 have e2:=bH b 3
 have n1:(1:Nat)≤maxLen:=by unfold maxLen;omega
 have n2:(2:Nat)≤maxLen:=by unfold maxLen;omega
 have n3:(3:Nat)≤maxLen:=by unfold maxLen;omega
 have n4:(4:Nat)≤maxLen:=by unfold maxLen;omega
 have n5:(5:Nat)≤maxLen:=by unfold maxLen;omega
 obtain ⟨A1,hA1⟩:∃ A,ae (aU false) [(⟨#[108]⟩:ByteArray),(⟨#[97]⟩:ByteArray)]=A:=⟨_,rfl⟩
 have hA1':ae (aU false) [(⟨#[108]⟩:ByteArray),(⟨#[97]⟩:ByteArray)]=A1:=hA1
 have lA1:A1.size≤1:=by rw [← hA1];exact av (by decide)
 obtain ⟨A5,hA5⟩:∃ A,ae b [(⟨#[98]⟩:ByteArray),(⟨#[104]⟩:ByteArray),(⟨#[]⟩:ByteArray),(⟨#[]⟩:ByteArray)]=A:=⟨_,rfl⟩
 have hA5':ae b [(⟨#[98]⟩:ByteArray),(⟨#[104]⟩:ByteArray),emp,emp]=A5:=hA5
 have lA5:A5.size≤1:=by rw [← hA5];exact av (by decide)
 have m0:A1.size+1≤maxLen:=by unfold maxLen;omega
 have m1:2+(A1.size+1)≤maxLen:=by unfold maxLen;omega
 have m2:2+(A1.size+1)+A5.size≤maxLen:=by unfold maxLen;omega
 have z0:((⟨#[115,116]⟩:ByteArray)).size=2:=rfl
 have z1:((⟨#[114]⟩:ByteArray)).size=1:=rfl
 have z2:((⟨#[120]⟩:ByteArray)).size=1:=rfl
 simp only [go_sem,e2,n1,n2,n3,n4,n5,ByteArray.size_append,hA1,hA1',hA5,hA5',m0,m1,m2,z0,z1,z2]
theorem KZ (rd rn rm ra b c:Int):SW Tryz.prog ⟨none,0⟩ Tryz.f77.ntmps (Tryz.f77.body.getD .skip) ⟨0,ag 0 [(ai ac).enc ⟨23,true,false,rd,rn,rm,ra,0,b,c⟩],[]⟩ (ax Tryz.prog Tryz.f77.results.toList (.ret (aj ((((⟨#[115,116]⟩:ByteArray)++(ae (aU false) [(⟨#[108,120]⟩:ByteArray),(⟨#[97,120]⟩:ByteArray)]++ae 0 [(⟨#[114]⟩:ByteArray),(⟨#[112]⟩:ByteArray)]))++ae b [(⟨#[98]⟩:ByteArray),(⟨#[104]⟩:ByteArray),emp,emp],[ah rm false,ah rd (decide (b=3)),be rn 0 0]))))):=by
 refine aa (ctx:=[⟨_,aB⟩,⟨_,cU⟩,⟨_,bC⟩,⟨_,bA⟩,⟨_,aG⟩,⟨_,aA⟩,⟨_,ap⟩]) 4000 ?_
 rw [Tryz.ntmps77,Tryz.results77]
 simp only [Tryz.f77,Option.getD_some,ag]
 have e2:=bH b 3
 have n1:(1:Nat)≤maxLen:=by unfold maxLen;omega
 have n2:(2:Nat)≤maxLen:=by unfold maxLen;omega
 have n3:(3:Nat)≤maxLen:=by unfold maxLen;omega
 have n4:(4:Nat)≤maxLen:=by unfold maxLen;omega
 have n5:(5:Nat)≤maxLen:=by unfold maxLen;omega
 obtain ⟨A1,hA1⟩:∃ A,ae (aU false) [(⟨#[108,120]⟩:ByteArray),(⟨#[97,120]⟩:ByteArray)]=A:=⟨_,rfl⟩
 have hA1':ae (aU false) [(⟨#[108,120]⟩:ByteArray),(⟨#[97,120]⟩:ByteArray)]=A1:=hA1
 have lA1:A1.size≤2:=by rw [← hA1];exact av (by decide)
 obtain ⟨A2,hA2⟩:∃ A,ae 0 [(⟨#[114]⟩:ByteArray),(⟨#[112]⟩:ByteArray)]=A:=⟨_,rfl⟩
 have hA2':ae 0 [(⟨#[114]⟩:ByteArray),(⟨#[112]⟩:ByteArray)]=A2:=hA2
 have lA2:A2.size≤1:=by rw [← hA2];exact av (by decide)
 obtain ⟨A5,hA5⟩:∃ A,ae b [(⟨#[98]⟩:ByteArray),(⟨#[104]⟩:ByteArray),(⟨#[]⟩:ByteArray),(⟨#[]⟩:ByteArray)]=A:=⟨_,rfl⟩
 have hA5':ae b [(⟨#[98]⟩:ByteArray),(⟨#[104]⟩:ByteArray),emp,emp]=A5:=hA5
 have lA5:A5.size≤1:=by rw [← hA5];exact av (by decide)
 have m0:A1.size+A2.size≤maxLen:=by unfold maxLen;omega
 have m1:2+(A1.size+A2.size)≤maxLen:=by unfold maxLen;omega
 have m2:2+(A1.size+A2.size)+A5.size≤maxLen:=by unfold maxLen;omega
 have z0:((⟨#[115,116]⟩:ByteArray)).size=2:=rfl
 have z1:((⟨#[114]⟩:ByteArray)).size=1:=rfl
 have z2:((⟨#[120]⟩:ByteArray)).size=1:=rfl
 simp only [go_sem,e2,n1,n2,n3,n4,n5,ByteArray.size_append,hA1,hA1',hA2,hA2',hA5,hA5',m0,m1,m2,z0,z1,z2]
 refine ab (ctx:=[⟨_,aB⟩,⟨_,cU⟩,⟨_,bC⟩,⟨_,bA⟩,⟨_,aG⟩,⟨_,aA⟩,⟨_,ap⟩]) ak ⟨[],[(5,[352]),(9,[416])],[(0,[352,416]),(6,[352]),(7,[352]),(8,[352])]⟩ (by kernel_rfl) ?_
 simp only [go_sem,e2,n1,n2,n3,n4,n5,ByteArray.size_append,hA1,hA1',hA2,hA2',hA5,hA5',m0,m1,m2,z0,z1,z2]
theorem Pl (rd rn rm ra b c:Int):SW Tryz.prog ⟨none,0⟩ Tryz.f77.ntmps (Tryz.f77.body.getD .skip) ⟨0,ag 0 [(ai ac).enc ⟨23,false,false,rd,rn,rm,ra,0,b,c⟩],[]⟩ (ax Tryz.prog Tryz.f77.results.toList (.ret (aj ((((⟨#[115,116]⟩:ByteArray)++((⟨#[120]⟩:ByteArray)++ae 0 [(⟨#[114]⟩:ByteArray),(⟨#[112]⟩:ByteArray)]))++ae b [(⟨#[98]⟩:ByteArray),(⟨#[104]⟩:ByteArray),emp,emp],[ah rm false,ah rd (decide (b=3)),be rn 0 0]))))):=by
 refine aa (ctx:=[⟨_,aB⟩,⟨_,cU⟩,⟨_,bC⟩,⟨_,bA⟩,⟨_,aG⟩,⟨_,aA⟩,⟨_,ap⟩]) 4000 ?_
 rw [Tryz.ntmps77,Tryz.results77]
 simp only [Tryz.f77,Option.getD_some,ag]
 have e2:=bH b 3
 have n1:(1:Nat)≤maxLen:=by unfold maxLen;omega
 have n2:(2:Nat)≤maxLen:=by unfold maxLen;omega
 have n3:(3:Nat)≤maxLen:=by unfold maxLen;omega
 have n4:(4:Nat)≤maxLen:=by unfold maxLen;omega
 have n5:(5:Nat)≤maxLen:=by unfold maxLen;omega
 obtain ⟨A2,hA2⟩:∃ A,ae 0 [(⟨#[114]⟩:ByteArray),(⟨#[112]⟩:ByteArray)]=A:=⟨_,rfl⟩
 have hA2':ae 0 [(⟨#[114]⟩:ByteArray),(⟨#[112]⟩:ByteArray)]=A2:=hA2
 have lA2:A2.size≤1:=by rw [← hA2];exact av (by decide)
 obtain ⟨A5,hA5⟩:∃ A,ae b [(⟨#[98]⟩:ByteArray),(⟨#[104]⟩:ByteArray),(⟨#[]⟩:ByteArray),(⟨#[]⟩:ByteArray)]=A:=⟨_,rfl⟩
 have hA5':ae b [(⟨#[98]⟩:ByteArray),(⟨#[104]⟩:ByteArray),emp,emp]=A5:=hA5
 have lA5:A5.size≤1:=by rw [← hA5];exact av (by decide)
 have m0:1+A2.size≤maxLen:=by unfold maxLen;omega
 have m1:2+(1+A2.size)≤maxLen:=by unfold maxLen;omega
 have m2:2+(1+A2.size)+A5.size≤maxLen:=by unfold maxLen;omega
 have z0:((⟨#[115,116]⟩:ByteArray)).size=2:=rfl
 have z1:((⟨#[114]⟩:ByteArray)).size=1:=rfl
 have z2:((⟨#[120]⟩:ByteArray)).size=1:=rfl
 simp only [go_sem,e2,n1,n2,n3,n4,n5,ByteArray.size_append,hA2,hA2',hA5,hA5',m0,m1,m2,z0,z1,z2]
theorem LQ (rd rn rm ra b c:Int):SW Tryz.prog ⟨none,0⟩ Tryz.f77.ntmps (Tryz.f77.body.getD .skip) ⟨0,ag 0 [(ai ac).enc ⟨23,true,false,rd,rn,rm,ra,1,b,c⟩],[]⟩ (ax Tryz.prog Tryz.f77.results.toList (.ret (aj ((((⟨#[115,116]⟩:ByteArray)++(ae (aU false) [(⟨#[108,120]⟩:ByteArray),(⟨#[97,120]⟩:ByteArray)]++ae 1 [(⟨#[114]⟩:ByteArray),(⟨#[112]⟩:ByteArray)]))++ae b [(⟨#[98]⟩:ByteArray),(⟨#[104]⟩:ByteArray),emp,emp],[ah rm false,ah rd (decide (b=3)),ah ra (decide (b=3)),be rn 0 0]))))):=by
 refine aa (ctx:=[⟨_,aB⟩,⟨_,cU⟩,⟨_,bC⟩,⟨_,bA⟩,⟨_,aG⟩,⟨_,aA⟩,⟨_,ap⟩]) 4000 ?_
 rw [Tryz.ntmps77,Tryz.results77]
 simp only [Tryz.f77,Option.getD_some,ag]
 have e2:=bH b 3
 have n1:(1:Nat)≤maxLen:=by unfold maxLen;omega
 have n2:(2:Nat)≤maxLen:=by unfold maxLen;omega
 have n3:(3:Nat)≤maxLen:=by unfold maxLen;omega
 have n4:(4:Nat)≤maxLen:=by unfold maxLen;omega
 have n5:(5:Nat)≤maxLen:=by unfold maxLen;omega
 obtain ⟨A1,hA1⟩:∃ A,ae (aU false) [(⟨#[108,120]⟩:ByteArray),(⟨#[97,120]⟩:ByteArray)]=A:=⟨_,rfl⟩
 have hA1':ae (aU false) [(⟨#[108,120]⟩:ByteArray),(⟨#[97,120]⟩:ByteArray)]=A1:=hA1
 have lA1:A1.size≤2:=by rw [← hA1];exact av (by decide)
 obtain ⟨A2,hA2⟩:∃ A,ae 1 [(⟨#[114]⟩:ByteArray),(⟨#[112]⟩:ByteArray)]=A:=⟨_,rfl⟩
 have hA2':ae 1 [(⟨#[114]⟩:ByteArray),(⟨#[112]⟩:ByteArray)]=A2:=hA2
 have lA2:A2.size≤1:=by rw [← hA2];exact av (by decide)
 obtain ⟨A5,hA5⟩:∃ A,ae b [(⟨#[98]⟩:ByteArray),(⟨#[104]⟩:ByteArray),(⟨#[]⟩:ByteArray),(⟨#[]⟩:ByteArray)]=A:=⟨_,rfl⟩
 have hA5':ae b [(⟨#[98]⟩:ByteArray),(⟨#[104]⟩:ByteArray),emp,emp]=A5:=hA5
 have lA5:A5.size≤1:=by rw [← hA5];exact av (by decide)
 have m0:A1.size+A2.size≤maxLen:=by unfold maxLen;omega
 have m1:2+(A1.size+A2.size)≤maxLen:=by unfold maxLen;omega
 have m2:2+(A1.size+A2.size)+A5.size≤maxLen:=by unfold maxLen;omega
 have z0:((⟨#[115,116]⟩:ByteArray)).size=2:=rfl
 have z1:((⟨#[114]⟩:ByteArray)).size=1:=rfl
 have z2:((⟨#[120]⟩:ByteArray)).size=1:=rfl
 simp only [go_sem,e2,n1,n2,n3,n4,n5,ByteArray.size_append,hA1,hA1',hA2,hA2',hA5,hA5',m0,m1,m2,z0,z1,z2]
 refine ab (ctx:=[⟨_,aB⟩,⟨_,cU⟩,⟨_,bC⟩,⟨_,bA⟩,⟨_,aG⟩,⟨_,aA⟩,⟨_,ap⟩]) ak ⟨[],[(5,[352]),(9,[416])],[(0,[352,416]),(6,[352]),(7,[352]),(8,[352])]⟩ (by kernel_rfl) ?_
 simp only [go_sem,e2,n1,n2,n3,n4,n5,ByteArray.size_append,hA1,hA1',hA2,hA2',hA5,hA5',m0,m1,m2,z0,z1,z2]
theorem QA (rd rn rm ra b c:Int):SW Tryz.prog ⟨none,0⟩ Tryz.f77.ntmps (Tryz.f77.body.getD .skip) ⟨0,ag 0 [(ai ac).enc ⟨23,false,false,rd,rn,rm,ra,1,b,c⟩],[]⟩ (ax Tryz.prog Tryz.f77.results.toList (.ret (aj ((((⟨#[115,116]⟩:ByteArray)++((⟨#[120]⟩:ByteArray)++ae 1 [(⟨#[114]⟩:ByteArray),(⟨#[112]⟩:ByteArray)]))++ae b [(⟨#[98]⟩:ByteArray),(⟨#[104]⟩:ByteArray),emp,emp],[ah rm false,ah rd (decide (b=3)),ah ra (decide (b=3)),be rn 0 0]))))):=by
 refine aa (ctx:=[⟨_,aB⟩,⟨_,cU⟩,⟨_,bC⟩,⟨_,bA⟩,⟨_,aG⟩,⟨_,aA⟩,⟨_,ap⟩]) 4000 ?_
 rw [Tryz.ntmps77,Tryz.results77]
 simp only [Tryz.f77,Option.getD_some,ag]
 have e2:=bH b 3
 have n1:(1:Nat)≤maxLen:=by unfold maxLen;omega
 have n2:(2:Nat)≤maxLen:=by unfold maxLen;omega
 have n3:(3:Nat)≤maxLen:=by unfold maxLen;omega
 have n4:(4:Nat)≤maxLen:=by unfold maxLen;omega
 have n5:(5:Nat)≤maxLen:=by unfold maxLen;omega
 obtain ⟨A2,hA2⟩:∃ A,ae 1 [(⟨#[114]⟩:ByteArray),(⟨#[112]⟩:ByteArray)]=A:=⟨_,rfl⟩
 have hA2':ae 1 [(⟨#[114]⟩:ByteArray),(⟨#[112]⟩:ByteArray)]=A2:=hA2
 have lA2:A2.size≤1:=by rw [← hA2];exact av (by decide)
 obtain ⟨A5,hA5⟩:∃ A,ae b [(⟨#[98]⟩:ByteArray),(⟨#[104]⟩:ByteArray),(⟨#[]⟩:ByteArray),(⟨#[]⟩:ByteArray)]=A:=⟨_,rfl⟩
 have hA5':ae b [(⟨#[98]⟩:ByteArray),(⟨#[104]⟩:ByteArray),emp,emp]=A5:=hA5
 have lA5:A5.size≤1:=by rw [← hA5];exact av (by decide)
 have m0:1+A2.size≤maxLen:=by unfold maxLen;omega
 have m1:2+(1+A2.size)≤maxLen:=by unfold maxLen;omega
 have m2:2+(1+A2.size)+A5.size≤maxLen:=by unfold maxLen;omega
 have z0:((⟨#[115,116]⟩:ByteArray)).size=2:=rfl
 have z1:((⟨#[114]⟩:ByteArray)).size=1:=rfl
 have z2:((⟨#[120]⟩:ByteArray)).size=1:=rfl
 simp only [go_sem,e2,n1,n2,n3,n4,n5,ByteArray.size_append,hA2,hA2',hA5,hA5',m0,m1,m2,z0,z1,z2]
end Go.Proofs.YtpjlafmhoifkmaaGreat
