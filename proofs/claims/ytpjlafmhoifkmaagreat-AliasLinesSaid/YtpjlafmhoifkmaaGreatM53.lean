import Derived.Test.YtpjlafmhoifkmaaGreatM47
import Derived.Test.YtpjlafmhoifkmaaGreatM11
set_option linter.unusedVariables false
set_option linter.unusedSimpArgs false
set_option maxRecDepth 100000
set_option maxHeartbeats 8000000
namespace Go.Proofs.YtpjlafmhoifkmaaGreat
open Go.RowKit
def fi:Ctx Tryz.prog:=[⟨_,aB⟩,⟨_,ct⟩,⟨_,dl⟩,⟨_,bO⟩,⟨_,aA⟩,⟨_,ap⟩,⟨_,iZ⟩]
attribute [local go_sem] ag dX d7 dQ dR eV eT fS gb gW gT gV gY eD eB fZ fW ek eh dp dq dJ dI eX eS bU bW bu aC aH bm fN cy gL opV opR opE ah oSP aw oTo oOf cw be op0 r0 emp co gOf aD aF aI aj alO ac fi jf jg
theorem QQ (rn rm ra a b c:Int) (hw:¬c=2) (hc:0≤c∧c≤7):Lf Tryz.f36 [(ai ac).enc ⟨26,false,true,31,rn,rm,ra,a,b,c⟩] (.ret (alO (.ln (ae b [(⟨#[99,109,110]⟩:ByteArray),(⟨#[99,109,112]⟩:ByteArray)],[oSP rn false,dK ⟨26,false,true,31,rn,rm,ra,a,b,c⟩]) true))):=by
 refine Lf.go (ctx:=fi) Tryz.ntmps36 Tryz.results36 rfl ?_
 simp only [go_sem,b0 hw,hc.1,hc.2]
 refine ab (ctx:=fi) ak ⟨[11,12],[(3,[1616])],[(4,[1616]),(5,[1616]),(6,[1616]),(7,[1616]),(9,[1616])]⟩ (by kernel_rfl) ?_
 simp only [go_sem,b0 hw,hc.1,hc.2]
theorem PM (rd rn rm ra a b c:Int) (hw:¬c=2) (hd:¬rd=31) (hc:0≤c∧c≤7):Lf Tryz.f36 [(ai ac).enc ⟨26,false,true,rd,rn,rm,ra,a,b,c⟩] (.ret (alO (.ln (cJ (ae b [(⟨#[97,100,100]⟩:ByteArray),(⟨#[115,117,98]⟩:ByteArray)]) true (⟨#[115]⟩:ByteArray),[spF (!true) rd false,oSP rn false,dK ⟨26,false,true,rd,rn,rm,ra,a,b,c⟩]) true))):=by
 refine Lf.go (ctx:=fi) Tryz.ntmps36 Tryz.results36 rfl ?_
 have pz:(ae b [(⟨#[97,100,100]⟩:ByteArray),(⟨#[115,117,98]⟩:ByteArray)]).size≤1000:=Nat.le_trans (av (k:=10) (by decide)) (by decide)
 simp only [go_sem,b0 hw,b0 hd,hc.1,hc.2,pz]
 refine ab (ctx:=fi) ak ⟨[22,23],[(3,[1616])],[(4,[1616]),(5,[1616]),(7,[1616]),(8,[1616]),(9,[1616]),(10,[1616]),(11,[1616]),(12,[1616]),(13,[1616]),(15,[1616]),(16,[1616]),(17,[1616]),(18,[1616]),(20,[1616])]⟩ (by kernel_rfl) ?_
 simp only [go_sem,b0 hw,b0 hd,hc.1,hc.2,pz]
theorem PI (rd rn rm ra a b c:Int) (hw:¬c=2) (hc:0≤c∧c≤7):Lf Tryz.f36 [(ai ac).enc ⟨26,false,false,rd,rn,rm,ra,a,b,c⟩] (.ret (alO (.ln (cJ (ae b [(⟨#[97,100,100]⟩:ByteArray),(⟨#[115,117,98]⟩:ByteArray)]) false (⟨#[115]⟩:ByteArray),[spF (!false) rd false,oSP rn false,dK ⟨26,false,false,rd,rn,rm,ra,a,b,c⟩]) true))):=by
 refine Lf.go (ctx:=fi) Tryz.ntmps36 Tryz.results36 rfl ?_
 have pz:(ae b [(⟨#[97,100,100]⟩:ByteArray),(⟨#[115,117,98]⟩:ByteArray)]).size≤1000:=Nat.le_trans (av (k:=10) (by decide)) (by decide)
 simp only [go_sem,b0 hw,hc.1,hc.2,pz]
 refine ab (ctx:=fi) ak ⟨[22,23],[(3,[1568])],[(4,[1568]),(5,[1568]),(7,[1568]),(8,[1568]),(9,[1568]),(10,[1568]),(11,[1568]),(12,[1568]),(13,[1568]),(15,[1568]),(16,[1568]),(17,[1568]),(18,[1568]),(20,[1568])]⟩ (by kernel_rfl) ?_
 simp only [go_sem,b0 hw,hc.1,hc.2,pz]
theorem L4 (rm ra b:Int) (hc:(0:Int)≤2∧(2:Int)≤7):Lf Tryz.f36 [(ai ac).enc ⟨26,false,true,31,31,rm,ra,0,b,2⟩] (.ret (alO (.ln (ae b [(⟨#[99,109,110]⟩:ByteArray),(⟨#[99,109,112]⟩:ByteArray)],[oSP 31 false,{ dK ⟨26,false,true,31,31,rm,ra,0,b,2⟩ with md:=0 }]) true))):=by
 refine Lf.go (ctx:=fi) Tryz.ntmps36 Tryz.results36 rfl ?_
 simp only [go_sem,hc.1,hc.2]
 refine ab (ctx:=fi) ak ⟨[11,12],[(3,[1808])],[(4,[1808]),(5,[1808]),(6,[1808]),(7,[1808]),(9,[1808])]⟩ (by kernel_rfl) ?_
 simp only [go_sem,hc.1,hc.2]
theorem Lt (rm ra a b:Int) (h0:¬a=0) (hc:(0:Int)≤2∧(2:Int)≤7):Lf Tryz.f36 [(ai ac).enc ⟨26,false,true,31,31,rm,ra,a,b,2⟩] (.ret (alO (.ln (ae b [(⟨#[99,109,110]⟩:ByteArray),(⟨#[99,109,112]⟩:ByteArray)],[oSP 31 false,{ dK ⟨26,false,true,31,31,rm,ra,a,b,2⟩ with md:=1 }]) true))):=by
 refine Lf.go (ctx:=fi) Tryz.ntmps36 Tryz.results36 rfl ?_
 simp only [go_sem,b0 h0,hc.1,hc.2]
 refine ab (ctx:=fi) ak ⟨[11,12],[(3,[1776])],[(4,[1776]),(5,[1776]),(6,[1776]),(7,[1776]),(9,[1776])]⟩ (by kernel_rfl) ?_
 simp only [go_sem,b0 h0,hc.1,hc.2]
theorem Lp (rd rm ra b:Int) (hd:¬rd=31) (hc:(0:Int)≤2∧(2:Int)≤7):Lf Tryz.f36 [(ai ac).enc ⟨26,false,true,rd,31,rm,ra,0,b,2⟩] (.ret (alO (.ln (cJ (ae b [(⟨#[97,100,100]⟩:ByteArray),(⟨#[115,117,98]⟩:ByteArray)]) true (⟨#[115]⟩:ByteArray),[spF (!true) rd false,oSP 31 false,{ dK ⟨26,false,true,rd,31,rm,ra,0,b,2⟩ with md:=0 }]) true))):=by
 refine Lf.go (ctx:=fi) Tryz.ntmps36 Tryz.results36 rfl ?_
 have pz:(ae b [(⟨#[97,100,100]⟩:ByteArray),(⟨#[115,117,98]⟩:ByteArray)]).size≤1000:=Nat.le_trans (av (k:=10) (by decide)) (by decide)
 simp only [go_sem,b0 hd,hc.1,hc.2,pz]
 refine ab (ctx:=fi) ak ⟨[22,23],[(3,[1808])],[(4,[1808]),(5,[1808]),(7,[1808]),(8,[1808]),(9,[1808]),(10,[1808]),(11,[1808]),(12,[1808]),(13,[1808]),(15,[1808]),(16,[1808]),(17,[1808]),(18,[1808]),(20,[1808])]⟩ (by kernel_rfl) ?_
 simp only [go_sem,b0 hd,hc.1,hc.2,pz]
theorem ND (rd rm ra a b:Int) (hd:¬rd=31) (h0:¬a=0) (hc:(0:Int)≤2∧(2:Int)≤7):Lf Tryz.f36 [(ai ac).enc ⟨26,false,true,rd,31,rm,ra,a,b,2⟩] (.ret (alO (.ln (cJ (ae b [(⟨#[97,100,100]⟩:ByteArray),(⟨#[115,117,98]⟩:ByteArray)]) true (⟨#[115]⟩:ByteArray),[spF (!true) rd false,oSP 31 false,{ dK ⟨26,false,true,rd,31,rm,ra,a,b,2⟩ with md:=1 }]) true))):=by
 refine Lf.go (ctx:=fi) Tryz.ntmps36 Tryz.results36 rfl ?_
 have pz:(ae b [(⟨#[97,100,100]⟩:ByteArray),(⟨#[115,117,98]⟩:ByteArray)]).size≤1000:=Nat.le_trans (av (k:=10) (by decide)) (by decide)
 simp only [go_sem,b0 h0,b0 hd,hc.1,hc.2,pz]
 refine ab (ctx:=fi) ak ⟨[22,23],[(3,[1776])],[(4,[1776]),(5,[1776]),(7,[1776]),(8,[1776]),(9,[1776]),(10,[1776]),(11,[1776]),(12,[1776]),(13,[1776]),(15,[1776]),(16,[1776]),(17,[1776]),(18,[1776]),(20,[1776])]⟩ (by kernel_rfl) ?_
 simp only [go_sem,b0 h0,b0 hd,hc.1,hc.2,pz]
theorem Lk (rd rm ra b:Int) (hc:(0:Int)≤2∧(2:Int)≤7):Lf Tryz.f36 [(ai ac).enc ⟨26,false,false,rd,31,rm,ra,0,b,2⟩] (.ret (alO (.ln (cJ (ae b [(⟨#[97,100,100]⟩:ByteArray),(⟨#[115,117,98]⟩:ByteArray)]) false (⟨#[115]⟩:ByteArray),[spF (!false) rd false,oSP 31 false,{ dK ⟨26,false,false,rd,31,rm,ra,0,b,2⟩ with md:=0 }]) true))):=by
 refine Lf.go (ctx:=fi) Tryz.ntmps36 Tryz.results36 rfl ?_
 have pz:(ae b [(⟨#[97,100,100]⟩:ByteArray),(⟨#[115,117,98]⟩:ByteArray)]).size≤1000:=Nat.le_trans (av (k:=10) (by decide)) (by decide)
 simp only [go_sem,hc.1,hc.2,pz]
 refine ab (ctx:=fi) ak ⟨[22,23],[(3,[1760])],[(4,[1760]),(5,[1760]),(7,[1760]),(8,[1760]),(9,[1760]),(10,[1760]),(11,[1760]),(12,[1760]),(13,[1760]),(15,[1760]),(16,[1760]),(17,[1760]),(18,[1760]),(20,[1760])]⟩ (by kernel_rfl) ?_
 simp only [go_sem,hc.1,hc.2,pz]
theorem K0 (rd rm ra a b:Int) (h0:¬a=0) (hc:(0:Int)≤2∧(2:Int)≤7):Lf Tryz.f36 [(ai ac).enc ⟨26,false,false,rd,31,rm,ra,a,b,2⟩] (.ret (alO (.ln (cJ (ae b [(⟨#[97,100,100]⟩:ByteArray),(⟨#[115,117,98]⟩:ByteArray)]) false (⟨#[115]⟩:ByteArray),[spF (!false) rd false,oSP 31 false,{ dK ⟨26,false,false,rd,31,rm,ra,a,b,2⟩ with md:=1 }]) true))):=by
 refine Lf.go (ctx:=fi) Tryz.ntmps36 Tryz.results36 rfl ?_
 have pz:(ae b [(⟨#[97,100,100]⟩:ByteArray),(⟨#[115,117,98]⟩:ByteArray)]).size≤1000:=Nat.le_trans (av (k:=10) (by decide)) (by decide)
 simp only [go_sem,b0 h0,hc.1,hc.2,pz]
 refine ab (ctx:=fi) ak ⟨[22,23],[(3,[1728])],[(4,[1728]),(5,[1728]),(7,[1728]),(8,[1728]),(9,[1728]),(10,[1728]),(11,[1728]),(12,[1728]),(13,[1728]),(15,[1728]),(16,[1728]),(17,[1728]),(18,[1728]),(20,[1728])]⟩ (by kernel_rfl) ?_
 simp only [go_sem,b0 h0,hc.1,hc.2,pz]
theorem Rp (rn rm ra a b:Int) (hn:¬rn=31) (hc:(0:Int)≤2∧(2:Int)≤7):Lf Tryz.f36 [(ai ac).enc ⟨26,false,true,31,rn,rm,ra,a,b,2⟩] (.ret (alO (.ln (ae b [(⟨#[99,109,110]⟩:ByteArray),(⟨#[99,109,112]⟩:ByteArray)],[oSP rn false,dK ⟨26,false,true,31,rn,rm,ra,a,b,2⟩]) true))):=by
 refine Lf.go (ctx:=fi) Tryz.ntmps36 Tryz.results36 rfl ?_
 simp only [go_sem,b0 hn,hc.1,hc.2]
 refine ab (ctx:=fi) ak ⟨[11,12],[(3,[1824])],[(4,[1824]),(5,[1824]),(6,[1824]),(7,[1824]),(9,[1824])]⟩ (by kernel_rfl) ?_
 simp only [go_sem,b0 hn,hc.1,hc.2]
theorem OH (rd rn rm ra a b:Int) (hn:¬rn=31) (hd:¬rd=31) (hc:(0:Int)≤2∧(2:Int)≤7):Lf Tryz.f36 [(ai ac).enc ⟨26,false,true,rd,rn,rm,ra,a,b,2⟩] (.ret (alO (.ln (cJ (ae b [(⟨#[97,100,100]⟩:ByteArray),(⟨#[115,117,98]⟩:ByteArray)]) true (⟨#[115]⟩:ByteArray),[spF (!true) rd false,oSP rn false,dK ⟨26,false,true,rd,rn,rm,ra,a,b,2⟩]) true))):=by
 refine Lf.go (ctx:=fi) Tryz.ntmps36 Tryz.results36 rfl ?_
 have pz:(ae b [(⟨#[97,100,100]⟩:ByteArray),(⟨#[115,117,98]⟩:ByteArray)]).size≤1000:=Nat.le_trans (av (k:=10) (by decide)) (by decide)
 simp only [go_sem,b0 hn,b0 hd,hc.1,hc.2,pz]
 refine ab (ctx:=fi) ak ⟨[22,23],[(3,[1776])],[(4,[1776]),(5,[1776]),(7,[1776]),(8,[1776]),(9,[1776]),(10,[1776]),(11,[1776]),(12,[1776]),(13,[1776]),(15,[1776]),(16,[1776]),(17,[1776]),(18,[1776]),(20,[1776])]⟩ (by kernel_rfl) ?_
 simp only [go_sem,b0 hn,b0 hd,hc.1,hc.2,pz]
theorem Mg (rn rm ra b:Int) (hn:¬rn=31) (hc:(0:Int)≤2∧(2:Int)≤7):Lf Tryz.f36 [(ai ac).enc ⟨26,false,false,31,rn,rm,ra,0,b,2⟩] (.ret (alO (.ln (cJ (ae b [(⟨#[97,100,100]⟩:ByteArray),(⟨#[115,117,98]⟩:ByteArray)]) false (⟨#[115]⟩:ByteArray),[spF (!false) 31 false,oSP rn false,{ dK ⟨26,false,false,31,rn,rm,ra,0,b,2⟩ with md:=0 }]) true))):=by
 refine Lf.go (ctx:=fi) Tryz.ntmps36 Tryz.results36 rfl ?_
 have pz:(ae b [(⟨#[97,100,100]⟩:ByteArray),(⟨#[115,117,98]⟩:ByteArray)]).size≤1000:=Nat.le_trans (av (k:=10) (by decide)) (by decide)
 simp only [go_sem,b0 hn,hc.1,hc.2,pz]
 refine ab (ctx:=fi) ak ⟨[22,23],[(3,[1888])],[(4,[1888]),(5,[1888]),(7,[1888]),(8,[1888]),(9,[1888]),(10,[1888]),(11,[1888]),(12,[1888]),(13,[1888]),(15,[1888]),(16,[1888]),(17,[1888]),(18,[1888]),(20,[1888])]⟩ (by kernel_rfl) ?_
 simp only [go_sem,b0 hn,hc.1,hc.2,pz]
theorem Lg (rn rm ra a b:Int) (hn:¬rn=31) (h0:¬a=0) (hc:(0:Int)≤2∧(2:Int)≤7):Lf Tryz.f36 [(ai ac).enc ⟨26,false,false,31,rn,rm,ra,a,b,2⟩] (.ret (alO (.ln (cJ (ae b [(⟨#[97,100,100]⟩:ByteArray),(⟨#[115,117,98]⟩:ByteArray)]) false (⟨#[115]⟩:ByteArray),[spF (!false) 31 false,oSP rn false,{ dK ⟨26,false,false,31,rn,rm,ra,a,b,2⟩ with md:=1 }]) true))):=by
 refine Lf.go (ctx:=fi) Tryz.ntmps36 Tryz.results36 rfl ?_
 have pz:(ae b [(⟨#[97,100,100]⟩:ByteArray),(⟨#[115,117,98]⟩:ByteArray)]).size≤1000:=Nat.le_trans (av (k:=10) (by decide)) (by decide)
 simp only [go_sem,b0 hn,b0 h0,hc.1,hc.2,pz]
 refine ab (ctx:=fi) ak ⟨[22,23],[(3,[1856])],[(4,[1856]),(5,[1856]),(7,[1856]),(8,[1856]),(9,[1856]),(10,[1856]),(11,[1856]),(12,[1856]),(13,[1856]),(15,[1856]),(16,[1856]),(17,[1856]),(18,[1856]),(20,[1856])]⟩ (by kernel_rfl) ?_
 simp only [go_sem,b0 hn,b0 h0,hc.1,hc.2,pz]
theorem N8 (rd rn rm ra a b:Int) (hn:¬rn=31) (hd:¬rd=31) (hc:(0:Int)≤2∧(2:Int)≤7):Lf Tryz.f36 [(ai ac).enc ⟨26,false,false,rd,rn,rm,ra,a,b,2⟩] (.ret (alO (.ln (cJ (ae b [(⟨#[97,100,100]⟩:ByteArray),(⟨#[115,117,98]⟩:ByteArray)]) false (⟨#[115]⟩:ByteArray),[spF (!false) rd false,oSP rn false,dK ⟨26,false,false,rd,rn,rm,ra,a,b,2⟩]) true))):=by
 refine Lf.go (ctx:=fi) Tryz.ntmps36 Tryz.results36 rfl ?_
 have pz:(ae b [(⟨#[97,100,100]⟩:ByteArray),(⟨#[115,117,98]⟩:ByteArray)]).size≤1000:=Nat.le_trans (av (k:=10) (by decide)) (by decide)
 simp only [go_sem,b0 hn,b0 hd,hc.1,hc.2,pz]
 refine ab (ctx:=fi) ak ⟨[22,23],[(3,[1728])],[(4,[1728]),(5,[1728]),(7,[1728]),(8,[1728]),(9,[1728]),(10,[1728]),(11,[1728]),(12,[1728]),(13,[1728]),(15,[1728]),(16,[1728]),(17,[1728]),(18,[1728]),(20,[1728])]⟩ (by kernel_rfl) ?_
 simp only [go_sem,b0 hn,b0 hd,hc.1,hc.2,pz]
end Go.Proofs.YtpjlafmhoifkmaaGreat
