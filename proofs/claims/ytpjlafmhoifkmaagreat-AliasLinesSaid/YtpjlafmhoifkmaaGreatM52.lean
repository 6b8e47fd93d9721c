import Derived.Test.YtpjlafmhoifkmaaGreatM47
import Derived.Test.YtpjlafmhoifkmaaGreatM11
set_option linter.unusedVariables false
set_option linter.unusedSimpArgs false
set_option maxRecDepth 100000
set_option maxHeartbeats 8000000
namespace Go.Proofs.YtpjlafmhoifkmaaGreat
open Go.RowKit
def fg:Ctx Tryz.prog:=[⟨_,aB⟩,⟨_,ct⟩,⟨_,dl⟩,⟨_,bO⟩,⟨_,aA⟩,⟨_,ap⟩,⟨_,iZ⟩]
attribute [local go_sem] ag dX d7 dQ dR eV eT fS gb gW gT gV gY eD eB fZ fW ek eh dp dq dJ dI eX eS bU bW bu aC aH bm fN cy gL opV opR opE ah oSP aw oTo oOf cw be op0 r0 emp co gOf aD aF aI aj alO ac fg jf jg
theorem NH (rn rm ra a b c:Int) (hw:¬c=3) (hc:0≤c∧c≤7):Lf Tryz.f36 [(ai ac).enc ⟨26,true,true,31,rn,rm,ra,a,b,c⟩] (.ret (alO (.ln (ae b [(⟨#[99,109,110]⟩:ByteArray),(⟨#[99,109,112]⟩:ByteArray)],[oSP rn true,dK ⟨26,true,true,31,rn,rm,ra,a,b,c⟩]) true))):=by
 refine Lf.go (ctx:=fg) Tryz.ntmps36 Tryz.results36 rfl ?_
 simp only [go_sem,b0 hw,hc.1,hc.2]
 refine ab (ctx:=fg) ak ⟨[11,12],[(3,[1632])],[(4,[1632]),(5,[1632]),(6,[1632]),(7,[1632]),(9,[1632])]⟩ (by kernel_rfl) ?_
 simp only [go_sem,b0 hw,hc.1,hc.2]
theorem LA (rd rn rm ra a b c:Int) (hw:¬c=3) (hd:¬rd=31) (hc:0≤c∧c≤7):Lf Tryz.f36 [(ai ac).enc ⟨26,true,true,rd,rn,rm,ra,a,b,c⟩] (.ret (alO (.ln (cJ (ae b [(⟨#[97,100,100]⟩:ByteArray),(⟨#[115,117,98]⟩:ByteArray)]) true (⟨#[115]⟩:ByteArray),[spF (!true) rd true,oSP rn true,dK ⟨26,true,true,rd,rn,rm,ra,a,b,c⟩]) true))):=by
 refine Lf.go (ctx:=fg) Tryz.ntmps36 Tryz.results36 rfl ?_
 have pz:(ae b [(⟨#[97,100,100]⟩:ByteArray),(⟨#[115,117,98]⟩:ByteArray)]).size≤1000:=Nat.le_trans (av (k:=10) (by decide)) (by decide)
 simp only [go_sem,b0 hw,b0 hd,hc.1,hc.2,pz]
 refine ab (ctx:=fg) ak ⟨[22,23],[(3,[1632])],[(4,[1632]),(5,[1632]),(7,[1632]),(8,[1632]),(9,[1632]),(10,[1632]),(11,[1632]),(12,[1632]),(13,[1632]),(15,[1632]),(16,[1632]),(17,[1632]),(18,[1632]),(20,[1632])]⟩ (by kernel_rfl) ?_
 simp only [go_sem,b0 hw,b0 hd,hc.1,hc.2,pz]
theorem Lj (rd rn rm ra a b c:Int) (hw:¬c=3) (hc:0≤c∧c≤7):Lf Tryz.f36 [(ai ac).enc ⟨26,true,false,rd,rn,rm,ra,a,b,c⟩] (.ret (alO (.ln (cJ (ae b [(⟨#[97,100,100]⟩:ByteArray),(⟨#[115,117,98]⟩:ByteArray)]) false (⟨#[115]⟩:ByteArray),[spF (!false) rd true,oSP rn true,dK ⟨26,true,false,rd,rn,rm,ra,a,b,c⟩]) true))):=by
 refine Lf.go (ctx:=fg) Tryz.ntmps36 Tryz.results36 rfl ?_
 have pz:(ae b [(⟨#[97,100,100]⟩:ByteArray),(⟨#[115,117,98]⟩:ByteArray)]).size≤1000:=Nat.le_trans (av (k:=10) (by decide)) (by decide)
 simp only [go_sem,b0 hw,hc.1,hc.2,pz]
 refine ab (ctx:=fg) ak ⟨[22,23],[(3,[1584])],[(4,[1584]),(5,[1584]),(7,[1584]),(8,[1584]),(9,[1584]),(10,[1584]),(11,[1584]),(12,[1584]),(13,[1584]),(15,[1584]),(16,[1584]),(17,[1584]),(18,[1584]),(20,[1584])]⟩ (by kernel_rfl) ?_
 simp only [go_sem,b0 hw,hc.1,hc.2,pz]
theorem H7 (rm ra b:Int) (hc:(0:Int)≤3∧(3:Int)≤7):Lf Tryz.f36 [(ai ac).enc ⟨26,true,true,31,31,rm,ra,0,b,3⟩] (.ret (alO (.ln (ae b [(⟨#[99,109,110]⟩:ByteArray),(⟨#[99,109,112]⟩:ByteArray)],[oSP 31 true,{ dK ⟨26,true,true,31,31,rm,ra,0,b,3⟩ with md:=0 }]) true))):=by
 refine Lf.go (ctx:=fg) Tryz.ntmps36 Tryz.results36 rfl ?_
 simp only [go_sem,hc.1,hc.2]
 refine ab (ctx:=fg) ak ⟨[11,12],[(3,[1824])],[(4,[1824]),(5,[1824]),(6,[1824]),(7,[1824]),(9,[1824])]⟩ (by kernel_rfl) ?_
 simp only [go_sem,hc.1,hc.2]
theorem HA (rm ra a b:Int) (h0:¬a=0) (hc:(0:Int)≤3∧(3:Int)≤7):Lf Tryz.f36 [(ai ac).enc ⟨26,true,true,31,31,rm,ra,a,b,3⟩] (.ret (alO (.ln (ae b [(⟨#[99,109,110]⟩:ByteArray),(⟨#[99,109,112]⟩:ByteArray)],[oSP 31 true,{ dK ⟨26,true,true,31,31,rm,ra,a,b,3⟩ with md:=1 }]) true))):=by
 refine Lf.go (ctx:=fg) Tryz.ntmps36 Tryz.results36 rfl ?_
 simp only [go_sem,b0 h0,hc.1,hc.2]
 refine ab (ctx:=fg) ak ⟨[11,12],[(3,[1792])],[(4,[1792]),(5,[1792]),(6,[1792]),(7,[1792]),(9,[1792])]⟩ (by kernel_rfl) ?_
 simp only [go_sem,b0 h0,hc.1,hc.2]
theorem Jl (rd rm ra b:Int) (hd:¬rd=31) (hc:(0:Int)≤3∧(3:Int)≤7):Lf Tryz.f36 [(ai ac).enc ⟨26,true,true,rd,31,rm,ra,0,b,3⟩] (.ret (alO (.ln (cJ (ae b [(⟨#[97,100,100]⟩:ByteArray),(⟨#[115,117,98]⟩:ByteArray)]) true (⟨#[115]⟩:ByteArray),[spF (!true) rd true,oSP 31 true,{ dK ⟨26,true,true,rd,31,rm,ra,0,b,3⟩ with md:=0 }]) true))):=by
 refine Lf.go (ctx:=fg) Tryz.ntmps36 Tryz.results36 rfl ?_
 have pz:(ae b [(⟨#[97,100,100]⟩:ByteArray),(⟨#[115,117,98]⟩:ByteArray)]).size≤1000:=Nat.le_trans (av (k:=10) (by decide)) (by decide)
 simp only [go_sem,b0 hd,hc.1,hc.2,pz]
 refine ab (ctx:=fg) ak ⟨[22,23],[(3,[1824])],[(4,[1824]),(5,[1824]),(7,[1824]),(8,[1824]),(9,[1824]),(10,[1824]),(11,[1824]),(12,[1824]),(13,[1824]),(15,[1824]),(16,[1824]),(17,[1824]),(18,[1824]),(20,[1824])]⟩ (by kernel_rfl) ?_
 simp only [go_sem,b0 hd,hc.1,hc.2,pz]
theorem H8 (rd rm ra a b:Int) (hd:¬rd=31) (h0:¬a=0) (hc:(0:Int)≤3∧(3:Int)≤7):Lf Tryz.f36 [(ai ac).enc ⟨26,true,true,rd,31,rm,ra,a,b,3⟩] (.ret (alO (.ln (cJ (ae b [(⟨#[97,100,100]⟩:ByteArray),(⟨#[115,117,98]⟩:ByteArray)]) true (⟨#[115]⟩:ByteArray),[spF (!true) rd true,oSP 31 true,{ dK ⟨26,true,true,rd,31,rm,ra,a,b,3⟩ with md:=1 }]) true))):=by
 refine Lf.go (ctx:=fg) Tryz.ntmps36 Tryz.results36 rfl ?_
 have pz:(ae b [(⟨#[97,100,100]⟩:ByteArray),(⟨#[115,117,98]⟩:ByteArray)]).size≤1000:=Nat.le_trans (av (k:=10) (by decide)) (by decide)
 simp only [go_sem,b0 h0,b0 hd,hc.1,hc.2,pz]
 refine ab (ctx:=fg) ak ⟨[22,23],[(3,[1792])],[(4,[1792]),(5,[1792]),(7,[1792]),(8,[1792]),(9,[1792]),(10,[1792]),(11,[1792]),(12,[1792]),(13,[1792]),(15,[1792]),(16,[1792]),(17,[1792]),(18,[1792]),(20,[1792])]⟩ (by kernel_rfl) ?_
 simp only [go_sem,b0 h0,b0 hd,hc.1,hc.2,pz]
theorem HX (rd rm ra b:Int) (hc:(0:Int)≤3∧(3:Int)≤7):Lf Tryz.f36 [(ai ac).enc ⟨26,true,false,rd,31,rm,ra,0,b,3⟩] (.ret (alO (.ln (cJ (ae b [(⟨#[97,100,100]⟩:ByteArray),(⟨#[115,117,98]⟩:ByteArray)]) false (⟨#[115]⟩:ByteArray),[spF (!false) rd true,oSP 31 true,{ dK ⟨26,true,false,rd,31,rm,ra,0,b,3⟩ with md:=0 }]) true))):=by
 refine Lf.go (ctx:=fg) Tryz.ntmps36 Tryz.results36 rfl ?_
 have pz:(ae b [(⟨#[97,100,100]⟩:ByteArray),(⟨#[115,117,98]⟩:ByteArray)]).size≤1000:=Nat.le_trans (av (k:=10) (by decide)) (by decide)
 simp only [go_sem,hc.1,hc.2,pz]
 refine ab (ctx:=fg) ak ⟨[22,23],[(3,[1776])],[(4,[1776]),(5,[1776]),(7,[1776]),(8,[1776]),(9,[1776]),(10,[1776]),(11,[1776]),(12,[1776]),(13,[1776]),(15,[1776]),(16,[1776]),(17,[1776]),(18,[1776]),(20,[1776])]⟩ (by kernel_rfl) ?_
 simp only [go_sem,hc.1,hc.2,pz]
theorem Ju (rd rm ra a b:Int) (h0:¬a=0) (hc:(0:Int)≤3∧(3:Int)≤7):Lf Tryz.f36 [(ai ac).enc ⟨26,true,false,rd,31,rm,ra,a,b,3⟩] (.ret (alO (.ln (cJ (ae b [(⟨#[97,100,100]⟩:ByteArray),(⟨#[115,117,98]⟩:ByteArray)]) false (⟨#[115]⟩:ByteArray),[spF (!false) rd true,oSP 31 true,{ dK ⟨26,true,false,rd,31,rm,ra,a,b,3⟩ with md:=1 }]) true))):=by
 refine Lf.go (ctx:=fg) Tryz.ntmps36 Tryz.results36 rfl ?_
 have pz:(ae b [(⟨#[97,100,100]⟩:ByteArray),(⟨#[115,117,98]⟩:ByteArray)]).size≤1000:=Nat.le_trans (av (k:=10) (by decide)) (by decide)
 simp only [go_sem,b0 h0,hc.1,hc.2,pz]
 refine ab (ctx:=fg) ak ⟨[22,23],[(3,[1744])],[(4,[1744]),(5,[1744]),(7,[1744]),(8,[1744]),(9,[1744]),(10,[1744]),(11,[1744]),(12,[1744]),(13,[1744]),(15,[1744]),(16,[1744]),(17,[1744]),(18,[1744]),(20,[1744])]⟩ (by kernel_rfl) ?_
 simp only [go_sem,b0 h0,hc.1,hc.2,pz]
theorem L7 (rn rm ra a b:Int) (hn:¬rn=31) (hc:(0:Int)≤3∧(3:Int)≤7):Lf Tryz.f36 [(ai ac).enc ⟨26,true,true,31,rn,rm,ra,a,b,3⟩] (.ret (alO (.ln (ae b [(⟨#[99,109,110]⟩:ByteArray),(⟨#[99,109,112]⟩:ByteArray)],[oSP rn true,dK ⟨26,true,true,31,rn,rm,ra,a,b,3⟩]) true))):=by
 refine Lf.go (ctx:=fg) Tryz.ntmps36 Tryz.results36 rfl ?_
 simp only [go_sem,b0 hn,hc.1,hc.2]
 refine ab (ctx:=fg) ak ⟨[11,12],[(3,[1840])],[(4,[1840]),(5,[1840]),(6,[1840]),(7,[1840]),(9,[1840])]⟩ (by kernel_rfl) ?_
 simp only [go_sem,b0 hn,hc.1,hc.2]
theorem Le (rd rn rm ra a b:Int) (hn:¬rn=31) (hd:¬rd=31) (hc:(0:Int)≤3∧(3:Int)≤7):Lf Tryz.f36 [(ai ac).enc ⟨26,true,true,rd,rn,rm,ra,a,b,3⟩] (.ret (alO (.ln (cJ (ae b [(⟨#[97,100,100]⟩:ByteArray),(⟨#[115,117,98]⟩:ByteArray)]) true (⟨#[115]⟩:ByteArray),[spF (!true) rd true,oSP rn true,dK ⟨26,true,true,rd,rn,rm,ra,a,b,3⟩]) true))):=by
 refine Lf.go (ctx:=fg) Tryz.ntmps36 Tryz.results36 rfl ?_
 have pz:(ae b [(⟨#[97,100,100]⟩:ByteArray),(⟨#[115,117,98]⟩:ByteArray)]).size≤1000:=Nat.le_trans (av (k:=10) (by decide)) (by decide)
 simp only [go_sem,b0 hn,b0 hd,hc.1,hc.2,pz]
 refine ab (ctx:=fg) ak ⟨[22,23],[(3,[1792])],[(4,[1792]),(5,[1792]),(7,[1792]),(8,[1792]),(9,[1792]),(10,[1792]),(11,[1792]),(12,[1792]),(13,[1792]),(15,[1792]),(16,[1792]),(17,[1792]),(18,[1792]),(20,[1792])]⟩ (by kernel_rfl) ?_
 simp only [go_sem,b0 hn,b0 hd,hc.1,hc.2,pz]
theorem H5 (rn rm ra b:Int) (hn:¬rn=31) (hc:(0:Int)≤3∧(3:Int)≤7):Lf Tryz.f36 [(ai ac).enc ⟨26,true,false,31,rn,rm,ra,0,b,3⟩] (.ret (alO (.ln (cJ (ae b [(⟨#[97,100,100]⟩:ByteArray),(⟨#[115,117,98]⟩:ByteArray)]) false (⟨#[115]⟩:ByteArray),[spF (!false) 31 true,oSP rn true,{ dK ⟨26,true,false,31,rn,rm,ra,0,b,3⟩ with md:=0 }]) true))):=by
 refine Lf.go (ctx:=fg) Tryz.ntmps36 Tryz.results36 rfl ?_
 have pz:(ae b [(⟨#[97,100,100]⟩:ByteArray),(⟨#[115,117,98]⟩:ByteArray)]).size≤1000:=Nat.le_trans (av (k:=10) (by decide)) (by decide)
 simp only [go_sem,b0 hn,hc.1,hc.2,pz]
 refine ab (ctx:=fg) ak ⟨[22,23],[(3,[1904])],[(4,[1904]),(5,[1904]),(7,[1904]),(8,[1904]),(9,[1904]),(10,[1904]),(11,[1904]),(12,[1904]),(13,[1904]),(15,[1904]),(16,[1904]),(17,[1904]),(18,[1904]),(20,[1904])]⟩ (by kernel_rfl) ?_
 simp only [go_sem,b0 hn,hc.1,hc.2,pz]
theorem Jq (rn rm ra a b:Int) (hn:¬rn=31) (h0:¬a=0) (hc:(0:Int)≤3∧(3:Int)≤7):Lf Tryz.f36 [(ai ac).enc ⟨26,true,false,31,rn,rm,ra,a,b,3⟩] (.ret (alO (.ln (cJ (ae b [(⟨#[97,100,100]⟩:ByteArray),(⟨#[115,117,98]⟩:ByteArray)]) false (⟨#[115]⟩:ByteArray),[spF (!false) 31 true,oSP rn true,{ dK ⟨26,true,false,31,rn,rm,ra,a,b,3⟩ with md:=1 }]) true))):=by
 refine Lf.go (ctx:=fg) Tryz.ntmps36 Tryz.results36 rfl ?_
 have pz:(ae b [(⟨#[97,100,100]⟩:ByteArray),(⟨#[115,117,98]⟩:ByteArray)]).size≤1000:=Nat.le_trans (av (k:=10) (by decide)) (by decide)
 simp only [go_sem,b0 hn,b0 h0,hc.1,hc.2,pz]
 refine ab (ctx:=fg) ak ⟨[22,23],[(3,[1872])],[(4,[1872]),(5,[1872]),(7,[1872]),(8,[1872]),(9,[1872]),(10,[1872]),(11,[1872]),(12,[1872]),(13,[1872]),(15,[1872]),(16,[1872]),(17,[1872]),(18,[1872]),(20,[1872])]⟩ (by kernel_rfl) ?_
 simp only [go_sem,b0 hn,b0 h0,hc.1,hc.2,pz]
theorem LL (rd rn rm ra a b:Int) (hn:¬rn=31) (hd:¬rd=31) (hc:(0:Int)≤3∧(3:Int)≤7):Lf Tryz.f36 [(ai ac).enc ⟨26,true,false,rd,rn,rm,ra,a,b,3⟩] (.ret (alO (.ln (cJ (ae b [(⟨#[97,100,100]⟩:ByteArray),(⟨#[115,117,98]⟩:ByteArray)]) false (⟨#[115]⟩:ByteArray),[spF (!false) rd true,oSP rn true,dK ⟨26,true,false,rd,rn,rm,ra,a,b,3⟩]) true))):=by
 refine Lf.go (ctx:=fg) Tryz.ntmps36 Tryz.results36 rfl ?_
 have pz:(ae b [(⟨#[97,100,100]⟩:ByteArray),(⟨#[115,117,98]⟩:ByteArray)]).size≤1000:=Nat.le_trans (av (k:=10) (by decide)) (by decide)
 simp only [go_sem,b0 hn,b0 hd,hc.1,hc.2,pz]
 refine ab (ctx:=fg) ak ⟨[22,23],[(3,[1744])],[(4,[1744]),(5,[1744]),(7,[1744]),(8,[1744]),(9,[1744]),(10,[1744]),(11,[1744]),(12,[1744]),(13,[1744]),(15,[1744]),(16,[1744]),(17,[1744]),(18,[1744]),(20,[1744])]⟩ (by kernel_rfl) ?_
 simp only [go_sem,b0 hn,b0 hd,hc.1,hc.2,pz]
end Go.Proofs.YtpjlafmhoifkmaaGreat
