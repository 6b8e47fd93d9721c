import Derived.Test.YtpjlafmhoifkmaaGreatM47
import Derived.Test.YtpjlafmhoifkmaaGreatM42
import Derived.Test.YtpjlafmhoifkmaaGreatM39
import Derived.Test.YtpjlafmhoifkmaaGreatM11
set_option linter.unusedVariables false
set_option linter.unusedSimpArgs false
set_option maxRecDepth 100000
set_option maxHeartbeats 8000000
namespace Go.Proofs.YtpjlafmhoifkmaaGreat
open Go.RowKit
def iI:Ctx Tryz.prog:=[⟨_,qE⟩,⟨_,wW⟩]
def Ks:Ctx Tryz.prog:=[⟨_,qE⟩,⟨_,wW⟩,⟨_,va⟩]
attribute [local go_sem] ag dX d7 dQ dR eV eT fS gb gW gT gV gY eD eB fZ fW ek eh dp dq dJ dI eX eS bU bW bu aC aH bm fN cy gL opV opR opE ah oSP aw oTo oOf cw be op0 r0 emp co gOf aD aF aI aj alO ac iI Ks yq yV FR E2 bY bZ xc yZ cf
theorem Of (xx ss:Bool) (rd rn rm ra a c:Int) (pn:ByteArray) (pl:List OpV) (hk:ay ⟨11,xx,ss,rd,rn,rm,ra,a,2,c⟩=0) (hp:bt ⟨11,xx,ss,rd,rn,rm,ra,a,2,c⟩=(pn,pl)):Lf Tryz.f35 [(ai ac).enc ⟨11,xx,ss,rd,rn,rm,ra,a,2,c⟩] (.ret (alO (.ln ((⟨#[114,101,116]⟩:ByteArray),[]) (rn==30)))):=by
 refine Lf.go (ctx:=iI) Tryz.ntmps35 Tryz.results35 rfl ?_
 simp only [go_sem,hk,hp]
 refine ab (ctx:=iI) ak ⟨[],[(9,[16])],[(5,[16]),(6,[16]),(7,[16]),(8,[16])]⟩ (by kernel_rfl) ?_
 simp only [go_sem,hk,hp]
theorem qs11 (xx ss:Bool) (rd rn rm ra a b c:Int) (pn:ByteArray) (pl:List OpV) (hk:ay ⟨11,xx,ss,rd,rn,rm,ra,a,b,c⟩=0) (hp:bt ⟨11,xx,ss,rd,rn,rm,ra,a,b,c⟩=(pn,pl)) (hb:¬b=2):Lf Tryz.f35 [(ai ac).enc ⟨11,xx,ss,rd,rn,rm,ra,a,b,c⟩] (.ret (alO (.ln ((⟨#[114,101,116]⟩:ByteArray),[]) false))):=by
 refine Lf.go (ctx:=iI) Tryz.ntmps35 Tryz.results35 rfl ?_
 simp only [go_sem,b0 hb,hk,hp]
 refine ab (ctx:=iI) ak ⟨[],[(9,[16])],[(5,[16]),(6,[16]),(7,[16]),(8,[16])]⟩ (by kernel_rfl) ?_
 simp only [go_sem,b0 hb,hk,hp]
theorem Qs (xx ss:Bool) (rd rn rm ra a b c:Int) (pn:ByteArray) (pl:List OpV) (hk:ay ⟨12,xx,ss,rd,rn,rm,ra,a,b,c⟩=0) (hp:bt ⟨12,xx,ss,rd,rn,rm,ra,a,b,c⟩=(pn,pl)) (hb:5≤b):Lf Tryz.f35 [(ai ac).enc ⟨12,xx,ss,rd,rn,rm,ra,a,b,c⟩] (.ret (alO (.ln (pn,[]) (a==0)))):=by
 refine Lf.go (ctx:=iI) Tryz.ntmps35 Tryz.results35 rfl ?_
 simp only [go_sem,hb,hk,hp]
 refine ab (ctx:=iI) ak ⟨[],[(11,[16])],[(7,[16]),(8,[16]),(9,[16]),(10,[16])]⟩ (by kernel_rfl) ?_
 simp only [go_sem,hb,hk,hp]
theorem qs12 (xx ss:Bool) (rd rn rm ra a b c:Int) (pn:ByteArray) (pl:List OpV) (hk:ay ⟨12,xx,ss,rd,rn,rm,ra,a,b,c⟩=0) (hp:bt ⟨12,xx,ss,rd,rn,rm,ra,a,b,c⟩=(pn,pl)) (hb:¬5≤b):Lf Tryz.f35 [(ai ac).enc ⟨12,xx,ss,rd,rn,rm,ra,a,b,c⟩] (.ret (alO (.ln (pn,[]) false))):=by
 refine Lf.go (ctx:=iI) Tryz.ntmps35 Tryz.results35 rfl ?_
 simp only [go_sem,hb,hk,hp]
 refine ab (ctx:=iI) ak ⟨[],[(11,[16])],[(7,[16]),(8,[16]),(9,[16]),(10,[16])]⟩ (by kernel_rfl) ?_
 simp only [go_sem,hb,hk,hp]
theorem qs13 (xx ss:Bool) (rd rn rm ra a b c:Int) (pn:ByteArray) (pl:List OpV) (hk:ay ⟨13,xx,ss,rd,rn,rm,ra,a,b,c⟩=0) (hp:bt ⟨13,xx,ss,rd,rn,rm,ra,a,b,c⟩=(pn,pl)) (hn:ByteArray) (he:Int) (hN:cV 5 a=(hn,he)):Lf Tryz.f35 [(ai ac).enc ⟨13,xx,ss,rd,rn,rm,ra,a,b,c⟩] (.ret (alO (.ln (hn,[]) (he==0)))):=by
 refine Lf.go (ctx:=Ks) Tryz.ntmps35 Tryz.results35 rfl ?_
 simp only [go_sem,hk,hp,hN]
theorem Q7 (xx ss:Bool) (rd rn rm ra a c:Int) (pn:ByteArray) (pl:List OpV) (hk:ay ⟨14,xx,ss,rd,rn,rm,ra,a,2,c⟩=0) (hp:bt ⟨14,xx,ss,rd,rn,rm,ra,a,2,c⟩=(pn,pl)):Lf Tryz.f35 [(ai ac).enc ⟨14,xx,ss,rd,rn,rm,ra,a,2,c⟩] (.ret (alO (.ln (pn,[]) (a==15)))):=by
 refine Lf.go (ctx:=iI) Tryz.ntmps35 Tryz.results35 rfl ?_
 simp only [go_sem,hk,hp]
 refine ab (ctx:=iI) ak ⟨[],[(16,[16])],[(12,[16]),(13,[16]),(14,[16]),(15,[16])]⟩ (by kernel_rfl) ?_
 simp only [go_sem,hk,hp]
theorem QJ (xx ss:Bool) (rd rn rm ra a c:Int) (pn:ByteArray) (pl:List OpV) (hk:ay ⟨14,xx,ss,rd,rn,rm,ra,a,6,c⟩=0) (hp:bt ⟨14,xx,ss,rd,rn,rm,ra,a,6,c⟩=(pn,pl)):Lf Tryz.f35 [(ai ac).enc ⟨14,xx,ss,rd,rn,rm,ra,a,6,c⟩] (.ret (alO (.ln (pn,[]) (a==15)))):=by
 refine Lf.go (ctx:=iI) Tryz.ntmps35 Tryz.results35 rfl ?_
 simp only [go_sem,hk,hp]
 refine ab (ctx:=iI) ak ⟨[],[(16,[16])],[(12,[16]),(13,[16]),(14,[16]),(15,[16])]⟩ (by kernel_rfl) ?_
 simp only [go_sem,hk,hp]
theorem qs14 (xx ss:Bool) (rd rn rm ra a b c:Int) (pn:ByteArray) (pl:List OpV) (hk:ay ⟨14,xx,ss,rd,rn,rm,ra,a,b,c⟩=0) (hp:bt ⟨14,xx,ss,rd,rn,rm,ra,a,b,c⟩=(pn,pl)) (hb:¬b=2∧¬b=6):Lf Tryz.f35 [(ai ac).enc ⟨14,xx,ss,rd,rn,rm,ra,a,b,c⟩] (.ret (alO (.ln (pn,[]) false))):=by
 refine Lf.go (ctx:=iI) Tryz.ntmps35 Tryz.results35 rfl ?_
 simp only [go_sem,b0 hb.1,b0 hb.2,hk,hp]
 refine ab (ctx:=iI) ak ⟨[],[(16,[16])],[(12,[16]),(13,[16]),(14,[16]),(15,[16])]⟩ (by kernel_rfl) ?_
 simp only [go_sem,b0 hb.1,b0 hb.2,hk,hp]
theorem Q5 (xx ss:Bool) (rd rn rm ra a c:Int) (pn:ByteArray) (pl:List OpV) (hk:ay ⟨17,xx,ss,rd,rn,rm,ra,a,0,c⟩=0) (hp:bt ⟨17,xx,ss,rd,rn,rm,ra,a,0,c⟩=(pn,pl)) (h4:4≤pl.length):Lf Tryz.f35 [(ai ac).enc ⟨17,xx,ss,rd,rn,rm,ra,a,0,c⟩] (.ret (alO (.ln ((⟨#[115,121,115]⟩:ByteArray),pl.take 4) (rd==31)))):=by
 refine Lf.go (ctx:=iI) Tryz.ntmps35 Tryz.results35 rfl ?_
 have hI:(4:Int)≤((pl.length:Nat):Int):=by omega
 have ht:List.take 4 (List.map opE pl)=List.map opE (List.take 4 pl):=by rw [List.map_take]
 have hd:=gy (List.take 4 pl)
 simp only [go_sem,hk,hp,h4,hI,ht]
 refine ab (ctx:=iI) ak ⟨[],[(3,[336]),(12,[16])],[(4,[336]),(5,[336]),(6,[336]),(8,[16]),(9,[16]),(10,[16]),(11,[16])]⟩ (by kernel_rfl) ?_
 simp only [go_sem,hk,hp,h4,hI,ht]
theorem qs17 (xx ss:Bool) (rd rn rm ra a b c:Int) (pn:ByteArray) (pl:List OpV) (hk:ay ⟨17,xx,ss,rd,rn,rm,ra,a,b,c⟩=0) (hp:bt ⟨17,xx,ss,rd,rn,rm,ra,a,b,c⟩=(pn,pl)) (hb:¬b=0) (h4:4≤pl.length):Lf Tryz.f35 [(ai ac).enc ⟨17,xx,ss,rd,rn,rm,ra,a,b,c⟩] (.ret (alO (.ln ((⟨#[115,121,115]⟩:ByteArray),pl.take 4) false))):=by
 refine Lf.go (ctx:=iI) Tryz.ntmps35 Tryz.results35 rfl ?_
 have hI:(4:Int)≤((pl.length:Nat):Int):=by omega
 have ht:List.take 4 (List.map opE pl)=List.map opE (List.take 4 pl):=by rw [List.map_take]
 have hd:=gy (List.take 4 pl)
 simp only [go_sem,b0 hb,hk,hp,h4,hI,ht]
 refine ab (ctx:=iI) ak ⟨[],[(3,[336]),(12,[16])],[(4,[336]),(5,[336]),(6,[336]),(8,[16]),(9,[16]),(10,[16]),(11,[16])]⟩ (by kernel_rfl) ?_
 simp only [go_sem,b0 hb,hk,hp,h4,hI,ht]
end Go.Proofs.YtpjlafmhoifkmaaGreat
