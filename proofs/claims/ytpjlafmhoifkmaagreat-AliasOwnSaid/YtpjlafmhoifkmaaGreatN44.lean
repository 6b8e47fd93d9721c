import Derived.Test.YtpjlafmhoifkmaaGreatN43
import Derived.Test.YtpjlafmhoifkmaaGreatN42
import Derived.Test.YtpjlafmhoifkmaaGreatN11
set_option linter.unusedVariables false
set_option linter.unusedSimpArgs false
set_option maxRecDepth 100000
set_option maxHeartbeats 8000000
namespace Go.Proofs.YtpjlafmhoifkmaaGreat
open Go.RowKit
def tA:Ctx Tryz.prog:=[⟨_,l8⟩,⟨_,bp⟩]
def tW:Ctx Tryz.prog:=[⟨_,kP⟩]
def iI:Ctx Tryz.prog:=[⟨_,l8⟩,⟨_,kP⟩]
def HR:Ctx Tryz.prog:=[⟨_,vw⟩,⟨_,kP⟩]
def sU:Ctx Tryz.prog:=[⟨_,bZ bh⟩]
attribute [local go_sem] ag wrA wrC aw wrK ay bB pcK fJ aM bC aW aV gC gD bT bD fz aX aL ap aS bH ij gOf aG aF aK bI bg aT jy jo kt jW iq gy jj iz kE eM fH iw gH gO dP jE jr ll aE aD bK bO bu aC bj be aZ dc da bE bF cp xwT xw0 bk opV opL bX ofD opR cB opE dO nO mO cF ab aB oOf op0 r0 emp l5 lw jq gq alO ae gz gB iL ky m8 mV sxQ sxF Sx.q Sx.F nz jt tA j8 j5 au List.length_map List.map_take tW iI HR sU yT yG dy lY List.nodup_cons List.nodup_nil List.mem_cons List.not_mem_nil List.mem_nil_iff or_false false_or or_self not_false_eq_true and_self true_and and_true
theorem csP {x:Ins} {r:PO} {n:Nat} {rs:Array ResultVar} {ctx:Ctx Tryz.prog} {c0 c1 c:Code} (hn:Tryz.f55.ntmps=n) (hr:Tryz.f55.results=rs) (hb:Tryz.f55.body=some (.seq c0 (.seq c1 c))) (h:bA Tryz.prog ctx ⟨none,0⟩ n 4000 [.c c] (wrC x) (aH Tryz.prog rs.toList r)):Lf Tryz.f55 [(am ae).enc x] r:=by
 subst hn
 rw [Tryz.ntmps55] at h
 unfold Lf
 rw [Tryz.ntmps55,hr,hb]
 simp only [Tryz.f55] at hb
 injection hb with hb
 injection hb with ha hb
 injection hb with hb hc
 subst ha hb hc
 simp only [Option.getD_some,ag]
 refine az (aa (ctx:=[]) 4000 ?_)
 simp only [go_sem,aJ,ae]
 refine az (aa (ctx:=[]) 4000 ?_)
 simp only [go_sem,aJ]
 refine SW.wk (s':=wrC x) ?_ ((Wk.nilC 80 11 40 15 (k:=⟨true,68,12,[aw x++[.v (.string emp),.v (.slice none 0 0)]]⟩) rfl rfl rfl).trans (Wk.renL [0,16,96,80,128] (by simp) (by simp [wrC]) (by decide) rfl rfl))
 exact aa 4000 h
theorem ctP {x:Ins} {r:PO} {n:Nat} {rs:Array ResultVar} {ctx:Ctx Tryz.prog} {c0 c1 c:Code} (hn:Tryz.f58.ntmps=n) (hr:Tryz.f58.results=rs) (hb:Tryz.f58.body=some (.seq c0 (.seq c1 c))) (h:bA Tryz.prog ctx ⟨none,0⟩ n 4000 [.c c] (wrA x) (aH Tryz.prog rs.toList r)):Lf Tryz.f58 [(am ae).enc x] r:=by
 subst hn
 rw [Tryz.ntmps58] at h
 unfold Lf
 rw [Tryz.ntmps58,hr,hb]
 simp only [Tryz.f58] at hb
 injection hb with hb
 injection hb with ha hb
 injection hb with hb hc
 subst ha hb hc
 simp only [Option.getD_some,ag]
 refine az (aa (ctx:=[]) 4000 ?_)
 simp only [go_sem,aJ,ae]
 refine az (aa (ctx:=[]) 4000 ?_)
 simp only [go_sem,aJ]
 refine SW.wk (s':=wrA x) ?_ ((Wk.nilC 80 11 40 15 (k:=⟨true,68,12,[aw x++[.v (.string emp),.v (.slice none 0 0)]]⟩) rfl rfl rfl).trans (Wk.renL [0,16,80,112] (by simp) (by simp [wrA]) (by decide) rfl rfl))
 exact aa 4000 h
theorem pc14 (xx ss:Bool) (rd rn rm ra a b c:Int) (ha:14≤a):Lf Tryz.f55 [(am ae).enc ⟨29,xx,ss,rd,rn,rm,ra,a,b,c⟩] (.ret (alO .no)):=by
 refine csP (ctx:=[⟨_,bp⟩,⟨_,cw bh (jt ⟨29,xx,ss,rd,rn,rm,ra,a,b,c⟩)⟩]) Tryz.ntmps55 Tryz.results55 rfl ?_
 simp only [go_sem,ha]
theorem pcm2 (xx ss:Bool) (rd rn rm ra a b c:Int) (ha:¬14≤a) (hm:¬rn=rm) (hb:¬b=1∧¬b=2∧¬b=0):Lf Tryz.f55 [(am ae).enc ⟨29,xx,ss,rd,rn,rm,ra,a,b,c⟩] (.ret (alO .no)):=by
 refine csP (ctx:=[⟨_,bp⟩,⟨_,cw bh (jt ⟨29,xx,ss,rd,rn,rm,ra,a,b,c⟩)⟩]) Tryz.ntmps55 Tryz.results55 rfl ?_
 simp only [go_sem,ha,b0 hm,b0 hb.1,b0 hb.2.1,n1 hb.2.2]
theorem pc0 (xx ss:Bool) (rd rn rm ra a c:Int) (ha:¬14≤a) (hm:rn=rm):Lf Tryz.f55 [(am ae).enc ⟨29,xx,ss,rd,rn,rm,ra,a,0,c⟩] (.ret (alO .no)):=by
 refine csP (ctx:=[⟨_,bp⟩,⟨_,cw bh (jt ⟨29,xx,ss,rd,rn,rm,ra,a,0,c⟩)⟩]) Tryz.ntmps55 Tryz.results55 rfl ?_
 simp only [go_sem,ha,b1 hm]
theorem pc0m (xx ss:Bool) (rd rn rm ra a c:Int) (ha:¬14≤a) (hm:¬rn=rm):Lf Tryz.f55 [(am ae).enc ⟨29,xx,ss,rd,rn,rm,ra,a,0,c⟩] (.ret (alO .no)):=by
 refine csP (ctx:=[⟨_,bp⟩,⟨_,cw bh (jt ⟨29,xx,ss,rd,rn,rm,ra,a,0,c⟩)⟩]) Tryz.ntmps55 Tryz.results55 rfl ?_
 simp only [go_sem,ha,b0 hm]
theorem pcz1 (xx ss:Bool) (rd rm ra a c:Int) (ha:¬14≤a) (hm:31=rm):Lf Tryz.f55 [(am ae).enc ⟨29,xx,ss,rd,31,rm,ra,a,1,c⟩] (.ret (alO (.ln (ak 1 [emp,(⟨#[99,115,101,116]⟩:ByteArray),(⟨#[99,115,101,116,109]⟩:ByteArray)],[ab rd xx,oOf 4 (gt a)]) true))):=by
 refine csP (ctx:=[⟨_,bp⟩,⟨_,cw bh (jt ⟨29,xx,ss,rd,31,rm,ra,a,1,c⟩)⟩]) Tryz.ntmps55 Tryz.results55 rfl ?_
 simp only [go_sem,ha,b1 hm]
 refine aq (ctx:=[⟨_,bp⟩,⟨_,cw bh (jt ⟨29,xx,ss,rd,31,rm,ra,a,1,c⟩)⟩]) ax ⟨[9,10],[(4,[453])],[(0,[453]),(5,[453]),(6,[453]),(7,[453]),(8,[453])]⟩ (by kernel_rfl) ?_
 simp only [go_sem,ha,b1 hm]
theorem pcn1 (xx ss:Bool) (rd rn rm ra a c:Int) (ha:¬14≤a) (hm:rn=rm) (hn:¬rn=31):Lf Tryz.f55 [(am ae).enc ⟨29,xx,ss,rd,rn,rm,ra,a,1,c⟩] (.ret (alO (.ln (ak 1 [emp,(⟨#[99,105,110,99]⟩:ByteArray),(⟨#[99,105,110,118]⟩:ByteArray),(⟨#[99,110,101,103]⟩:ByteArray)],[ab rd xx,ab rn xx,oOf 4 (gt a)]) true))):=by
 refine csP (ctx:=[⟨_,bp⟩,⟨_,cw bh (jt ⟨29,xx,ss,rd,rn,rm,ra,a,1,c⟩)⟩]) Tryz.ntmps55 Tryz.results55 rfl ?_
 simp only [go_sem,ha,b1 hm,b0 hn]
 refine aq (ctx:=[⟨_,bp⟩,⟨_,cw bh (jt ⟨29,xx,ss,rd,rn,rm,ra,a,1,c⟩)⟩]) ax ⟨[11,12],[(4,[565])],[(0,[565]),(5,[565]),(6,[565]),(7,[565]),(8,[565]),(9,[565]),(10,[565])]⟩ (by kernel_rfl) ?_
 simp only [go_sem,ha,b1 hm,b0 hn]
theorem pcz2 (xx ss:Bool) (rd rm ra a c:Int) (ha:¬14≤a) (hm:31=rm):Lf Tryz.f55 [(am ae).enc ⟨29,xx,ss,rd,31,rm,ra,a,2,c⟩] (.ret (alO (.ln (ak 2 [emp,(⟨#[99,115,101,116]⟩:ByteArray),(⟨#[99,115,101,116,109]⟩:ByteArray)],[ab rd xx,oOf 4 (gt a)]) true))):=by
 refine csP (ctx:=[⟨_,bp⟩,⟨_,cw bh (jt ⟨29,xx,ss,rd,31,rm,ra,a,2,c⟩)⟩]) Tryz.ntmps55 Tryz.results55 rfl ?_
 simp only [go_sem,ha,b1 hm]
 refine aq (ctx:=[⟨_,bp⟩,⟨_,cw bh (jt ⟨29,xx,ss,rd,31,rm,ra,a,2,c⟩)⟩]) ax ⟨[9,10],[(4,[501])],[(0,[501]),(5,[501]),(6,[501]),(7,[501]),(8,[501])]⟩ (by kernel_rfl) ?_
 simp only [go_sem,ha,b1 hm]
theorem pcn2 (xx ss:Bool) (rd rn rm ra a c:Int) (ha:¬14≤a) (hm:rn=rm) (hn:¬rn=31):Lf Tryz.f55 [(am ae).enc ⟨29,xx,ss,rd,rn,rm,ra,a,2,c⟩] (.ret (alO (.ln (ak 2 [emp,(⟨#[99,105,110,99]⟩:ByteArray),(⟨#[99,105,110,118]⟩:ByteArray),(⟨#[99,110,101,103]⟩:ByteArray)],[ab rd xx,ab rn xx,oOf 4 (gt a)]) true))):=by
 refine csP (ctx:=[⟨_,bp⟩,⟨_,cw bh (jt ⟨29,xx,ss,rd,rn,rm,ra,a,2,c⟩)⟩]) Tryz.ntmps55 Tryz.results55 rfl ?_
 simp only [go_sem,ha,b1 hm,b0 hn]
 refine aq (ctx:=[⟨_,bp⟩,⟨_,cw bh (jt ⟨29,xx,ss,rd,rn,rm,ra,a,2,c⟩)⟩]) ax ⟨[11,12],[(4,[613])],[(0,[613]),(5,[613]),(6,[613]),(7,[613]),(8,[613]),(9,[613]),(10,[613])]⟩ (by kernel_rfl) ?_
 simp only [go_sem,ha,b1 hm,b0 hn]
theorem pc3 (xx ss:Bool) (rd rn rm ra a b c:Int) (ha:¬14≤a) (hm:rn=rm) (hb:¬b=1∧¬b=2∧¬b=0):Lf Tryz.f55 [(am ae).enc ⟨29,xx,ss,rd,rn,rm,ra,a,b,c⟩] (.ret (alO (.ln (ak b [emp,(⟨#[99,105,110,99]⟩:ByteArray),(⟨#[99,105,110,118]⟩:ByteArray),(⟨#[99,110,101,103]⟩:ByteArray)],[ab rd xx,ab rn xx,oOf 4 (gt a)]) true))):=by
 refine csP (ctx:=[⟨_,bp⟩,⟨_,cw bh (jt ⟨29,xx,ss,rd,rn,rm,ra,a,b,c⟩)⟩]) Tryz.ntmps55 Tryz.results55 rfl ?_
 simp only [go_sem,ha,b1 hm,b0 hb.1,b0 hb.2.1,n1 hb.2.2]
 refine aq (ctx:=[⟨_,bp⟩,⟨_,cw bh (jt ⟨29,xx,ss,rd,rn,rm,ra,a,b,c⟩)⟩]) ax ⟨[11,12],[(4,[549])],[(0,[549]),(5,[549]),(6,[549]),(7,[549]),(8,[549]),(9,[549]),(10,[549])]⟩ (by kernel_rfl) ?_
 simp only [go_sem,ha,b1 hm,b0 hb.1,b0 hb.2.1,n1 hb.2.2]
theorem MJ (xx ss:Bool) (rd rn rm ra a c:Int) (ha:¬14≤a) (hm:¬rn=rm):Lf Tryz.f55 [(am ae).enc ⟨29,xx,ss,rd,rn,rm,ra,a,1,c⟩] (.ret (alO .no)):=by
 refine csP (ctx:=[⟨_,bp⟩,⟨_,cw bh (jt ⟨29,xx,ss,rd,rn,rm,ra,a,1,c⟩)⟩]) Tryz.ntmps55 Tryz.results55 rfl ?_
 simp only [go_sem,ha,b0 hm]
theorem Mi (xx ss:Bool) (rd rn rm ra a c:Int) (ha:¬14≤a) (hm:¬rn=rm):Lf Tryz.f55 [(am ae).enc ⟨29,xx,ss,rd,rn,rm,ra,a,2,c⟩] (.ret (alO .no)):=by
 refine csP (ctx:=[⟨_,bp⟩,⟨_,cw bh (jt ⟨29,xx,ss,rd,rn,rm,ra,a,2,c⟩)⟩]) Tryz.ntmps55 Tryz.results55 rfl ?_
 simp only [go_sem,ha,b0 hm]
theorem ppr (xx ss:Bool) (rd rn rm ra a b c:Int) (pn:ByteArray) (pl:List OpV) (hk:PlB ⟨32,xx,ss,rd,rn,rm,ra,a,b,c⟩) (hp:aj ⟨32,xx,ss,rd,rn,rm,ra,a,b,c⟩=(pn,pl)) (hr:¬ra=31):Lf Tryz.f57 [(am ae).enc ⟨32,xx,ss,rd,rn,rm,ra,a,b,c⟩] (.ret (alO (.ln (pn,pl) false))):=by
 refine Lf.go (ctx:=tA) Tryz.ntmps57 Tryz.results57 rfl ?_
 simp only [go_sem,n1 hr,hk,hp]
theorem pp4 (xx ss:Bool) (rd rn rm a c:Int) (pn:ByteArray) (pl:List OpV) (hk:PlB ⟨32,xx,ss,rd,rn,rm,31,a,4,c⟩) (hp:aj ⟨32,xx,ss,rd,rn,rm,31,a,4,c⟩=(pn,pl)):Lf Tryz.f57 [(am ae).enc ⟨32,xx,ss,rd,rn,rm,31,a,4,c⟩] (.ret (alO (.ln (pn,pl) false))):=by
 refine Lf.go (ctx:=tA) Tryz.ntmps57 Tryz.results57 rfl ?_
 simp only [go_sem,hk,hp]
theorem pp7 (xx ss:Bool) (rd rn rm a c:Int) (pn:ByteArray) (pl:List OpV) (hk:PlB ⟨32,xx,ss,rd,rn,rm,31,a,7,c⟩) (hp:aj ⟨32,xx,ss,rd,rn,rm,31,a,7,c⟩=(pn,pl)):Lf Tryz.f57 [(am ae).enc ⟨32,xx,ss,rd,rn,rm,31,a,7,c⟩] (.ret (alO (.ln (pn,pl) false))):=by
 refine Lf.go (ctx:=tA) Tryz.ntmps57 Tryz.results57 rfl ?_
 simp only [go_sem,hk,hp]
theorem pp (xx ss:Bool) (rd rn rm a b c:Int) (pn:ByteArray) (pl:List OpV) (hk:PlB ⟨32,xx,ss,rd,rn,rm,31,a,b,c⟩) (hp:aj ⟨32,xx,ss,rd,rn,rm,31,a,b,c⟩=(pn,pl)) (hb:¬b=4∧¬b=7) (h3:3≤pl.length):Lf Tryz.f57 [(am ae).enc ⟨32,xx,ss,rd,rn,rm,31,a,b,c⟩] (.ret (alO (.ln (ak b [(⟨#[109,117,108]⟩:ByteArray),(⟨#[109,110,101,103]⟩:ByteArray),(⟨#[115,109,117,108,108]⟩:ByteArray),(⟨#[115,109,110,101,103,108]⟩:ByteArray),emp,(⟨#[117,109,117,108,108]⟩:ByteArray),(⟨#[117,109,110,101,103,108]⟩:ByteArray)],pl.take 3) true))):=by
 refine Lf.go (ctx:=tA) Tryz.ntmps57 Tryz.results57 rfl ?_
 have h3I:(3:Int)≤((pl.length:Nat):Int):=by omega
 simp only [go_sem,b0 hb.1,b0 hb.2,hk,hp,h3,h3I]
theorem MX (xx ss:Bool) (rd rn rm ra a c:Int):Lf Tryz.f58 [(am ae).enc ⟨11,xx,ss,rd,rn,rm,ra,a,2,c⟩] (.ret (alO (.ln ((⟨#[114,101,116]⟩:ByteArray),[]) (rn==30)))):=by
 refine ctP (ctx:=tW) Tryz.ntmps58 Tryz.results58 rfl ?_
 simp only [go_sem]
 refine aq (ctx:=tW) ax ⟨[],[(1,[2,3]),(10,[1])],[(2,[2,3]),(3,[2,3]),(4,[2,3]),(6,[1]),(7,[1]),(8,[1]),(9,[1])]⟩ (by kernel_rfl) ?_
 simp only [go_sem]
theorem pt11 (xx ss:Bool) (rd rn rm ra a b c:Int) (hb:¬b=2):Lf Tryz.f58 [(am ae).enc ⟨11,xx,ss,rd,rn,rm,ra,a,b,c⟩] (.ret (alO (.ln ((⟨#[114,101,116]⟩:ByteArray),[]) false))):=by
 refine ctP (ctx:=tW) Tryz.ntmps58 Tryz.results58 rfl ?_
 simp only [go_sem,b0 hb]
 refine aq (ctx:=tW) ax ⟨[],[(1,[2,3]),(10,[1])],[(2,[2,3]),(3,[2,3]),(4,[2,3]),(6,[1]),(7,[1]),(8,[1]),(9,[1])]⟩ (by kernel_rfl) ?_
 simp only [go_sem,b0 hb]
theorem Nh (xx ss:Bool) (rd rn rm ra a b c:Int) (pn:ByteArray) (pl:List OpV) (hk:PlB ⟨12,xx,ss,rd,rn,rm,ra,a,b,c⟩) (hp:aj ⟨12,xx,ss,rd,rn,rm,ra,a,b,c⟩=(pn,pl)) (hb:5≤b):Lf Tryz.f58 [(am ae).enc ⟨12,xx,ss,rd,rn,rm,ra,a,b,c⟩] (.ret (alO (.ln (pn,[]) (a==0)))):=by
 refine ctP (ctx:=iI) Tryz.ntmps58 Tryz.results58 rfl ?_
 simp only [go_sem,hb,hk,hp]
 refine aq (ctx:=iI) ax ⟨[],[(4,[2,3]),(13,[1])],[(5,[2,3]),(6,[2,3]),(7,[2,3]),(9,[1]),(10,[1]),(11,[1]),(12,[1])]⟩ (by kernel_rfl) ?_
 simp only [go_sem,hb,hk,hp]
theorem pt12 (xx ss:Bool) (rd rn rm ra a b c:Int) (pn:ByteArray) (pl:List OpV) (hk:PlB ⟨12,xx,ss,rd,rn,rm,ra,a,b,c⟩) (hp:aj ⟨12,xx,ss,rd,rn,rm,ra,a,b,c⟩=(pn,pl)) (hb:¬5≤b):Lf Tryz.f58 [(am ae).enc ⟨12,xx,ss,rd,rn,rm,ra,a,b,c⟩] (.ret (alO (.ln (pn,[]) false))):=by
 refine ctP (ctx:=iI) Tryz.ntmps58 Tryz.results58 rfl ?_
 simp only [go_sem,hb,hk,hp]
 refine aq (ctx:=iI) ax ⟨[],[(4,[2,3]),(13,[1])],[(5,[2,3]),(6,[2,3]),(7,[2,3]),(9,[1]),(10,[1]),(11,[1]),(12,[1])]⟩ (by kernel_rfl) ?_
 simp only [go_sem,hb,hk,hp]
theorem pt13 (xx ss:Bool) (rd rn rm ra a b c:Int) (hn:ByteArray) (he:Int) (hN:dn 5 a=(hn,he)):Lf Tryz.f58 [(am ae).enc ⟨13,xx,ss,rd,rn,rm,ra,a,b,c⟩] (.ret (alO (.ln (hn,[]) (he==0)))):=by
 refine ctP (ctx:=HR) Tryz.ntmps58 Tryz.results58 rfl ?_
 simp only [go_sem,hN]
theorem NV (xx ss:Bool) (rd rn rm ra c:Int) (pn:ByteArray) (pl:List OpV) (hk:PlB ⟨14,xx,ss,rd,rn,rm,ra,15,2,c⟩) (hp:aj ⟨14,xx,ss,rd,rn,rm,ra,15,2,c⟩=(pn,pl)):Lf Tryz.f58 [(am ae).enc ⟨14,xx,ss,rd,rn,rm,ra,15,2,c⟩] (.ret (alO (.ln (pn,[]) true))):=by
 refine ctP (ctx:=iI) Tryz.ntmps58 Tryz.results58 rfl ?_
 simp only [go_sem,hk,hp]
 refine aq (ctx:=iI) ax ⟨[],[(4,[2,3]),(18,[1])],[(5,[2,3]),(6,[2,3]),(7,[2,3]),(13,[1]),(14,[1]),(15,[1]),(16,[1]),(17,[1])]⟩ (by kernel_rfl) ?_
 simp only [go_sem,hk,hp]
theorem N8 (xx ss:Bool) (rd rn rm ra c:Int) (pn:ByteArray) (pl:List OpV) (hk:PlB ⟨14,xx,ss,rd,rn,rm,ra,15,6,c⟩) (hp:aj ⟨14,xx,ss,rd,rn,rm,ra,15,6,c⟩=(pn,pl)):Lf Tryz.f58 [(am ae).enc ⟨14,xx,ss,rd,rn,rm,ra,15,6,c⟩] (.ret (alO (.ln (pn,[]) true))):=by
 refine ctP (ctx:=iI) Tryz.ntmps58 Tryz.results58 rfl ?_
 simp only [go_sem,hk,hp]
 refine aq (ctx:=iI) ax ⟨[],[(4,[2,3]),(18,[1])],[(5,[2,3]),(6,[2,3]),(7,[2,3]),(13,[1]),(14,[1]),(15,[1]),(16,[1]),(17,[1])]⟩ (by kernel_rfl) ?_
 simp only [go_sem,hk,hp]
theorem NK (xx ss:Bool) (rd rn rm ra b c:Int) (pn:ByteArray) (pl:List OpV) (hk:PlB ⟨14,xx,ss,rd,rn,rm,ra,15,b,c⟩) (hp:aj ⟨14,xx,ss,rd,rn,rm,ra,15,b,c⟩=(pn,pl)) (hb:¬b=2∧¬b=6):Lf Tryz.f58 [(am ae).enc ⟨14,xx,ss,rd,rn,rm,ra,15,b,c⟩] (.ret (alO (.ln (pn,[]) false))):=by
 refine ctP (ctx:=iI) Tryz.ntmps58 Tryz.results58 rfl ?_
 simp only [go_sem,b0 hb.1,b0 hb.2,hk,hp]
 refine aq (ctx:=iI) ax ⟨[],[(4,[2,3]),(18,[1])],[(5,[2,3]),(6,[2,3]),(7,[2,3]),(13,[1]),(14,[1]),(15,[1]),(16,[1]),(17,[1])]⟩ (by kernel_rfl) ?_
 simp only [go_sem,b0 hb.1,b0 hb.2,hk,hp]
theorem MF (xx ss:Bool) (rd rn rm ra a b c:Int) (pn:ByteArray) (pl:List OpV) (hk:PlB ⟨14,xx,ss,rd,rn,rm,ra,a,b,c⟩) (hp:aj ⟨14,xx,ss,rd,rn,rm,ra,a,b,c⟩=(pn,pl)) (ha:¬a=15):Lf Tryz.f58 [(am ae).enc ⟨14,xx,ss,rd,rn,rm,ra,a,b,c⟩] (.ret (alO (.ln (pn,[]) false))):=by
 refine ctP (ctx:=iI) Tryz.ntmps58 Tryz.results58 rfl ?_
 simp only [go_sem,b0 ha,hk,hp]
 refine aq (ctx:=iI) ax ⟨[],[(4,[2,3]),(18,[1])],[(5,[2,3]),(6,[2,3]),(7,[2,3]),(13,[1]),(14,[1]),(15,[1]),(16,[1]),(17,[1])]⟩ (by kernel_rfl) ?_
 simp only [go_sem,b0 ha,hk,hp]
theorem MG (xx ss:Bool) (rd rn rm ra a c:Int) (ha:0≤a∧a<4611686018427387904):Lf Tryz.f58 [(am ae).enc ⟨17,xx,ss,rd,rn,rm,ra,a,0,c⟩] (.ret (alO (.ln ((⟨#[115,121,115]⟩:ByteArray),lY ⟨17,xx,ss,rd,rn,rm,ra,a,0,c⟩) (rd==31)))):=by
 refine ctP (ctx:=sU) Tryz.ntmps58 Tryz.results58 rfl ?_
 have hsa:=nS ⟨17,xx,ss,rd,rn,rm,ra,a,0,c⟩ ha.1 ha.2
 simp only [go_sem,hsa]
 refine aq (ctx:=sU) ax ⟨[],[(4,[2,3,244]),(13,[1])],[(5,[2,3,244]),(6,[2,3,244]),(7,[2,3,244]),(9,[1]),(10,[1]),(11,[1]),(12,[1])]⟩ (by kernel_rfl) ?_
 simp only [go_sem,hsa]
theorem pt17 (xx ss:Bool) (rd rn rm ra a b c:Int) (hb:¬b=0) (ha:0≤a∧a<4611686018427387904):Lf Tryz.f58 [(am ae).enc ⟨17,xx,ss,rd,rn,rm,ra,a,b,c⟩] (.ret (alO (.ln ((⟨#[115,121,115]⟩:ByteArray),lY ⟨17,xx,ss,rd,rn,rm,ra,a,b,c⟩) false))):=by
 refine ctP (ctx:=sU) Tryz.ntmps58 Tryz.results58 rfl ?_
 have hsa:=nS ⟨17,xx,ss,rd,rn,rm,ra,a,b,c⟩ ha.1 ha.2
 simp only [go_sem,b0 hb,hsa]
 refine aq (ctx:=sU) ax ⟨[],[(4,[2,3,244]),(13,[1])],[(5,[2,3,244]),(6,[2,3,244]),(7,[2,3,244]),(9,[1]),(10,[1]),(11,[1]),(12,[1])]⟩ (by kernel_rfl) ?_
 simp only [go_sem,b0 hb,hsa]
theorem ptno (xx ss:Bool) (rd rn rm ra a b c:Int) (op:Int) (ho:¬op=11∧¬op=12∧¬op=13∧¬op=14∧¬op=17):Lf Tryz.f58 [(am ae).enc ⟨op,xx,ss,rd,rn,rm,ra,a,b,c⟩] (.ret (alO .no)):=by
 refine ctP (ctx:=[]) Tryz.ntmps58 Tryz.results58 rfl ?_
 simp only [go_sem,b0 ho.1,b0 ho.2.1,b0 ho.2.2.1,b0 ho.2.2.2.1,b0 ho.2.2.2.2]
end Go.Proofs.YtpjlafmhoifkmaaGreat
