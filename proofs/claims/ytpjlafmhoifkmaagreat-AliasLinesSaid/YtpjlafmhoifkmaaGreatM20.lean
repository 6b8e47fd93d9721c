import Derived.Test.YtpjlafmhoifkmaaGreatM19
set_option linter.unusedVariables false
set_option linter.unusedSimpArgs false
set_option maxRecDepth 100000
set_option maxHeartbeats 8000000
namespace Go.Proofs.YtpjlafmhoifkmaaGreat
open Go.RowKit
def sgF (b:Int):Lim:=(7,-(2 ^ (b-1).toNat),2 ^ (b-1).toNat-1)
def sgQ (b:Int):Prop:=b=7∨b=9∨b=14∨b=19∨b=21∨b=26∨b=64
theorem sg_e {b:Int} (h:sgQ b):IntKind.i64.wrap (b-1)=b-1∧(0:Int)≤b-1∧IntKind.i64.wrap (-1*2 ^ min (b-1).toNat 64)=(sgF b).2.1∧IntKind.i64.wrap (IntKind.i64.wrap (1*2 ^ min (b-1).toNat 64)-1)=(sgF b).2.2:=by
 rcases h with rfl | rfl | rfl | rfl | rfl | rfl | rfl<;>decide
def cA:aJ Tryz.prog 176 :=
 mk1 _ _ _ Tryz.func176 rfl (fun _ _=>by go_simp) (ao .i64) (sgQ) ((fun b=>.ret (dx (sgF b)))) (by rw [Tryz.ntmps176];decide) (fun b h=>by
 obtain ⟨e1,e2,e3,e4⟩:=sg_e h
 obtain ⟨x,hx⟩:∃ x,(sgF b).2.1=x:=⟨_,rfl⟩
 obtain ⟨y,hy⟩:∃ y,(sgF b).2.2=y:=⟨_,rfl⟩
 have hs:sgF b=(7,x,y):=by rw [← hx,← hy];rfl
 rw [hx] at e3
 rw [hy] at e4
 rw [hs]
 refine aa (ctx:=[]) 4000 ?_
 rw [Tryz.ntmps176,Tryz.results176]
 simp only [Tryz.f176,Option.getD_some,ag]
 simp only [go_sem]
 refine aP (ctx:=[⟨_,dN⟩]) ak [8] (by kernel_rfl) ?_
 simp only [go_sem,e1,e2,e3,e4,kO,kQ,dx,eJ])
theorem yQ {id:Nat} {h:am} {args:List AV}:(cA).run id h args=aY (au (ao .i64) (sgQ)) ((fun b=>.ret (dx (sgF b)))) h args:=rfl
theorem yv {id:Nat} {h:am} {args:List AV}:(cA).pan id h args=aZ (au (ao .i64) (sgQ)) ((fun b=>.ret (dx (sgF b)))) h args:=rfl
theorem IK:bi [1,2,3,4]=[(1,0,1),(2,0,1),(3,0,31),(4,0,31)]:=by decide
theorem D2:bi [1,2,3,4,5]=[(1,0,1),(2,0,1),(3,0,31),(4,0,31),(5,0,31)]:=by decide
theorem Hf:bi [1,2,4,5]=[(1,0,1),(2,0,1),(4,0,31),(5,0,31)]:=by decide
theorem Pg:bi [1,3]=[(1,0,1),(3,0,31)]:=by decide
theorem Mc:bi [1,3,4]=[(1,0,1),(3,0,31),(4,0,31)]:=by decide
theorem Je:bi [1,3,4,5]=[(1,0,1),(3,0,31),(4,0,31),(5,0,31)]:=by decide
theorem ef_2:bi [2]=[(2,0,1)]:=by decide
theorem HI:bi [2,3,4,5]=[(2,0,1),(3,0,31),(4,0,31),(5,0,31)]:=by decide
theorem Jb:bi [2,3,4,6]=[(2,0,1),(3,0,31),(4,0,31),(6,0,31)]:=by decide
theorem ef_3:bi [3]=[(3,0,31)]:=by decide
theorem OD:bi [3,4]=[(3,0,31),(4,0,31)]:=by decide
theorem ef_4:bi [4]=[(4,0,31)]:=by decide
theorem sg7:sgF 7=(7,-64,63):=by decide
theorem sgq7:sgQ 7:=by simp [sgQ]
theorem sg9:sgF 9=(7,-256,255):=by decide
theorem sgq9:sgQ 9:=by simp [sgQ]
theorem sg14:sgF 14=(7,-8192,8191):=by decide
theorem Rv:sgQ 14:=by simp [sgQ]
theorem sg19:sgF 19=(7,-262144,262143):=by decide
theorem Rl:sgQ 19:=by simp [sgQ]
theorem sg21:sgF 21=(7,-1048576,1048575):=by decide
theorem PT:sgQ 21:=by simp [sgQ]
theorem sg26:sgF 26=(7,-33554432,33554431):=by decide
theorem Rc:sgQ 26:=by simp [sgQ]
theorem sg64:sgF 64=(7,-9223372036854775808,9223372036854775807):=by decide
theorem Pm:sgQ 64:=by simp [sgQ]
theorem lf1:an 1=[(1,0,1),(3,0,31),(7,-1048576,1048575)]:=by decide
theorem lf2:an 2=[(1,0,1),(2,0,1),(3,0,31),(4,0,31),(7,0,4095),(8,0,1),(9,0,1)]:=by decide
theorem lf3:an 3=[(1,0,1),(3,0,31),(4,0,31),(7,-9223372036854775808,9223372036854775807),(8,0,3)]:=by decide
theorem lf4:an 4=[(1,0,1),(3,0,31),(7,0,65535),(8,0,3),(9,0,3)]:=by decide
theorem lf5:an 5=[(1,0,1),(3,0,31),(4,0,31),(7,0,63),(8,0,2),(9,0,63)]:=by decide
theorem lf6:an 6=[(1,0,1),(3,0,31),(4,0,31),(5,0,31),(7,0,63)]:=by decide
theorem lf7:an 7=[(7,-262144,262143),(8,0,15)]:=by decide
theorem lf8:an 8=[(2,0,1),(7,-33554432,33554431)]:=by decide
theorem lf9:an 9=[(1,0,1),(3,0,31),(7,-262144,262143),(8,0,1)]:=by decide
theorem lf10:an 10=[(3,0,31),(7,-8192,8191),(8,0,1),(9,0,63)]:=by decide
theorem lf11:an 11=[(4,0,31),(8,0,4)]:=by decide
theorem lf12:an 12=[(7,0,65535),(8,0,7)]:=by decide
theorem lf13:an 13=[(7,0,127)]:=by decide
theorem lf14:an 14=[(7,0,15),(8,2,6)]:=by decide
theorem lf15:an 15=[(3,0,31),(7,0,32767),(8,0,1)]:=by decide
theorem lf16:an 16=[(7,0,15),(8,0,5)]:=by decide
theorem lf17:an 17=[(3,0,31),(7,0,16383),(8,0,1)]:=by decide
theorem lf18:an 18=[(3,0,31),(7,-262144,262143),(8,0,3)]:=by decide
theorem lf19:an 19=[(2,0,1),(3,0,31),(4,0,31),(6,0,31),(7,-64,63),(8,0,2),(9,0,3)]:=by decide
theorem lf20:an 20=[(3,0,31),(4,0,31),(7,0,4095),(8,0,3),(9,0,3)]:=by decide
theorem lf21:an 21=[(3,0,31),(4,0,31),(6,0,3),(7,-256,255),(8,0,3),(9,0,3)]:=by decide
theorem lf22:an 22=[(2,0,1),(3,0,31),(4,0,31),(5,0,31),(7,2,7),(8,0,3),(9,0,3)]:=by decide
theorem lf23:an 23=[(1,0,1),(2,0,1),(3,0,31),(4,0,31),(5,0,31),(6,0,31),(7,0,2),(8,0,3)]:=by decide
theorem lf24:an 24=[(1,0,1),(2,0,1),(3,0,31),(4,0,31),(5,0,31),(7,0,63),(8,0,3),(9,0,3)]:=by decide
theorem lf25:an 25=[(1,0,1),(2,0,1),(3,0,31),(4,0,31),(5,0,31),(7,0,63),(8,0,1),(9,0,2)]:=by decide
theorem lf26:an 26=[(1,0,1),(2,0,1),(3,0,31),(4,0,31),(5,0,31),(7,0,4),(8,0,1),(9,0,7)]:=by decide
theorem lf27:an 27=[(1,0,1),(2,0,1),(3,0,31),(4,0,31),(5,0,31),(8,0,1)]:=by decide
theorem lf28:an 28=[(1,0,1),(2,0,1),(4,0,31),(5,0,31),(7,0,15),(8,0,1),(9,0,15)]:=by decide
theorem lf29:an 29=[(1,0,1),(3,0,31),(4,0,31),(5,0,31),(7,0,15),(8,0,3)]:=by decide
theorem lf30:an 30=[(1,0,1),(3,0,31),(4,0,31),(8,0,5)]:=by decide
theorem lf31:an 31=[(1,0,1),(3,0,31),(4,0,31),(5,0,31),(8,2,23)]:=by decide
theorem lf32:an 32=[(1,0,1),(3,0,31),(4,0,31),(5,0,31),(6,0,31),(8,0,7)]:=by decide
attribute [local go_sem] eJ dx kO kQ IK sgq7 Cw sQ mr sg19 sg21 PT bK tj yv D0 DH j4 sg9 sgq9 jV sg14 qv qA D2 sg7 fT Je Mc Dh Pm dZ RowL.blk ox yQ ef_3 sg26 Rv ef_2 Em Cs bw aH lY HI sg64 co Hf Pg Jb OD Rl Rc xw0 gOf ef_4
theorem Mu:SW Tryz.prog ⟨none,0⟩ Tryz.f156.ntmps (Tryz.f156.body.getD .skip) ⟨0,ag 0 [(ao .i64).enc 1],[]⟩ (ax Tryz.prog Tryz.f156.results.toList (.ret (bK (an 1)))):=by
 refine aa (ctx:=[⟨_,cZ⟩,⟨_,cA⟩,⟨_,dN⟩,⟨_,dA⟩,⟨_,faS⟩,⟨_,fbS⟩,⟨_,fcS⟩,⟨_,ft⟩]) 4000 ?_
 rw [Tryz.ntmps156,Tryz.results156]
 simp only [Tryz.f156,Option.getD_some,ag]
 simp only [go_sem,lf1,gI,gz,gC,gA,gH,gF]
theorem MJ:SW Tryz.prog ⟨none,0⟩ Tryz.f156.ntmps (Tryz.f156.body.getD .skip) ⟨0,ag 0 [(ao .i64).enc 2],[]⟩ (ax Tryz.prog Tryz.f156.results.toList (.ret (bK (an 2)))):=by
 refine aa (ctx:=[⟨_,cZ⟩,⟨_,cA⟩,⟨_,dN⟩,⟨_,dA⟩,⟨_,faS⟩,⟨_,fbS⟩,⟨_,fcS⟩,⟨_,ft⟩]) 4000 ?_
 rw [Tryz.ntmps156,Tryz.results156]
 simp only [Tryz.f156,Option.getD_some,ag]
 simp only [go_sem,lf2,gI,gz,gC,gA,gH,gF]
theorem LR:SW Tryz.prog ⟨none,0⟩ Tryz.f156.ntmps (Tryz.f156.body.getD .skip) ⟨0,ag 0 [(ao .i64).enc 3],[]⟩ (ax Tryz.prog Tryz.f156.results.toList (.ret (bK (an 3)))):=by
 refine aa (ctx:=[⟨_,cZ⟩,⟨_,cA⟩,⟨_,dN⟩,⟨_,dA⟩,⟨_,faS⟩,⟨_,fbS⟩,⟨_,fcS⟩,⟨_,ft⟩]) 4000 ?_
 rw [Tryz.ntmps156,Tryz.results156]
 simp only [Tryz.f156,Option.getD_some,ag]
 simp only [go_sem,lf3,gI,gz,gC,gA,gH,gF]
theorem MR:SW Tryz.prog ⟨none,0⟩ Tryz.f156.ntmps (Tryz.f156.body.getD .skip) ⟨0,ag 0 [(ao .i64).enc 4],[]⟩ (ax Tryz.prog Tryz.f156.results.toList (.ret (bK (an 4)))):=by
 refine aa (ctx:=[⟨_,cZ⟩,⟨_,cA⟩,⟨_,dN⟩,⟨_,dA⟩,⟨_,faS⟩,⟨_,fbS⟩,⟨_,fcS⟩,⟨_,ft⟩]) 4000 ?_
 rw [Tryz.ntmps156,Tryz.results156]
 simp only [Tryz.f156,Option.getD_some,ag]
 simp only [go_sem,lf4,gI,gz,gC,gA,gH,gF]
theorem NK:SW Tryz.prog ⟨none,0⟩ Tryz.f156.ntmps (Tryz.f156.body.getD .skip) ⟨0,ag 0 [(ao .i64).enc 5],[]⟩ (ax Tryz.prog Tryz.f156.results.toList (.ret (bK (an 5)))):=by
 refine aa (ctx:=[⟨_,cZ⟩,⟨_,cA⟩,⟨_,dN⟩,⟨_,dA⟩,⟨_,faS⟩,⟨_,fbS⟩,⟨_,fcS⟩,⟨_,ft⟩]) 4000 ?_
 rw [Tryz.ntmps156,Tryz.results156]
 simp only [Tryz.f156,Option.getD_some,ag]
 simp only [go_sem,lf5,gI,gz,gC,gA,gH,gF]
theorem Lm:SW Tryz.prog ⟨none,0⟩ Tryz.f156.ntmps (Tryz.f156.body.getD .skip) ⟨0,ag 0 [(ao .i64).enc 6],[]⟩ (ax Tryz.prog Tryz.f156.results.toList (.ret (bK (an 6)))):=by
 refine aa (ctx:=[⟨_,cZ⟩,⟨_,cA⟩,⟨_,dN⟩,⟨_,dA⟩,⟨_,faS⟩,⟨_,fbS⟩,⟨_,fcS⟩,⟨_,ft⟩]) 4000 ?_
 rw [Tryz.ntmps156,Tryz.results156]
 simp only [Tryz.f156,Option.getD_some,ag]
 simp only [go_sem,lf6,gI,gz,gC,gA,gH,gF]
theorem Lb:SW Tryz.prog ⟨none,0⟩ Tryz.f156.ntmps (Tryz.f156.body.getD .skip) ⟨0,ag 0 [(ao .i64).enc 7],[]⟩ (ax Tryz.prog Tryz.f156.results.toList (.ret (bK (an 7)))):=by
 refine aa (ctx:=[⟨_,cZ⟩,⟨_,cA⟩,⟨_,dN⟩,⟨_,dA⟩,⟨_,faS⟩,⟨_,fbS⟩,⟨_,fcS⟩,⟨_,qR⟩]) 4000 ?_
 rw [Tryz.ntmps156,Tryz.results156]
 simp only [Tryz.f156,Option.getD_some,ag]
 simp only [go_sem,lf7,gI,gz,gC,gA,gH,gF]
theorem Mw:SW Tryz.prog ⟨none,0⟩ Tryz.f156.ntmps (Tryz.f156.body.getD .skip) ⟨0,ag 0 [(ao .i64).enc 8],[]⟩ (ax Tryz.prog Tryz.f156.results.toList (.ret (bK (an 8)))):=by
 refine aa (ctx:=[⟨_,cZ⟩,⟨_,cA⟩,⟨_,dN⟩,⟨_,dA⟩,⟨_,faS⟩,⟨_,fbS⟩,⟨_,fcS⟩,⟨_,ft⟩]) 4000 ?_
 rw [Tryz.ntmps156,Tryz.results156]
 simp only [Tryz.f156,Option.getD_some,ag]
 simp only [go_sem,lf8,gI,gz,gC,gA,gH,gF]
theorem MZ:SW Tryz.prog ⟨none,0⟩ Tryz.f156.ntmps (Tryz.f156.body.getD .skip) ⟨0,ag 0 [(ao .i64).enc 9],[]⟩ (ax Tryz.prog Tryz.f156.results.toList (.ret (bK (an 9)))):=by
 refine aa (ctx:=[⟨_,cZ⟩,⟨_,cA⟩,⟨_,dN⟩,⟨_,dA⟩,⟨_,faS⟩,⟨_,fbS⟩,⟨_,fcS⟩,⟨_,ft⟩]) 4000 ?_
 rw [Tryz.ntmps156,Tryz.results156]
 simp only [Tryz.f156,Option.getD_some,ag]
 simp only [go_sem,lf9,gI,gz,gC,gA,gH,gF]
theorem Il:SW Tryz.prog ⟨none,0⟩ Tryz.f156.ntmps (Tryz.f156.body.getD .skip) ⟨0,ag 0 [(ao .i64).enc 10],[]⟩ (ax Tryz.prog Tryz.f156.results.toList (.ret (bK (an 10)))):=by
 refine aa (ctx:=[⟨_,cZ⟩,⟨_,cA⟩,⟨_,dN⟩,⟨_,dA⟩,⟨_,faS⟩,⟨_,fbS⟩,⟨_,fcS⟩,⟨_,ft⟩]) 4000 ?_
 rw [Tryz.ntmps156,Tryz.results156]
 simp only [Tryz.f156,Option.getD_some,ag]
 simp only [go_sem,lf10,gI,gz,gC,gA,gH,gF]
theorem Iw:SW Tryz.prog ⟨none,0⟩ Tryz.f156.ntmps (Tryz.f156.body.getD .skip) ⟨0,ag 0 [(ao .i64).enc 11],[]⟩ (ax Tryz.prog Tryz.f156.results.toList (.ret (bK (an 11)))):=by
 refine aa (ctx:=[⟨_,cZ⟩,⟨_,cA⟩,⟨_,dN⟩,⟨_,dA⟩,⟨_,faS⟩,⟨_,fbS⟩,⟨_,fcS⟩,⟨_,ft⟩]) 4000 ?_
 rw [Tryz.ntmps156,Tryz.results156]
 simp only [Tryz.f156,Option.getD_some,ag]
 simp only [go_sem,lf11,gI,gz,gC,gA,gH,gF]
theorem HH:SW Tryz.prog ⟨none,0⟩ Tryz.f156.ntmps (Tryz.f156.body.getD .skip) ⟨0,ag 0 [(ao .i64).enc 12],[]⟩ (ax Tryz.prog Tryz.f156.results.toList (.ret (bK (an 12)))):=by
 refine aa (ctx:=[⟨_,cZ⟩,⟨_,cA⟩,⟨_,dN⟩,⟨_,dA⟩,⟨_,faS⟩,⟨_,fbS⟩,⟨_,fcS⟩,⟨_,qR⟩]) 4000 ?_
 rw [Tryz.ntmps156,Tryz.results156]
 simp only [Tryz.f156,Option.getD_some,ag]
 simp only [go_sem,lf12,gI,gz,gC,gA,gH,gF]
theorem JW:SW Tryz.prog ⟨none,0⟩ Tryz.f156.ntmps (Tryz.f156.body.getD .skip) ⟨0,ag 0 [(ao .i64).enc 13],[]⟩ (ax Tryz.prog Tryz.f156.results.toList (.ret (bK (an 13)))):=by
 refine aa (ctx:=[⟨_,cZ⟩,⟨_,cA⟩,⟨_,dN⟩,⟨_,dA⟩,⟨_,faS⟩,⟨_,fbS⟩,⟨_,fcS⟩,⟨_,qR⟩]) 4000 ?_
 rw [Tryz.ntmps156,Tryz.results156]
 simp only [Tryz.f156,Option.getD_some,ag]
 simp only [go_sem,lf13,gI,gz,gC,gA,gH,gF]
theorem JM:SW Tryz.prog ⟨none,0⟩ Tryz.f156.ntmps (Tryz.f156.body.getD .skip) ⟨0,ag 0 [(ao .i64).enc 14],[]⟩ (ax Tryz.prog Tryz.f156.results.toList (.ret (bK (an 14)))):=by
 refine aa (ctx:=[⟨_,cZ⟩,⟨_,cA⟩,⟨_,dN⟩,⟨_,dA⟩,⟨_,faS⟩,⟨_,fbS⟩,⟨_,fcS⟩,⟨_,qR⟩]) 4000 ?_
 rw [Tryz.ntmps156,Tryz.results156]
 simp only [Tryz.f156,Option.getD_some,ag]
 simp only [go_sem,lf14,gI,gz,gC,gA,gH,gF]
theorem Iu:SW Tryz.prog ⟨none,0⟩ Tryz.f156.ntmps (Tryz.f156.body.getD .skip) ⟨0,ag 0 [(ao .i64).enc 15],[]⟩ (ax Tryz.prog Tryz.f156.results.toList (.ret (bK (an 15)))):=by
 refine aa (ctx:=[⟨_,cZ⟩,⟨_,cA⟩,⟨_,dN⟩,⟨_,dA⟩,⟨_,faS⟩,⟨_,fbS⟩,⟨_,fcS⟩,⟨_,ft⟩]) 4000 ?_
 rw [Tryz.ntmps156,Tryz.results156]
 simp only [Tryz.f156,Option.getD_some,ag]
 simp only [go_sem,lf15,gI,gz,gC,gA,gH,gF]
theorem I1:SW Tryz.prog ⟨none,0⟩ Tryz.f156.ntmps (Tryz.f156.body.getD .skip) ⟨0,ag 0 [(ao .i64).enc 16],[]⟩ (ax Tryz.prog Tryz.f156.results.toList (.ret (bK (an 16)))):=by
 refine aa (ctx:=[⟨_,cZ⟩,⟨_,cA⟩,⟨_,dN⟩,⟨_,dA⟩,⟨_,faS⟩,⟨_,fbS⟩,⟨_,fcS⟩,⟨_,qR⟩]) 4000 ?_
 rw [Tryz.ntmps156,Tryz.results156]
 simp only [Tryz.f156,Option.getD_some,ag]
 simp only [go_sem,lf16,gI,gz,gC,gA,gH,gF]
theorem JU:SW Tryz.prog ⟨none,0⟩ Tryz.f156.ntmps (Tryz.f156.body.getD .skip) ⟨0,ag 0 [(ao .i64).enc 17],[]⟩ (ax Tryz.prog Tryz.f156.results.toList (.ret (bK (an 17)))):=by
 refine aa (ctx:=[⟨_,cZ⟩,⟨_,cA⟩,⟨_,dN⟩,⟨_,dA⟩,⟨_,faS⟩,⟨_,fbS⟩,⟨_,fcS⟩,⟨_,ft⟩]) 4000 ?_
 rw [Tryz.ntmps156,Tryz.results156]
 simp only [Tryz.f156,Option.getD_some,ag]
 simp only [go_sem,lf17,gI,gz,gC,gA,gH,gF]
theorem Gb:SW Tryz.prog ⟨none,0⟩ Tryz.f157.ntmps (Tryz.f157.body.getD .skip) ⟨0,ag 0 [(ao .i64).enc 18],[]⟩ (ax Tryz.prog Tryz.f157.results.toList (.ret (bK (an 18)))):=by
 refine aa (ctx:=[⟨_,cZ⟩,⟨_,cA⟩,⟨_,dN⟩,⟨_,dA⟩,⟨_,saS⟩,⟨_,sbS⟩,⟨_,scS⟩,⟨_,ft⟩]) 4000 ?_
 rw [Tryz.ntmps157,Tryz.results157]
 simp only [Tryz.f157,Option.getD_some,ag]
 simp only [go_sem,lf18,ii,hH,im,ik,g8,ia]
theorem Dy:SW Tryz.prog ⟨none,0⟩ Tryz.f157.ntmps (Tryz.f157.body.getD .skip) ⟨0,ag 0 [(ao .i64).enc 19],[]⟩ (ax Tryz.prog Tryz.f157.results.toList (.ret (bK (an 19)))):=by
 refine aa (ctx:=[⟨_,cZ⟩,⟨_,cA⟩,⟨_,dN⟩,⟨_,dA⟩,⟨_,saS⟩,⟨_,sbS⟩,⟨_,scS⟩,⟨_,ft⟩]) 4000 ?_
 rw [Tryz.ntmps157,Tryz.results157]
 simp only [Tryz.f157,Option.getD_some,ag]
 simp only [go_sem,lf19,ii,hH,im,ik,g8,ia]
theorem Ep:SW Tryz.prog ⟨none,0⟩ Tryz.f157.ntmps (Tryz.f157.body.getD .skip) ⟨0,ag 0 [(ao .i64).enc 20],[]⟩ (ax Tryz.prog Tryz.f157.results.toList (.ret (bK (an 20)))):=by
 refine aa (ctx:=[⟨_,cZ⟩,⟨_,cA⟩,⟨_,dN⟩,⟨_,dA⟩,⟨_,saS⟩,⟨_,sbS⟩,⟨_,scS⟩,⟨_,ft⟩]) 4000 ?_
 rw [Tryz.ntmps157,Tryz.results157]
 simp only [Tryz.f157,Option.getD_some,ag]
 simp only [go_sem,lf20,ii,hH,im,ik,g8,ia]
theorem Ha:SW Tryz.prog ⟨none,0⟩ Tryz.f157.ntmps (Tryz.f157.body.getD .skip) ⟨0,ag 0 [(ao .i64).enc 21],[]⟩ (ax Tryz.prog Tryz.f157.results.toList (.ret (bK (an 21)))):=by
 refine aa (ctx:=[⟨_,cZ⟩,⟨_,cA⟩,⟨_,dN⟩,⟨_,dA⟩,⟨_,saS⟩,⟨_,sbS⟩,⟨_,scS⟩,⟨_,ft⟩]) 4000 ?_
 rw [Tryz.ntmps157,Tryz.results157]
 simp only [Tryz.f157,Option.getD_some,ag]
 simp only [go_sem,lf21,ii,hH,im,ik,g8,ia]
theorem GH:SW Tryz.prog ⟨none,0⟩ Tryz.f157.ntmps (Tryz.f157.body.getD .skip) ⟨0,ag 0 [(ao .i64).enc 22],[]⟩ (ax Tryz.prog Tryz.f157.results.toList (.ret (bK (an 22)))):=by
 refine aa (ctx:=[⟨_,cZ⟩,⟨_,cA⟩,⟨_,dN⟩,⟨_,dA⟩,⟨_,saS⟩,⟨_,sbS⟩,⟨_,scS⟩,⟨_,ft⟩]) 4000 ?_
 rw [Tryz.ntmps157,Tryz.results157]
 simp only [Tryz.f157,Option.getD_some,ag]
 simp only [go_sem,lf22,ii,hH,im,ik,g8,ia]
theorem Du:SW Tryz.prog ⟨none,0⟩ Tryz.f157.ntmps (Tryz.f157.body.getD .skip) ⟨0,ag 0 [(ao .i64).enc 23],[]⟩ (ax Tryz.prog Tryz.f157.results.toList (.ret (bK (an 23)))):=by
 refine aa (ctx:=[⟨_,cZ⟩,⟨_,cA⟩,⟨_,dN⟩,⟨_,dA⟩,⟨_,saS⟩,⟨_,sbS⟩,⟨_,scS⟩,⟨_,ft⟩]) 4000 ?_
 rw [Tryz.ntmps157,Tryz.results157]
 simp only [Tryz.f157,Option.getD_some,ag]
 simp only [go_sem,lf23,ii,hH,im,ik,g8,ia]
theorem Dj:SW Tryz.prog ⟨none,0⟩ Tryz.f157.ntmps (Tryz.f157.body.getD .skip) ⟨0,ag 0 [(ao .i64).enc 24],[]⟩ (ax Tryz.prog Tryz.f157.results.toList (.ret (bK (an 24)))):=by
 refine aa (ctx:=[⟨_,cZ⟩,⟨_,cA⟩,⟨_,dN⟩,⟨_,dA⟩,⟨_,saS⟩,⟨_,sbS⟩,⟨_,scS⟩,⟨_,ft⟩]) 4000 ?_
 rw [Tryz.ntmps157,Tryz.results157]
 simp only [Tryz.f157,Option.getD_some,ag]
 simp only [go_sem,lf24,ii,hH,im,ik,g8,ia]
theorem FQ:SW Tryz.prog ⟨none,0⟩ Tryz.f157.ntmps (Tryz.f157.body.getD .skip) ⟨0,ag 0 [(ao .i64).enc 25],[]⟩ (ax Tryz.prog Tryz.f157.results.toList (.ret (bK (an 25)))):=by
 refine aa (ctx:=[⟨_,cZ⟩,⟨_,cA⟩,⟨_,dN⟩,⟨_,dA⟩,⟨_,saS⟩,⟨_,sbS⟩,⟨_,scS⟩,⟨_,ft⟩]) 4000 ?_
 rw [Tryz.ntmps157,Tryz.results157]
 simp only [Tryz.f157,Option.getD_some,ag]
 simp only [go_sem,lf25,ii,hH,im,ik,g8,ia]
theorem DB:SW Tryz.prog ⟨none,0⟩ Tryz.f157.ntmps (Tryz.f157.body.getD .skip) ⟨0,ag 0 [(ao .i64).enc 26],[]⟩ (ax Tryz.prog Tryz.f157.results.toList (.ret (bK (an 26)))):=by
 refine aa (ctx:=[⟨_,cZ⟩,⟨_,cA⟩,⟨_,dN⟩,⟨_,dA⟩,⟨_,saS⟩,⟨_,sbS⟩,⟨_,scS⟩,⟨_,ft⟩]) 4000 ?_
 rw [Tryz.ntmps157,Tryz.results157]
 simp only [Tryz.f157,Option.getD_some,ag]
 simp only [go_sem,lf26,ii,hH,im,ik,g8,ia]
theorem Hd:SW Tryz.prog ⟨none,0⟩ Tryz.f157.ntmps (Tryz.f157.body.getD .skip) ⟨0,ag 0 [(ao .i64).enc 27],[]⟩ (ax Tryz.prog Tryz.f157.results.toList (.ret (bK (an 27)))):=by
 refine aa (ctx:=[⟨_,cZ⟩,⟨_,cA⟩,⟨_,dN⟩,⟨_,dA⟩,⟨_,saS⟩,⟨_,sbS⟩,⟨_,scS⟩,⟨_,ft⟩]) 4000 ?_
 rw [Tryz.ntmps157,Tryz.results157]
 simp only [Tryz.f157,Option.getD_some,ag]
 simp only [go_sem,lf27,ii,hH,im,ik,g8,ia]
theorem En:SW Tryz.prog ⟨none,0⟩ Tryz.f157.ntmps (Tryz.f157.body.getD .skip) ⟨0,ag 0 [(ao .i64).enc 28],[]⟩ (ax Tryz.prog Tryz.f157.results.toList (.ret (bK (an 28)))):=by
 refine aa (ctx:=[⟨_,cZ⟩,⟨_,cA⟩,⟨_,dN⟩,⟨_,dA⟩,⟨_,saS⟩,⟨_,sbS⟩,⟨_,scS⟩,⟨_,ft⟩]) 4000 ?_
 rw [Tryz.ntmps157,Tryz.results157]
 simp only [Tryz.f157,Option.getD_some,ag]
 simp only [go_sem,lf28,ii,hH,im,ik,g8,ia]
theorem Dd:SW Tryz.prog ⟨none,0⟩ Tryz.f157.ntmps (Tryz.f157.body.getD .skip) ⟨0,ag 0 [(ao .i64).enc 29],[]⟩ (ax Tryz.prog Tryz.f157.results.toList (.ret (bK (an 29)))):=by
 refine aa (ctx:=[⟨_,cZ⟩,⟨_,cA⟩,⟨_,dN⟩,⟨_,dA⟩,⟨_,saS⟩,⟨_,sbS⟩,⟨_,scS⟩,⟨_,ft⟩]) 4000 ?_
 rw [Tryz.ntmps157,Tryz.results157]
 simp only [Tryz.f157,Option.getD_some,ag]
 simp only [go_sem,lf29,ii,hH,im,ik,g8,ia]
theorem FC:SW Tryz.prog ⟨none,0⟩ Tryz.f157.ntmps (Tryz.f157.body.getD .skip) ⟨0,ag 0 [(ao .i64).enc 30],[]⟩ (ax Tryz.prog Tryz.f157.results.toList (.ret (bK (an 30)))):=by
 refine aa (ctx:=[⟨_,cZ⟩,⟨_,cA⟩,⟨_,dN⟩,⟨_,dA⟩,⟨_,saS⟩,⟨_,sbS⟩,⟨_,scS⟩,⟨_,ft⟩]) 4000 ?_
 rw [Tryz.ntmps157,Tryz.results157]
 simp only [Tryz.f157,Option.getD_some,ag]
 simp only [go_sem,lf30,ii,hH,im,ik,g8,ia]
theorem E3:SW Tryz.prog ⟨none,0⟩ Tryz.f157.ntmps (Tryz.f157.body.getD .skip) ⟨0,ag 0 [(ao .i64).enc 31],[]⟩ (ax Tryz.prog Tryz.f157.results.toList (.ret (bK (an 31)))):=by
 refine aa (ctx:=[⟨_,cZ⟩,⟨_,cA⟩,⟨_,dN⟩,⟨_,dA⟩,⟨_,saS⟩,⟨_,sbS⟩,⟨_,scS⟩,⟨_,ft⟩]) 4000 ?_
 rw [Tryz.ntmps157,Tryz.results157]
 simp only [Tryz.f157,Option.getD_some,ag]
 simp only [go_sem,lf31,ii,hH,im,ik,g8,ia]
theorem FP:SW Tryz.prog ⟨none,0⟩ Tryz.f157.ntmps (Tryz.f157.body.getD .skip) ⟨0,ag 0 [(ao .i64).enc 32],[]⟩ (ax Tryz.prog Tryz.f157.results.toList (.ret (bK (an 32)))):=by
 refine aa (ctx:=[⟨_,cZ⟩,⟨_,cA⟩,⟨_,dN⟩,⟨_,dA⟩,⟨_,saS⟩,⟨_,sbS⟩,⟨_,scS⟩,⟨_,ft⟩]) 4000 ?_
 rw [Tryz.ntmps157,Tryz.results157]
 simp only [Tryz.f157,Option.getD_some,ag]
 simp only [go_sem,lf32,ii,hH,im,ik,g8,ia]
def jb:AV:=.s (.l (.v (.slice none 0 0)))
def opQ (op:Int):Prop:=1≤op∧op≤32
def cD (op:Int):AV:=if 1≤op∧op≤32 then bK (an op) else jb
theorem xa {op:Int} (h:op<1∨17<op):SW Tryz.prog ⟨none,0⟩ Tryz.f156.ntmps (Tryz.f156.body.getD .skip) ⟨0,ag 0 [(ao .i64).enc op],[]⟩ (ax Tryz.prog Tryz.f156.results.toList (.ret jb)):=by
 refine aa (ctx:=[]) 4000 ?_
 rw [Tryz.ntmps156,Tryz.results156]
 simp only [Tryz.f156,Option.getD_some,ag]
 have b1:(op==1)=false:=by
  simp only [beq_eq_false_iff_ne,ne_eq]
  omega
 have b2:(op==2)=false:=by
  simp only [beq_eq_false_iff_ne,ne_eq]
  omega
 have b3:(op==3)=false:=by
  simp only [beq_eq_false_iff_ne,ne_eq]
  omega
 have b4:(op==4)=false:=by
  simp only [beq_eq_false_iff_ne,ne_eq]
  omega
 have b5:(op==5)=false:=by
  simp only [beq_eq_false_iff_ne,ne_eq]
  omega
 have b6:(op==6)=false:=by
  simp only [beq_eq_false_iff_ne,ne_eq]
  omega
 have b7:(op==7)=false:=by
  simp only [beq_eq_false_iff_ne,ne_eq]
  omega
 have b8:(op==8)=false:=by
  simp only [beq_eq_false_iff_ne,ne_eq]
  omega
 have b9:(op==9)=false:=by
  simp only [beq_eq_false_iff_ne,ne_eq]
  omega
 have b10:(op==10)=false:=by
  simp only [beq_eq_false_iff_ne,ne_eq]
  omega
 have b11:(op==11)=false:=by
  simp only [beq_eq_false_iff_ne,ne_eq]
  omega
 have b12:(op==12)=false:=by
  simp only [beq_eq_false_iff_ne,ne_eq]
  omega
 have b13:(op==13)=false:=by
  simp only [beq_eq_false_iff_ne,ne_eq]
  omega
 have b14:(op==14)=false:=by
  simp only [beq_eq_false_iff_ne,ne_eq]
  omega
 have b15:(op==15)=false:=by
  simp only [beq_eq_false_iff_ne,ne_eq]
  omega
 have b16:(op==16)=false:=by
  simp only [beq_eq_false_iff_ne,ne_eq]
  omega
 have b17:(op==17)=false:=by
  simp only [beq_eq_false_iff_ne,ne_eq]
  omega
 simp only [go_sem,b1,b2,b3,b4,b5,b6,b7,b8,b9,b10,b11,b12,b13,b14,b15,b16,b17,jb]
theorem vN {op:Int} (h:32<op):SW Tryz.prog ⟨none,0⟩ Tryz.f157.ntmps (Tryz.f157.body.getD .skip) ⟨0,ag 0 [(ao .i64).enc op],[]⟩ (ax Tryz.prog Tryz.f157.results.toList (.ret jb)):=by
 refine aa (ctx:=[⟨_,cZ⟩]) 4000 ?_
 rw [Tryz.ntmps157,Tryz.results157]
 simp only [Tryz.f157,Option.getD_some,ag]
 have b18:(op==18)=false:=by
  simp only [beq_eq_false_iff_ne,ne_eq]
  omega
 have b19:(op==19)=false:=by
  simp only [beq_eq_false_iff_ne,ne_eq]
  omega
 have b20:(op==20)=false:=by
  simp only [beq_eq_false_iff_ne,ne_eq]
  omega
 have b21:(op==21)=false:=by
  simp only [beq_eq_false_iff_ne,ne_eq]
  omega
 have b22:(op==22)=false:=by
  simp only [beq_eq_false_iff_ne,ne_eq]
  omega
 have b23:(op==23)=false:=by
  simp only [beq_eq_false_iff_ne,ne_eq]
  omega
 have b24:(op==24)=false:=by
  simp only [beq_eq_false_iff_ne,ne_eq]
  omega
 have b25:(op==25)=false:=by
  simp only [beq_eq_false_iff_ne,ne_eq]
  omega
 have b26:(op==26)=false:=by
  simp only [beq_eq_false_iff_ne,ne_eq]
  omega
 have b27:(op==27)=false:=by
  simp only [beq_eq_false_iff_ne,ne_eq]
  omega
 have b28:(op==28)=false:=by
  simp only [beq_eq_false_iff_ne,ne_eq]
  omega
 have b29:(op==29)=false:=by
  simp only [beq_eq_false_iff_ne,ne_eq]
  omega
 have b30:(op==30)=false:=by
  simp only [beq_eq_false_iff_ne,ne_eq]
  omega
 have b31:(op==31)=false:=by
  simp only [beq_eq_false_iff_ne,ne_eq]
  omega
 have b32:(op==32)=false:=by
  simp only [beq_eq_false_iff_ne,ne_eq]
  omega
 simp only [go_sem,b18,b19,b20,b21,b22,b23,b24,b25,b26,b27,b28,b29,b30,b31,b32,jb]
def yS:aJ Tryz.prog 156 :=
 mk1 _ _ _ Tryz.func156 rfl (fun _ _=>by go_simp) (ao .i64) ((fun op=>op≤17)) ((fun op=>.ret (cD op))) (by rw [Tryz.ntmps156];decide) (fun op h=>by
 by_cases h1:1≤op
 ·have e:cD op=bK (an op):=by unfold cD;rw [if_pos (by omega)]
  rw [e]
  have:op=1∨op=2∨op=3∨op=4∨op=5∨op=6∨op=7∨op=8∨op=9∨op=10∨op=11∨op=12∨op=13∨op=14∨op=15∨op=16∨op=17:=by omega
  rcases this with rfl | rfl | rfl | rfl | rfl | rfl | rfl | rfl | rfl | rfl | rfl | rfl | rfl | rfl | rfl | rfl | rfl
  ·exact Mu
  ·exact MJ
  ·exact LR
  ·exact MR
  ·exact NK
  ·exact Lm
  ·exact Lb
  ·exact Mw
  ·exact MZ
  ·exact Il
  ·exact Iw
  ·exact HH
  ·exact JW
  ·exact JM
  ·exact Iu
  ·exact I1
  ·exact JU
 ·have e:cD op=jb:=by unfold cD;rw [if_neg (by omega)]
  rw [e]
  exact xa (by omega))
theorem to {id:Nat} {h:am} {args:List AV}:(yS).run id h args=aY (au (ao .i64) ((fun op=>op≤17))) ((fun op=>.ret (cD op))) h args:=rfl
theorem sW {id:Nat} {h:am} {args:List AV}:(yS).pan id h args=aZ (au (ao .i64) ((fun op=>op≤17))) ((fun op=>.ret (cD op))) h args:=rfl
def u8:aJ Tryz.prog 157 :=
 mk1 _ _ _ Tryz.func157 rfl (fun _ _=>by go_simp) (ao .i64) ((fun op=>18≤op)) ((fun op=>.ret (cD op))) (by rw [Tryz.ntmps157];decide) (fun op h=>by
 by_cases h1:op≤32
 ·have e:cD op=bK (an op):=by unfold cD;rw [if_pos (by omega)]
  rw [e]
  have:op=18∨op=19∨op=20∨op=21∨op=22∨op=23∨op=24∨op=25∨op=26∨op=27∨op=28∨op=29∨op=30∨op=31∨op=32:=by omega
  rcases this with rfl | rfl | rfl | rfl | rfl | rfl | rfl | rfl | rfl | rfl | rfl | rfl | rfl | rfl | rfl
  ·exact Gb
  ·exact Dy
  ·exact Ep
  ·exact Ha
  ·exact GH
  ·exact Du
  ·exact Dj
  ·exact FQ
  ·exact DB
  ·exact Hd
  ·exact En
  ·exact Dd
  ·exact FC
  ·exact E3
  ·exact FP
 ·have e:cD op=jb:=by unfold cD;rw [if_neg (by omega)]
  rw [e]
  exact vN (by omega))
theorem qU {id:Nat} {h:am} {args:List AV}:(u8).run id h args=aY (au (ao .i64) ((fun op=>18≤op))) ((fun op=>.ret (cD op))) h args:=rfl
theorem rA {id:Nat} {h:am} {args:List AV}:(u8).pan id h args=aZ (au (ao .i64) ((fun op=>18≤op))) ((fun op=>.ret (cD op))) h args:=rfl
def oQ:aJ Tryz.prog 95 :=
 mk1 _ _ _ Tryz.func95 rfl (fun _ _=>by go_simp) (ao .i64) ((fun _=>True)) ((fun op=>.ret (cD op))) (by rw [Tryz.ntmps95];decide) (fun op _=>by
 refine aa (ctx:=[⟨_,yS⟩,⟨_,u8⟩]) 4000 ?_
 rw [Tryz.ntmps95,Tryz.results95]
 simp only [Tryz.f95,Option.getD_some,ag]
 by_cases h1:op≤17
 ·by_cases h2:1≤op∧op≤32
  ·have e:cD op=bK (an op):=by unfold cD;rw [if_pos h2]
   rw [e]
   simp only [go_sem,to,sW,h1,e]
  ·have e:cD op=jb:=by unfold cD;rw [if_neg h2]
   rw [e]
   simp only [go_sem,to,sW,h1,e,jb]
 ·have h3:18≤op:=by omega
  by_cases h2:1≤op∧op≤32
  ·have e:cD op=bK (an op):=by unfold cD;rw [if_pos h2]
   rw [e]
   simp only [go_sem,qU,rA,h1,h3,e]
  ·have e:cD op=jb:=by unfold cD;rw [if_neg h2]
   rw [e]
   simp only [go_sem,qU,rA,h1,h3,e,jb])
theorem nP {id:Nat} {h:am} {args:List AV}:(oQ).run id h args=aY (au (ao .i64) ((fun _=>True))) ((fun op=>.ret (cD op))) h args:=rfl
theorem nW {id:Nat} {h:am} {args:List AV}:(oQ).pan id h args=aZ (au (ao .i64) ((fun _=>True))) ((fun op=>.ret (cD op))) h args:=rfl
end Go.Proofs.YtpjlafmhoifkmaaGreat
