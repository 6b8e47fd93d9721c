import Derived.Test.YtpjlafmhoifkmaaGreatN19
set_option linter.unusedVariables false
set_option linter.unusedSimpArgs false
set_option maxRecDepth 100000
set_option maxHeartbeats 8000000
namespace Go.Proofs.YtpjlafmhoifkmaaGreat
open Go.RowKit
def sgF (b:Int):Lim:=(7,-(2 ^ (b-1).toNat),2 ^ (b-1).toNat-1)
def sgQ (b:Int):Prop:=b=7∨b=9∨b=14∨b=19∨b=21∨b=26∨b=64
theorem sg_e {b:Int} (h:sgQ b):IntKind.i64.wrap (b-1)=b-1∧(0:Int)≤b-1∧IntKind.i64.wrap (-1*2 ^ min (b-1).toNat 64)=(sgF b).2.1∧IntKind.i64.wrap (IntKind.i64.wrap (1*2 ^ min (b-1).toNat 64)-1)=(sgF b).2.2:=by
 rcases h with rfl | rfl | rfl | rfl | rfl | rfl | rfl<;>decide
def bR:aQ Tryz.prog 176 :=
 mk1 _ _ _ Tryz.func176 rfl (fun _ _=>by go_simp) (ar .i64) (sgQ) ((fun b=>.ret (cD (sgF b)))) (by rw [Tryz.ntmps176];decide) (fun b h=>by
 obtain ⟨e1,e2,e3,e4⟩:=sg_e h
 obtain ⟨x,hx⟩:∃ x,(sgF b).2.1=x:=⟨_,rfl⟩
 obtain ⟨y,hy⟩:∃ y,(sgF b).2.2=y:=⟨_,rfl⟩
 have hs:sgF b=(7,x,y):=by rw [← hx,← hy];rfl
 rw [hx] at e3
 rw [hy] at e4
 rw [hs]
 refine aa (ctx:=[]) 4000 ?_
 rw [Tryz.ntmps176,Tryz.results176]
 simp only [Tryz.f176,Option.getD_some,ag]
 simp only [go_sem]
 refine aI (ctx:=[⟨_,cQ⟩]) ax [8] (by kernel_rfl) ?_
 simp only [go_sem,e1,e2,e3,e4,iM,iR,cD,dx])
theorem wE {id:Nat} {h:ah} {args:List AV}:(bR).run id h args=bm (av (ar .i64) (sgQ)) ((fun b=>.ret (cD (sgF b)))) h args:=rfl
theorem vX {id:Nat} {h:ah} {args:List AV}:(bR).pan id h args=bt (av (ar .i64) (sgQ)) ((fun b=>.ret (cD (sgF b)))) h args:=rfl
theorem Fs:aU [1,2,3,4]=[(1,0,1),(2,0,1),(3,0,31),(4,0,31)]:=by decide
theorem Bd:aU [1,2,3,4,5]=[(1,0,1),(2,0,1),(3,0,31),(4,0,31),(5,0,31)]:=by decide
theorem G6:aU [1,2,4,5]=[(1,0,1),(2,0,1),(4,0,31),(5,0,31)]:=by decide
theorem OC:aU [1,3]=[(1,0,1),(3,0,31)]:=by decide
theorem IL:aU [1,3,4]=[(1,0,1),(3,0,31),(4,0,31)]:=by decide
theorem FY:aU [1,3,4,5]=[(1,0,1),(3,0,31),(4,0,31),(5,0,31)]:=by decide
theorem ef_2:aU [2]=[(2,0,1)]:=by decide
theorem E8:aU [2,3,4,5]=[(2,0,1),(3,0,31),(4,0,31),(5,0,31)]:=by decide
theorem Fp:aU [2,3,4,6]=[(2,0,1),(3,0,31),(4,0,31),(6,0,31)]:=by decide
theorem ef_3:aU [3]=[(3,0,31)]:=by decide
theorem Mo:aU [3,4]=[(3,0,31),(4,0,31)]:=by decide
theorem ef_4:aU [4]=[(4,0,31)]:=by decide
theorem sg7:sgF 7=(7,-64,63):=by decide
theorem sgq7:sgQ 7:=by simp [sgQ]
theorem sg9:sgF 9=(7,-256,255):=by decide
theorem sgq9:sgQ 9:=by simp [sgQ]
theorem sg14:sgF 14=(7,-8192,8191):=by decide
theorem Mf:sgQ 14:=by simp [sgQ]
theorem sg19:sgF 19=(7,-262144,262143):=by decide
theorem LP:sgQ 19:=by simp [sgQ]
theorem sg21:sgF 21=(7,-1048576,1048575):=by decide
theorem LH:sgQ 21:=by simp [sgQ]
theorem sg26:sgF 26=(7,-33554432,33554431):=by decide
theorem NA:sgQ 26:=by simp [sgQ]
theorem sg64:sgF 64=(7,-9223372036854775808,9223372036854775807):=by decide
theorem Lg:sgQ 64:=by simp [sgQ]
theorem lf1:ac 1=[(1,0,1),(3,0,31),(7,-1048576,1048575)]:=by decide
theorem lf2:ac 2=[(1,0,1),(2,0,1),(3,0,31),(4,0,31),(7,0,4095),(8,0,1),(9,0,1)]:=by decide
theorem lf3:ac 3=[(1,0,1),(3,0,31),(4,0,31),(7,-9223372036854775808,9223372036854775807),(8,0,3)]:=by decide
theorem lf4:ac 4=[(1,0,1),(3,0,31),(7,0,65535),(8,0,3),(9,0,3)]:=by decide
theorem lf5:ac 5=[(1,0,1),(3,0,31),(4,0,31),(7,0,63),(8,0,2),(9,0,63)]:=by decide
theorem lf6:ac 6=[(1,0,1),(3,0,31),(4,0,31),(5,0,31),(7,0,63)]:=by decide
theorem lf7:ac 7=[(7,-262144,262143),(8,0,15)]:=by decide
theorem lf8:ac 8=[(2,0,1),(7,-33554432,33554431)]:=by decide
theorem lf9:ac 9=[(1,0,1),(3,0,31),(7,-262144,262143),(8,0,1)]:=by decide
theorem lf10:ac 10=[(3,0,31),(7,-8192,8191),(8,0,1),(9,0,63)]:=by decide
theorem lf11:ac 11=[(4,0,31),(8,0,4)]:=by decide
theorem lf12:ac 12=[(7,0,65535),(8,0,7)]:=by decide
theorem lf13:ac 13=[(7,0,127)]:=by decide
theorem lf14:ac 14=[(7,0,15),(8,2,6)]:=by decide
theorem lf15:ac 15=[(3,0,31),(7,0,32767),(8,0,1)]:=by decide
theorem lf16:ac 16=[(7,0,15),(8,0,5)]:=by decide
theorem lf17:ac 17=[(3,0,31),(7,0,16383),(8,0,1)]:=by decide
theorem lf18:ac 18=[(3,0,31),(7,-262144,262143),(8,0,3)]:=by decide
theorem lf19:ac 19=[(2,0,1),(3,0,31),(4,0,31),(6,0,31),(7,-64,63),(8,0,2),(9,0,3)]:=by decide
theorem lf20:ac 20=[(3,0,31),(4,0,31),(7,0,4095),(8,0,3),(9,0,3)]:=by decide
theorem lf21:ac 21=[(3,0,31),(4,0,31),(6,0,3),(7,-256,255),(8,0,3),(9,0,3)]:=by decide
theorem lf22:ac 22=[(2,0,1),(3,0,31),(4,0,31),(5,0,31),(7,2,7),(8,0,3),(9,0,3)]:=by decide
theorem lf23:ac 23=[(1,0,1),(2,0,1),(3,0,31),(4,0,31),(5,0,31),(6,0,31),(7,0,2),(8,0,3)]:=by decide
theorem lf24:ac 24=[(1,0,1),(2,0,1),(3,0,31),(4,0,31),(5,0,31),(7,0,63),(8,0,3),(9,0,3)]:=by decide
theorem lf25:ac 25=[(1,0,1),(2,0,1),(3,0,31),(4,0,31),(5,0,31),(7,0,63),(8,0,1),(9,0,2)]:=by decide
theorem lf26:ac 26=[(1,0,1),(2,0,1),(3,0,31),(4,0,31),(5,0,31),(7,0,4),(8,0,1),(9,0,7)]:=by decide
theorem lf27:ac 27=[(1,0,1),(2,0,1),(3,0,31),(4,0,31),(5,0,31),(8,0,1)]:=by decide
theorem lf28:ac 28=[(1,0,1),(2,0,1),(4,0,31),(5,0,31),(7,0,15),(8,0,1),(9,0,15)]:=by decide
theorem lf29:ac 29=[(1,0,1),(3,0,31),(4,0,31),(5,0,31),(7,0,15),(8,0,3)]:=by decide
theorem lf30:ac 30=[(1,0,1),(3,0,31),(4,0,31),(8,0,5)]:=by decide
theorem lf31:ac 31=[(1,0,1),(3,0,31),(4,0,31),(5,0,31),(8,2,23)]:=by decide
theorem lf32:ac 32=[(1,0,1),(3,0,31),(4,0,31),(5,0,31),(6,0,31),(8,0,7)]:=by decide
attribute [local go_sem] dx cD iM iR Fs sgq7 xV qe jC sg19 sg21 LH bq qm vX AM Dv gF sg9 sgq9 gG sg14 nM nD Bd sg7 ee FY IL DD Lg cX RowL.blk lb wE ef_3 sg26 Mf ef_2 Ck yb aY aG jv E8 sg64 bT G6 OC Fp Mo LP NA xw0 gOf ef_4
theorem J5:SW Tryz.prog ⟨none,0⟩ Tryz.f156.ntmps (Tryz.f156.body.getD .skip) ⟨0,ag 0 [(ar .i64).enc 1],[]⟩ (aH Tryz.prog Tryz.f156.results.toList (.ret (bq (ac 1)))):=by
 refine aa (ctx:=[⟨_,co⟩,⟨_,bR⟩,⟨_,cQ⟩,⟨_,cE⟩,⟨_,faS⟩,⟨_,fbS⟩,⟨_,fcS⟩,⟨_,dJ⟩]) 4000 ?_
 rw [Tryz.ntmps156,Tryz.results156]
 simp only [Tryz.f156,Option.getD_some,ag]
 simp only [go_sem,lf1,eu,es,eB,eE,eC,eD]
theorem IM:SW Tryz.prog ⟨none,0⟩ Tryz.f156.ntmps (Tryz.f156.body.getD .skip) ⟨0,ag 0 [(ar .i64).enc 2],[]⟩ (aH Tryz.prog Tryz.f156.results.toList (.ret (bq (ac 2)))):=by
 refine aa (ctx:=[⟨_,co⟩,⟨_,bR⟩,⟨_,cQ⟩,⟨_,cE⟩,⟨_,faS⟩,⟨_,fbS⟩,⟨_,fcS⟩,⟨_,dJ⟩]) 4000 ?_
 rw [Tryz.ntmps156,Tryz.results156]
 simp only [Tryz.f156,Option.getD_some,ag]
 simp only [go_sem,lf2,eu,es,eB,eE,eC,eD]
theorem IK:SW Tryz.prog ⟨none,0⟩ Tryz.f156.ntmps (Tryz.f156.body.getD .skip) ⟨0,ag 0 [(ar .i64).enc 3],[]⟩ (aH Tryz.prog Tryz.f156.results.toList (.ret (bq (ac 3)))):=by
 refine aa (ctx:=[⟨_,co⟩,⟨_,bR⟩,⟨_,cQ⟩,⟨_,cE⟩,⟨_,faS⟩,⟨_,fbS⟩,⟨_,fcS⟩,⟨_,dJ⟩]) 4000 ?_
 rw [Tryz.ntmps156,Tryz.results156]
 simp only [Tryz.f156,Option.getD_some,ag]
 simp only [go_sem,lf3,eu,es,eB,eE,eC,eD]
theorem J4:SW Tryz.prog ⟨none,0⟩ Tryz.f156.ntmps (Tryz.f156.body.getD .skip) ⟨0,ag 0 [(ar .i64).enc 4],[]⟩ (aH Tryz.prog Tryz.f156.results.toList (.ret (bq (ac 4)))):=by
 refine aa (ctx:=[⟨_,co⟩,⟨_,bR⟩,⟨_,cQ⟩,⟨_,cE⟩,⟨_,faS⟩,⟨_,fbS⟩,⟨_,fcS⟩,⟨_,dJ⟩]) 4000 ?_
 rw [Tryz.ntmps156,Tryz.results156]
 simp only [Tryz.f156,Option.getD_some,ag]
 simp only [go_sem,lf4,eu,es,eB,eE,eC,eD]
theorem JS:SW Tryz.prog ⟨none,0⟩ Tryz.f156.ntmps (Tryz.f156.body.getD .skip) ⟨0,ag 0 [(ar .i64).enc 5],[]⟩ (aH Tryz.prog Tryz.f156.results.toList (.ret (bq (ac 5)))):=by
 refine aa (ctx:=[⟨_,co⟩,⟨_,bR⟩,⟨_,cQ⟩,⟨_,cE⟩,⟨_,faS⟩,⟨_,fbS⟩,⟨_,fcS⟩,⟨_,dJ⟩]) 4000 ?_
 rw [Tryz.ntmps156,Tryz.results156]
 simp only [Tryz.f156,Option.getD_some,ag]
 simp only [go_sem,lf5,eu,es,eB,eE,eC,eD]
theorem Jy:SW Tryz.prog ⟨none,0⟩ Tryz.f156.ntmps (Tryz.f156.body.getD .skip) ⟨0,ag 0 [(ar .i64).enc 6],[]⟩ (aH Tryz.prog Tryz.f156.results.toList (.ret (bq (ac 6)))):=by
 refine aa (ctx:=[⟨_,co⟩,⟨_,bR⟩,⟨_,cQ⟩,⟨_,cE⟩,⟨_,faS⟩,⟨_,fbS⟩,⟨_,fcS⟩,⟨_,dJ⟩]) 4000 ?_
 rw [Tryz.ntmps156,Tryz.results156]
 simp only [Tryz.f156,Option.getD_some,ag]
 simp only [go_sem,lf6,eu,es,eB,eE,eC,eD]
theorem K0:SW Tryz.prog ⟨none,0⟩ Tryz.f156.ntmps (Tryz.f156.body.getD .skip) ⟨0,ag 0 [(ar .i64).enc 7],[]⟩ (aH Tryz.prog Tryz.f156.results.toList (.ret (bq (ac 7)))):=by
 refine aa (ctx:=[⟨_,co⟩,⟨_,bR⟩,⟨_,cQ⟩,⟨_,cE⟩,⟨_,faS⟩,⟨_,fbS⟩,⟨_,fcS⟩,⟨_,oq⟩]) 4000 ?_
 rw [Tryz.ntmps156,Tryz.results156]
 simp only [Tryz.f156,Option.getD_some,ag]
 simp only [go_sem,lf7,eu,es,eB,eE,eC,eD]
theorem ID:SW Tryz.prog ⟨none,0⟩ Tryz.f156.ntmps (Tryz.f156.body.getD .skip) ⟨0,ag 0 [(ar .i64).enc 8],[]⟩ (aH Tryz.prog Tryz.f156.results.toList (.ret (bq (ac 8)))):=by
 refine aa (ctx:=[⟨_,co⟩,⟨_,bR⟩,⟨_,cQ⟩,⟨_,cE⟩,⟨_,faS⟩,⟨_,fbS⟩,⟨_,fcS⟩,⟨_,dJ⟩]) 4000 ?_
 rw [Tryz.ntmps156,Tryz.results156]
 simp only [Tryz.f156,Option.getD_some,ag]
 simp only [go_sem,lf8,eu,es,eB,eE,eC,eD]
theorem KY:SW Tryz.prog ⟨none,0⟩ Tryz.f156.ntmps (Tryz.f156.body.getD .skip) ⟨0,ag 0 [(ar .i64).enc 9],[]⟩ (aH Tryz.prog Tryz.f156.results.toList (.ret (bq (ac 9)))):=by
 refine aa (ctx:=[⟨_,co⟩,⟨_,bR⟩,⟨_,cQ⟩,⟨_,cE⟩,⟨_,faS⟩,⟨_,fbS⟩,⟨_,fcS⟩,⟨_,dJ⟩]) 4000 ?_
 rw [Tryz.ntmps156,Tryz.results156]
 simp only [Tryz.f156,Option.getD_some,ag]
 simp only [go_sem,lf9,eu,es,eB,eE,eC,eD]
theorem EW:SW Tryz.prog ⟨none,0⟩ Tryz.f156.ntmps (Tryz.f156.body.getD .skip) ⟨0,ag 0 [(ar .i64).enc 10],[]⟩ (aH Tryz.prog Tryz.f156.results.toList (.ret (bq (ac 10)))):=by
 refine aa (ctx:=[⟨_,co⟩,⟨_,bR⟩,⟨_,cQ⟩,⟨_,cE⟩,⟨_,faS⟩,⟨_,fbS⟩,⟨_,fcS⟩,⟨_,dJ⟩]) 4000 ?_
 rw [Tryz.ntmps156,Tryz.results156]
 simp only [Tryz.f156,Option.getD_some,ag]
 simp only [go_sem,lf10,eu,es,eB,eE,eC,eD]
theorem GX:SW Tryz.prog ⟨none,0⟩ Tryz.f156.ntmps (Tryz.f156.body.getD .skip) ⟨0,ag 0 [(ar .i64).enc 11],[]⟩ (aH Tryz.prog Tryz.f156.results.toList (.ret (bq (ac 11)))):=by
 refine aa (ctx:=[⟨_,co⟩,⟨_,bR⟩,⟨_,cQ⟩,⟨_,cE⟩,⟨_,faS⟩,⟨_,fbS⟩,⟨_,fcS⟩,⟨_,dJ⟩]) 4000 ?_
 rw [Tryz.ntmps156,Tryz.results156]
 simp only [Tryz.f156,Option.getD_some,ag]
 simp only [go_sem,lf11,eu,es,eB,eE,eC,eD]
theorem GI:SW Tryz.prog ⟨none,0⟩ Tryz.f156.ntmps (Tryz.f156.body.getD .skip) ⟨0,ag 0 [(ar .i64).enc 12],[]⟩ (aH Tryz.prog Tryz.f156.results.toList (.ret (bq (ac 12)))):=by
 refine aa (ctx:=[⟨_,co⟩,⟨_,bR⟩,⟨_,cQ⟩,⟨_,cE⟩,⟨_,faS⟩,⟨_,fbS⟩,⟨_,fcS⟩,⟨_,oq⟩]) 4000 ?_
 rw [Tryz.ntmps156,Tryz.results156]
 simp only [Tryz.f156,Option.getD_some,ag]
 simp only [go_sem,lf12,eu,es,eB,eE,eC,eD]
theorem Gz:SW Tryz.prog ⟨none,0⟩ Tryz.f156.ntmps (Tryz.f156.body.getD .skip) ⟨0,ag 0 [(ar .i64).enc 13],[]⟩ (aH Tryz.prog Tryz.f156.results.toList (.ret (bq (ac 13)))):=by
 refine aa (ctx:=[⟨_,co⟩,⟨_,bR⟩,⟨_,cQ⟩,⟨_,cE⟩,⟨_,faS⟩,⟨_,fbS⟩,⟨_,fcS⟩,⟨_,oq⟩]) 4000 ?_
 rw [Tryz.ntmps156,Tryz.results156]
 simp only [Tryz.f156,Option.getD_some,ag]
 simp only [go_sem,lf13,eu,es,eB,eE,eC,eD]
theorem F4:SW Tryz.prog ⟨none,0⟩ Tryz.f156.ntmps (Tryz.f156.body.getD .skip) ⟨0,ag 0 [(ar .i64).enc 14],[]⟩ (aH Tryz.prog Tryz.f156.results.toList (.ret (bq (ac 14)))):=by
 refine aa (ctx:=[⟨_,co⟩,⟨_,bR⟩,⟨_,cQ⟩,⟨_,cE⟩,⟨_,faS⟩,⟨_,fbS⟩,⟨_,fcS⟩,⟨_,oq⟩]) 4000 ?_
 rw [Tryz.ntmps156,Tryz.results156]
 simp only [Tryz.f156,Option.getD_some,ag]
 simp only [go_sem,lf14,eu,es,eB,eE,eC,eD]
theorem FN:SW Tryz.prog ⟨none,0⟩ Tryz.f156.ntmps (Tryz.f156.body.getD .skip) ⟨0,ag 0 [(ar .i64).enc 15],[]⟩ (aH Tryz.prog Tryz.f156.results.toList (.ret (bq (ac 15)))):=by
 refine aa (ctx:=[⟨_,co⟩,⟨_,bR⟩,⟨_,cQ⟩,⟨_,cE⟩,⟨_,faS⟩,⟨_,fbS⟩,⟨_,fcS⟩,⟨_,dJ⟩]) 4000 ?_
 rw [Tryz.ntmps156,Tryz.results156]
 simp only [Tryz.f156,Option.getD_some,ag]
 simp only [go_sem,lf15,eu,es,eB,eE,eC,eD]
theorem EU:SW Tryz.prog ⟨none,0⟩ Tryz.f156.ntmps (Tryz.f156.body.getD .skip) ⟨0,ag 0 [(ar .i64).enc 16],[]⟩ (aH Tryz.prog Tryz.f156.results.toList (.ret (bq (ac 16)))):=by
 refine aa (ctx:=[⟨_,co⟩,⟨_,bR⟩,⟨_,cQ⟩,⟨_,cE⟩,⟨_,faS⟩,⟨_,fbS⟩,⟨_,fcS⟩,⟨_,oq⟩]) 4000 ?_
 rw [Tryz.ntmps156,Tryz.results156]
 simp only [Tryz.f156,Option.getD_some,ag]
 simp only [go_sem,lf16,eu,es,eB,eE,eC,eD]
theorem Gc:SW Tryz.prog ⟨none,0⟩ Tryz.f156.ntmps (Tryz.f156.body.getD .skip) ⟨0,ag 0 [(ar .i64).enc 17],[]⟩ (aH Tryz.prog Tryz.f156.results.toList (.ret (bq (ac 17)))):=by
 refine aa (ctx:=[⟨_,co⟩,⟨_,bR⟩,⟨_,cQ⟩,⟨_,cE⟩,⟨_,faS⟩,⟨_,fbS⟩,⟨_,fcS⟩,⟨_,dJ⟩]) 4000 ?_
 rw [Tryz.ntmps156,Tryz.results156]
 simp only [Tryz.f156,Option.getD_some,ag]
 simp only [go_sem,lf17,eu,es,eB,eE,eC,eD]
theorem C8:SW Tryz.prog ⟨none,0⟩ Tryz.f157.ntmps (Tryz.f157.body.getD .skip) ⟨0,ag 0 [(ar .i64).enc 18],[]⟩ (aH Tryz.prog Tryz.f157.results.toList (.ret (bq (ac 18)))):=by
 refine aa (ctx:=[⟨_,co⟩,⟨_,bR⟩,⟨_,cQ⟩,⟨_,cE⟩,⟨_,saS⟩,⟨_,sbS⟩,⟨_,scS⟩,⟨_,dJ⟩]) 4000 ?_
 rw [Tryz.ntmps157,Tryz.results157]
 simp only [Tryz.f157,Option.getD_some,ag]
 simp only [go_sem,lf18,fh,eY,fi,fe,fc,fg]
theorem AF:SW Tryz.prog ⟨none,0⟩ Tryz.f157.ntmps (Tryz.f157.body.getD .skip) ⟨0,ag 0 [(ar .i64).enc 19],[]⟩ (aH Tryz.prog Tryz.f157.results.toList (.ret (bq (ac 19)))):=by
 refine aa (ctx:=[⟨_,co⟩,⟨_,bR⟩,⟨_,cQ⟩,⟨_,cE⟩,⟨_,saS⟩,⟨_,sbS⟩,⟨_,scS⟩,⟨_,dJ⟩]) 4000 ?_
 rw [Tryz.ntmps157,Tryz.results157]
 simp only [Tryz.f157,Option.getD_some,ag]
 simp only [go_sem,lf19,fh,eY,fi,fe,fc,fg]
theorem DM:SW Tryz.prog ⟨none,0⟩ Tryz.f157.ntmps (Tryz.f157.body.getD .skip) ⟨0,ag 0 [(ar .i64).enc 20],[]⟩ (aH Tryz.prog Tryz.f157.results.toList (.ret (bq (ac 20)))):=by
 refine aa (ctx:=[⟨_,co⟩,⟨_,bR⟩,⟨_,cQ⟩,⟨_,cE⟩,⟨_,saS⟩,⟨_,sbS⟩,⟨_,scS⟩,⟨_,dJ⟩]) 4000 ?_
 rw [Tryz.ntmps157,Tryz.results157]
 simp only [Tryz.f157,Option.getD_some,ag]
 simp only [go_sem,lf20,fh,eY,fi,fe,fc,fg]
theorem B4:SW Tryz.prog ⟨none,0⟩ Tryz.f157.ntmps (Tryz.f157.body.getD .skip) ⟨0,ag 0 [(ar .i64).enc 21],[]⟩ (aH Tryz.prog Tryz.f157.results.toList (.ret (bq (ac 21)))):=by
 refine aa (ctx:=[⟨_,co⟩,⟨_,bR⟩,⟨_,cQ⟩,⟨_,cE⟩,⟨_,saS⟩,⟨_,sbS⟩,⟨_,scS⟩,⟨_,dJ⟩]) 4000 ?_
 rw [Tryz.ntmps157,Tryz.results157]
 simp only [Tryz.f157,Option.getD_some,ag]
 simp only [go_sem,lf21,fh,eY,fi,fe,fc,fg]
theorem AP:SW Tryz.prog ⟨none,0⟩ Tryz.f157.ntmps (Tryz.f157.body.getD .skip) ⟨0,ag 0 [(ar .i64).enc 22],[]⟩ (aH Tryz.prog Tryz.f157.results.toList (.ret (bq (ac 22)))):=by
 refine aa (ctx:=[⟨_,co⟩,⟨_,bR⟩,⟨_,cQ⟩,⟨_,cE⟩,⟨_,saS⟩,⟨_,sbS⟩,⟨_,scS⟩,⟨_,dJ⟩]) 4000 ?_
 rw [Tryz.ntmps157,Tryz.results157]
 simp only [Tryz.f157,Option.getD_some,ag]
 simp only [go_sem,lf22,fh,eY,fi,fe,fc,fg]
theorem D4:SW Tryz.prog ⟨none,0⟩ Tryz.f157.ntmps (Tryz.f157.body.getD .skip) ⟨0,ag 0 [(ar .i64).enc 23],[]⟩ (aH Tryz.prog Tryz.f157.results.toList (.ret (bq (ac 23)))):=by
 refine aa (ctx:=[⟨_,co⟩,⟨_,bR⟩,⟨_,cQ⟩,⟨_,cE⟩,⟨_,saS⟩,⟨_,sbS⟩,⟨_,scS⟩,⟨_,dJ⟩]) 4000 ?_
 rw [Tryz.ntmps157,Tryz.results157]
 simp only [Tryz.f157,Option.getD_some,ag]
 simp only [go_sem,lf23,fh,eY,fi,fe,fc,fg]
theorem Bw:SW Tryz.prog ⟨none,0⟩ Tryz.f157.ntmps (Tryz.f157.body.getD .skip) ⟨0,ag 0 [(ar .i64).enc 24],[]⟩ (aH Tryz.prog Tryz.f157.results.toList (.ret (bq (ac 24)))):=by
 refine aa (ctx:=[⟨_,co⟩,⟨_,bR⟩,⟨_,cQ⟩,⟨_,cE⟩,⟨_,saS⟩,⟨_,sbS⟩,⟨_,scS⟩,⟨_,dJ⟩]) 4000 ?_
 rw [Tryz.ntmps157,Tryz.results157]
 simp only [Tryz.f157,Option.getD_some,ag]
 simp only [go_sem,lf24,fh,eY,fi,fe,fc,fg]
theorem Du:SW Tryz.prog ⟨none,0⟩ Tryz.f157.ntmps (Tryz.f157.body.getD .skip) ⟨0,ag 0 [(ar .i64).enc 25],[]⟩ (aH Tryz.prog Tryz.f157.results.toList (.ret (bq (ac 25)))):=by
 refine aa (ctx:=[⟨_,co⟩,⟨_,bR⟩,⟨_,cQ⟩,⟨_,cE⟩,⟨_,saS⟩,⟨_,sbS⟩,⟨_,scS⟩,⟨_,dJ⟩]) 4000 ?_
 rw [Tryz.ntmps157,Tryz.results157]
 simp only [Tryz.f157,Option.getD_some,ag]
 simp only [go_sem,lf25,fh,eY,fi,fe,fc,fg]
theorem Dy:SW Tryz.prog ⟨none,0⟩ Tryz.f157.ntmps (Tryz.f157.body.getD .skip) ⟨0,ag 0 [(ar .i64).enc 26],[]⟩ (aH Tryz.prog Tryz.f157.results.toList (.ret (bq (ac 26)))):=by
 refine aa (ctx:=[⟨_,co⟩,⟨_,bR⟩,⟨_,cQ⟩,⟨_,cE⟩,⟨_,saS⟩,⟨_,sbS⟩,⟨_,scS⟩,⟨_,dJ⟩]) 4000 ?_
 rw [Tryz.ntmps157,Tryz.results157]
 simp only [Tryz.f157,Option.getD_some,ag]
 simp only [go_sem,lf26,fh,eY,fi,fe,fc,fg]
theorem Cl:SW Tryz.prog ⟨none,0⟩ Tryz.f157.ntmps (Tryz.f157.body.getD .skip) ⟨0,ag 0 [(ar .i64).enc 27],[]⟩ (aH Tryz.prog Tryz.f157.results.toList (.ret (bq (ac 27)))):=by
 refine aa (ctx:=[⟨_,co⟩,⟨_,bR⟩,⟨_,cQ⟩,⟨_,cE⟩,⟨_,saS⟩,⟨_,sbS⟩,⟨_,scS⟩,⟨_,dJ⟩]) 4000 ?_
 rw [Tryz.ntmps157,Tryz.results157]
 simp only [Tryz.f157,Option.getD_some,ag]
 simp only [go_sem,lf27,fh,eY,fi,fe,fc,fg]
theorem Ea:SW Tryz.prog ⟨none,0⟩ Tryz.f157.ntmps (Tryz.f157.body.getD .skip) ⟨0,ag 0 [(ar .i64).enc 28],[]⟩ (aH Tryz.prog Tryz.f157.results.toList (.ret (bq (ac 28)))):=by
 refine aa (ctx:=[⟨_,co⟩,⟨_,bR⟩,⟨_,cQ⟩,⟨_,cE⟩,⟨_,saS⟩,⟨_,sbS⟩,⟨_,scS⟩,⟨_,dJ⟩]) 4000 ?_
 rw [Tryz.ntmps157,Tryz.results157]
 simp only [Tryz.f157,Option.getD_some,ag]
 simp only [go_sem,lf28,fh,eY,fi,fe,fc,fg]
theorem Dc:SW Tryz.prog ⟨none,0⟩ Tryz.f157.ntmps (Tryz.f157.body.getD .skip) ⟨0,ag 0 [(ar .i64).enc 29],[]⟩ (aH Tryz.prog Tryz.f157.results.toList (.ret (bq (ac 29)))):=by
 refine aa (ctx:=[⟨_,co⟩,⟨_,bR⟩,⟨_,cQ⟩,⟨_,cE⟩,⟨_,saS⟩,⟨_,sbS⟩,⟨_,scS⟩,⟨_,dJ⟩]) 4000 ?_
 rw [Tryz.ntmps157,Tryz.results157]
 simp only [Tryz.f157,Option.getD_some,ag]
 simp only [go_sem,lf29,fh,eY,fi,fe,fc,fg]
theorem DN:SW Tryz.prog ⟨none,0⟩ Tryz.f157.ntmps (Tryz.f157.body.getD .skip) ⟨0,ag 0 [(ar .i64).enc 30],[]⟩ (aH Tryz.prog Tryz.f157.results.toList (.ret (bq (ac 30)))):=by
 refine aa (ctx:=[⟨_,co⟩,⟨_,bR⟩,⟨_,cQ⟩,⟨_,cE⟩,⟨_,saS⟩,⟨_,sbS⟩,⟨_,scS⟩,⟨_,dJ⟩]) 4000 ?_
 rw [Tryz.ntmps157,Tryz.results157]
 simp only [Tryz.f157,Option.getD_some,ag]
 simp only [go_sem,lf30,fh,eY,fi,fe,fc,fg]
theorem BX:SW Tryz.prog ⟨none,0⟩ Tryz.f157.ntmps (Tryz.f157.body.getD .skip) ⟨0,ag 0 [(ar .i64).enc 31],[]⟩ (aH Tryz.prog Tryz.f157.results.toList (.ret (bq (ac 31)))):=by
 refine aa (ctx:=[⟨_,co⟩,⟨_,bR⟩,⟨_,cQ⟩,⟨_,cE⟩,⟨_,saS⟩,⟨_,sbS⟩,⟨_,scS⟩,⟨_,dJ⟩]) 4000 ?_
 rw [Tryz.ntmps157,Tryz.results157]
 simp only [Tryz.f157,Option.getD_some,ag]
 simp only [go_sem,lf31,fh,eY,fi,fe,fc,fg]
theorem DE:SW Tryz.prog ⟨none,0⟩ Tryz.f157.ntmps (Tryz.f157.body.getD .skip) ⟨0,ag 0 [(ar .i64).enc 32],[]⟩ (aH Tryz.prog Tryz.f157.results.toList (.ret (bq (ac 32)))):=by
 refine aa (ctx:=[⟨_,co⟩,⟨_,bR⟩,⟨_,cQ⟩,⟨_,cE⟩,⟨_,saS⟩,⟨_,sbS⟩,⟨_,scS⟩,⟨_,dJ⟩]) 4000 ?_
 rw [Tryz.ntmps157,Tryz.results157]
 simp only [Tryz.f157,Option.getD_some,ag]
 simp only [go_sem,lf32,fh,eY,fi,fe,fc,fg]
def fQ:AV:=.s (.l (.v (.slice none 0 0)))
def opQ (op:Int):Prop:=1≤op∧op≤32
def bV (op:Int):AV:=if 1≤op∧op≤32 then bq (ac op) else fQ
theorem vD {op:Int} (h:op<1∨17<op):SW Tryz.prog ⟨none,0⟩ Tryz.f156.ntmps (Tryz.f156.body.getD .skip) ⟨0,ag 0 [(ar .i64).enc op],[]⟩ (aH Tryz.prog Tryz.f156.results.toList (.ret fQ)):=by
 refine aa (ctx:=[]) 4000 ?_
 rw [Tryz.ntmps156,Tryz.results156]
 simp only [Tryz.f156,Option.getD_some,ag]
 have b1:(op==1)=false:=by
  simp only [beq_eq_false_iff_ne,ne_eq]
  omega
 have b2:(op==2)=false:=by
  simp only [beq_eq_false_iff_ne,ne_eq]
  omega
 have b3:(op==3)=false:=by
  simp only [beq_eq_false_iff_ne,ne_eq]
  omega
 have b4:(op==4)=false:=by
  simp only [beq_eq_false_iff_ne,ne_eq]
  omega
 have b5:(op==5)=false:=by
  simp only [beq_eq_false_iff_ne,ne_eq]
  omega
 have b6:(op==6)=false:=by
  simp only [beq_eq_false_iff_ne,ne_eq]
  omega
 have b7:(op==7)=false:=by
  simp only [beq_eq_false_iff_ne,ne_eq]
  omega
 have b8:(op==8)=false:=by
  simp only [beq_eq_false_iff_ne,ne_eq]
  omega
 have b9:(op==9)=false:=by
  simp only [beq_eq_false_iff_ne,ne_eq]
  omega
 have b10:(op==10)=false:=by
  simp only [beq_eq_false_iff_ne,ne_eq]
  omega
 have b11:(op==11)=false:=by
  simp only [beq_eq_false_iff_ne,ne_eq]
  omega
 have b12:(op==12)=false:=by
  simp only [beq_eq_false_iff_ne,ne_eq]
  omega
 have b13:(op==13)=false:=by
  simp only [beq_eq_false_iff_ne,ne_eq]
  omega
 have b14:(op==14)=false:=by
  simp only [beq_eq_false_iff_ne,ne_eq]
  omega
 have b15:(op==15)=false:=by
  simp only [beq_eq_false_iff_ne,ne_eq]
  omega
 have b16:(op==16)=false:=by
  simp only [beq_eq_false_iff_ne,ne_eq]
  omega
 have b17:(op==17)=false:=by
  simp only [beq_eq_false_iff_ne,ne_eq]
  omega
 simp only [go_sem,b1,b2,b3,b4,b5,b6,b7,b8,b9,b10,b11,b12,b13,b14,b15,b16,b17,fQ]
theorem sQ {op:Int} (h:32<op):SW Tryz.prog ⟨none,0⟩ Tryz.f157.ntmps (Tryz.f157.body.getD .skip) ⟨0,ag 0 [(ar .i64).enc op],[]⟩ (aH Tryz.prog Tryz.f157.results.toList (.ret fQ)):=by
 refine aa (ctx:=[⟨_,co⟩]) 4000 ?_
 rw [Tryz.ntmps157,Tryz.results157]
 simp only [Tryz.f157,Option.getD_some,ag]
 have b18:(op==18)=false:=by
  simp only [beq_eq_false_iff_ne,ne_eq]
  omega
 have b19:(op==19)=false:=by
  simp only [beq_eq_false_iff_ne,ne_eq]
  omega
 have b20:(op==20)=false:=by
  simp only [beq_eq_false_iff_ne,ne_eq]
  omega
 have b21:(op==21)=false:=by
  simp only [beq_eq_false_iff_ne,ne_eq]
  omega
 have b22:(op==22)=false:=by
  simp only [beq_eq_false_iff_ne,ne_eq]
  omega
 have b23:(op==23)=false:=by
  simp only [beq_eq_false_iff_ne,ne_eq]
  omega
 have b24:(op==24)=false:=by
  simp only [beq_eq_false_iff_ne,ne_eq]
  omega
 have b25:(op==25)=false:=by
  simp only [beq_eq_false_iff_ne,ne_eq]
  omega
 have b26:(op==26)=false:=by
  simp only [beq_eq_false_iff_ne,ne_eq]
  omega
 have b27:(op==27)=false:=by
  simp only [beq_eq_false_iff_ne,ne_eq]
  omega
 have b28:(op==28)=false:=by
  simp only [beq_eq_false_iff_ne,ne_eq]
  omega
 have b29:(op==29)=false:=by
  simp only [beq_eq_false_iff_ne,ne_eq]
  omega
 have b30:(op==30)=false:=by
  simp only [beq_eq_false_iff_ne,ne_eq]
  omega
 have b31:(op==31)=false:=by
  simp only [beq_eq_false_iff_ne,ne_eq]
  omega
 have b32:(op==32)=false:=by
  simp only [beq_eq_false_iff_ne,ne_eq]
  omega
 simp only [go_sem,b18,b19,b20,b21,b22,b23,b24,b25,b26,b27,b28,b29,b30,b31,b32,fQ]
def uw:aQ Tryz.prog 156 :=
 mk1 _ _ _ Tryz.func156 rfl (fun _ _=>by go_simp) (ar .i64) ((fun op=>op≤17)) ((fun op=>.ret (bV op))) (by rw [Tryz.ntmps156];decide) (fun op h=>by
 by_cases h1:1≤op
 ·have e:bV op=bq (ac op):=by unfold bV;rw [if_pos (by omega)]
  rw [e]
  have:op=1∨op=2∨op=3∨op=4∨op=5∨op=6∨op=7∨op=8∨op=9∨op=10∨op=11∨op=12∨op=13∨op=14∨op=15∨op=16∨op=17:=by omega
  rcases this with rfl | rfl | rfl | rfl | rfl | rfl | rfl | rfl | rfl | rfl | rfl | rfl | rfl | rfl | rfl | rfl | rfl
  ·exact J5
  ·exact IM
  ·exact IK
  ·exact J4
  ·exact JS
  ·exact Jy
  ·exact K0
  ·exact ID
  ·exact KY
  ·exact EW
  ·exact GX
  ·exact GI
  ·exact Gz
  ·exact F4
  ·exact FN
  ·exact EU
  ·exact Gc
 ·have e:bV op=fQ:=by unfold bV;rw [if_neg (by omega)]
  rw [e]
  exact vD (by omega))
theorem qy {id:Nat} {h:ah} {args:List AV}:(uw).run id h args=bm (av (ar .i64) ((fun op=>op≤17))) ((fun op=>.ret (bV op))) h args:=rfl
theorem qL {id:Nat} {h:ah} {args:List AV}:(uw).pan id h args=bt (av (ar .i64) ((fun op=>op≤17))) ((fun op=>.ret (bV op))) h args:=rfl
def rE:aQ Tryz.prog 157 :=
 mk1 _ _ _ Tryz.func157 rfl (fun _ _=>by go_simp) (ar .i64) ((fun op=>18≤op)) ((fun op=>.ret (bV op))) (by rw [Tryz.ntmps157];decide) (fun op h=>by
 by_cases h1:op≤32
 ·have e:bV op=bq (ac op):=by unfold bV;rw [if_pos (by omega)]
  rw [e]
  have:op=18∨op=19∨op=20∨op=21∨op=22∨op=23∨op=24∨op=25∨op=26∨op=27∨op=28∨op=29∨op=30∨op=31∨op=32:=by omega
  rcases this with rfl | rfl | rfl | rfl | rfl | rfl | rfl | rfl | rfl | rfl | rfl | rfl | rfl | rfl | rfl
  ·exact C8
  ·exact AF
  ·exact DM
  ·exact B4
  ·exact AP
  ·exact D4
  ·exact Bw
  ·exact Du
  ·exact Dy
  ·exact Cl
  ·exact Ea
  ·exact Dc
  ·exact DN
  ·exact BX
  ·exact DE
 ·have e:bV op=fQ:=by unfold bV;rw [if_neg (by omega)]
  rw [e]
  exact sQ (by omega))
theorem pb {id:Nat} {h:ah} {args:List AV}:(rE).run id h args=bm (av (ar .i64) ((fun op=>18≤op))) ((fun op=>.ret (bV op))) h args:=rfl
theorem nY {id:Nat} {h:ah} {args:List AV}:(rE).pan id h args=bt (av (ar .i64) ((fun op=>18≤op))) ((fun op=>.ret (bV op))) h args:=rfl
def lj:aQ Tryz.prog 95 :=
 mk1 _ _ _ Tryz.func95 rfl (fun _ _=>by go_simp) (ar .i64) ((fun _=>True)) ((fun op=>.ret (bV op))) (by rw [Tryz.ntmps95];decide) (fun op _=>by
 refine aa (ctx:=[⟨_,uw⟩,⟨_,rE⟩]) 4000 ?_
 rw [Tryz.ntmps95,Tryz.results95]
 simp only [Tryz.f95,Option.getD_some,ag]
 by_cases h1:op≤17
 ·by_cases h2:1≤op∧op≤32
  ·have e:bV op=bq (ac op):=by unfold bV;rw [if_pos h2]
   rw [e]
   simp only [go_sem,qy,qL,h1,e]
  ·have e:bV op=fQ:=by unfold bV;rw [if_neg h2]
   rw [e]
   simp only [go_sem,qy,qL,h1,e,fQ]
 ·have h3:18≤op:=by omega
  by_cases h2:1≤op∧op≤32
  ·have e:bV op=bq (ac op):=by unfold bV;rw [if_pos h2]
   rw [e]
   simp only [go_sem,pb,nY,h1,h3,e]
  ·have e:bV op=fQ:=by unfold bV;rw [if_neg h2]
   rw [e]
   simp only [go_sem,pb,nY,h1,h3,e,fQ])
theorem k6 {id:Nat} {h:ah} {args:List AV}:(lj).run id h args=bm (av (ar .i64) ((fun _=>True))) ((fun op=>.ret (bV op))) h args:=rfl
theorem kG {id:Nat} {h:ah} {args:List AV}:(lj).pan id h args=bt (av (ar .i64) ((fun _=>True))) ((fun op=>.ret (bV op))) h args:=rfl
end Go.Proofs.YtpjlafmhoifkmaaGreat
