import Derived.Test.YtpjlafmhoifkmaaGreatN14
set_option linter.unusedVariables false
set_option linter.unusedSimpArgs false
set_option maxRecDepth 100000
set_option maxHeartbeats 8000000
namespace Go.Proofs.YtpjlafmhoifkmaaGreat
open Go.RowKit
theorem ap:∀ l:List OpV,aG cB (l.map opL)=some l
 | []=>rfl
 | o::l=>by
  have h:cB (opL o)=some o:=rfl
  simp [aG,h,ap l]
theorem op_dec (o:OpV):opR.dec [.v (.int .i64 o.kind),.v (.int .i64 o.r.n),.v (.bool o.r.x),.v (.bool o.r.sp),.v (.int .i64 o.m.n),.v (.bool o.m.x),.v (.bool o.m.sp),.v (.int .i64 o.md),.v (.int .i64 o.amt),.v (.int .i64 o.n),.v (.int .i64 o.add),.v (.string o.plus),.v (.string o.minus),.v (.bool o.lo),.v (.int .i64 o.mode)]=some o:=rfl
theorem cz (l:List OpV) (g:Nat→Nat):List.map (fun x=>List.map (fun x=>LV.ren g x) x) (List.map opL l)=List.map opL l:=by
 have:∀ o:OpV,(opL o).map (fun x=>LV.ren g x)=opL o:=fun o=>lz
 simp [Function.comp_def,this]
def ji:aQ Tryz.prog 108 :=
 mk1 _ _ _ Tryz.func108 rfl (fun _ _=>by go_simp) (ar .i64) ((fun _=>True)) ((fun v=>.ret (opV (aB v)))) (by rw [Tryz.ntmps108];decide) (fun v _=>by
 refine aa (ctx:=[]) 4000 ?_
 rw [Tryz.ntmps108,Tryz.results108]
 simp only [Tryz.f108,Option.getD_some,ag]
 simp only [go_sem,opV,aB,op0,r0,opR,opE,emp])
theorem dc {id:Nat} {h:ah} {args:List AV}:(ji).run id h args=bm (av (ar .i64) ((fun _=>True))) ((fun v=>.ret (opV (aB v)))) h args:=rfl
theorem da {id:Nat} {h:ah} {args:List AV}:(ji).pan id h args=bt (av (ar .i64) ((fun _=>True))) ((fun v=>.ret (opV (aB v)))) h args:=rfl
def toS:aQ Tryz.prog 119 :=
 mk1 _ _ _ Tryz.func119 rfl (fun _ _=>by go_simp) (ar .i64) ((fun _=>True)) ((fun v=>.ret (opV (oTo v)))) (by rw [Tryz.ntmps119];decide) (fun v _=>by
 refine aa (ctx:=[]) 4000 ?_
 rw [Tryz.ntmps119,Tryz.results119]
 simp only [Tryz.f119,Option.getD_some,ag]
 simp only [go_sem,opV,oTo,op0,r0,opR,opE,emp])
theorem oh {id:Nat} {h:ah} {args:List AV}:(toS).run id h args=bm (av (ar .i64) ((fun _=>True))) ((fun v=>.ret (opV (oTo v)))) h args:=rfl
theorem n9 {id:Nat} {h:ah} {args:List AV}:(toS).pan id h args=bt (av (ar .i64) ((fun _=>True))) ((fun v=>.ret (opV (oTo v)))) h args:=rfl
def ofS:aQ Tryz.prog 116 :=
 mk2 _ _ _ Tryz.func116 rfl (fun _ _=>by go_simp) (ar .i64) (ar .i64) ((fun _ _=>True)) ((fun k n=>.ret (opV (oOf k n)))) (by rw [Tryz.ntmps116];decide) (fun k n _=>by
 refine aa (ctx:=[]) 4000 ?_
 rw [Tryz.ntmps116,Tryz.results116]
 simp only [Tryz.f116,Option.getD_some,ag]
 simp only [go_sem,opV,oOf,op0,r0,opR,opE,emp])
theorem dR {id:Nat} {h:ah} {args:List AV}:(ofS).run id h args=bm (cq (ar .i64) (ar .i64) ((fun _ _=>True))) (fun x=>((fun k n=>.ret (opV (oOf k n)))) x.1 x.2) h args:=rfl
theorem dQ {id:Nat} {h:ah} {args:List AV}:(ofS).pan id h args=bt (cq (ar .i64) (ar .i64) ((fun _ _=>True))) (fun x=>((fun k n=>.ret (opV (oOf k n)))) x.1 x.2) h args:=rfl
def si:aQ Tryz.prog 161 :=
 mk2 _ _ _ Tryz.func161 rfl (fun _ _=>by go_simp) (ar .i64) (ez) ((fun _ _=>True)) ((fun n x=>.ret (opV (oSP n x)))) (by rw [Tryz.ntmps161];decide) (fun n x _=>by
 refine aa (ctx:=[]) 4000 ?_
 rw [Tryz.ntmps161,Tryz.results161]
 simp only [Tryz.f161,Option.getD_some,ag]
 simp only [go_sem,opV,oSP,op0,r0,opR,opE,emp])
theorem qn {id:Nat} {h:ah} {args:List AV}:(si).run id h args=bm (cq (ar .i64) (ez) ((fun _ _=>True))) (fun x=>((fun n x=>.ret (opV (oSP n x)))) x.1 x.2) h args:=rfl
theorem qa {id:Nat} {h:ah} {args:List AV}:(si).pan id h args=bt (cq (ar .i64) (ez) ((fun _ _=>True))) (fun x=>((fun n x=>.ret (opV (oSP n x)))) x.1 x.2) h args:=rfl
def jN:aQ Tryz.prog 122 :=
 mk3 _ _ _ Tryz.func122 rfl (fun _ _=>by go_simp) (am opR) (ar .i64) (ar .i64) ((fun _ _ _=>True)) ((fun o m a=>.ret (opV (cW o m a)))) (by rw [Tryz.ntmps122];decide) (fun o m a _=>by
 refine aa (ctx:=[]) 4000 ?_
 rw [Tryz.ntmps122,Tryz.results122]
 simp only [Tryz.f122,Option.getD_some,ag]
 simp only [go_sem,opV,cW,opR,opE])
theorem fD {id:Nat} {h:ah} {args:List AV}:(jN).run id h args=bm (gp (am opR) (ar .i64) (ar .i64) ((fun _ _ _=>True))) (fun x=>((fun o m a=>.ret (opV (cW o m a)))) x.1 x.2.1 x.2.2) h args:=rfl
theorem fx {id:Nat} {h:ah} {args:List AV}:(jN).pan id h args=bt (gp (am opR) (ar .i64) (ar .i64) ((fun _ _ _=>True))) (fun x=>((fun o m a=>.ret (opV (cW o m a)))) x.1 x.2.1 x.2.2) h args:=rfl
def eI:aQ Tryz.prog 165 :=
 mk3 _ _ _ Tryz.func165 rfl (fun _ _=>by go_simp) (ar .i64) (ar .i64) (ar .i64) ((fun _ _ _=>True)) ((fun b m o=>.ret (opV (bi b m o)))) (by rw [Tryz.ntmps165];decide) (fun b m o _=>by
 refine aa (ctx:=[]) 4000 ?_
 rw [Tryz.ntmps165,Tryz.results165]
 simp only [Tryz.f165,Option.getD_some,ag]
 simp only [go_sem,opV,bi,op0,r0,opR,opE,emp])
theorem cg {id:Nat} {h:ah} {args:List AV}:(eI).run id h args=bm (gp (ar .i64) (ar .i64) (ar .i64) ((fun _ _ _=>True))) (fun x=>((fun b m o=>.ret (opV (bi b m o)))) x.1 x.2.1 x.2.2) h args:=rfl
theorem cf {id:Nat} {h:ah} {args:List AV}:(eI).pan id h args=bt (gp (ar .i64) (ar .i64) (ar .i64) ((fun _ _ _=>True))) (fun x=>((fun b m o=>.ret (opV (bi b m o)))) x.1 x.2.1 x.2.2) h args:=rfl
def ca:aQ Tryz.prog 24 :=
 mk1 _ _ _ Tryz.func24 rfl (fun _ _=>by go_simp) (ez) ((fun _=>True)) ((fun q=>.ret (.s (.l (.v (.int .i64 (an q))))))) (by rw [Tryz.ntmps24];decide) (fun q _=>by
 refine aa (ctx:=[]) 4000 ?_
 rw [Tryz.ntmps24,Tryz.results24]
 simp only [Tryz.f24,Option.getD_some,ag]
 cases q<;>simp only [go_sem,an])
theorem be {id:Nat} {h:ah} {args:List AV}:(ca).run id h args=bm (av (ez) ((fun _=>True))) ((fun q=>.ret (.s (.l (.v (.int .i64 (an q))))))) h args:=rfl
theorem aZ {id:Nat} {h:ah} {args:List AV}:(ca).pan id h args=bt (av (ez) ((fun _=>True))) ((fun q=>.ret (.s (.l (.v (.int .i64 (an q))))))) h args:=rfl
theorem IZ (x:Ins) (nm:ByteArray) (l:List OpV) (h:l.length≤1000) (hq:True):SW Tryz.prog ⟨none,1⟩ Tryz.f49.ntmps (Tryz.f49.body.getD .skip) ⟨2,ag 0 [.s (.l (.p 0 0 0))],cn 0 [wrK x nm l.length 1,ay l]⟩ (gn Tryz.prog Tryz.f49.results.toList 1 (bk (.tup [],x,nm,l++[dO x]))):=by
 refine aa (ctx:=[]) 4000 ?_
 rw [Tryz.ntmps49,Tryz.results49]
 simp only [Tryz.f49,Option.getD_some,ag]
 simp only [go_sem,wrK,aw,ay]
 refine aI (ctx:=[⟨_,eU⟩,⟨_,dV⟩]) ax [12] (by kernel_rfl) ?_
 simp only [go_sem,bM,bL,bE,bF,opV,dO,ab,op0,r0,opR,opE,emp,cp,aX,aL,ap,xwT,bk,wrK,aw,ay,cz,h]
 refine eK (x:=x) (nm:=nm) (l:=l++[dO x]) (tb:=194) rfl ?_ ?_ (by decide)
 ·simp [hget,wrK,aw,dO]
 ·simp [hget,ay,dO,ab,op0,r0,emp]
def GY:aQ Tryz.prog 49 :=
 mkW _ _ _ Tryz.func49 rfl (fun _ _=>by go_simp) xw0 (fun _ x l=>l.length≤1000∧(True)) (fun _ x nm l=>(.tup [],x,nm,l++[dO x])) (by rw [Tryz.ntmps49];decide) (fun _ x nm l h=>IZ x nm l h.1 h.2)
theorem FZ {id:Nat} {h:ah} {args:List AV}:GY.run id h args=bK 1 (cp xw0 (fun _ x l=>l.length≤1000∧(True))) (fun y=>bk ((fun _ x nm l=>(.tup [],x,nm,l++[dO x])) y.1 y.2.1 y.2.2.1 y.2.2.2)) id h args:=rfl
theorem Fr {id:Nat} {h:ah} {args:List AV}:GY.pan id h args=bO (cp xw0 (fun _ x l=>l.length≤1000∧(True))) (fun y=>bk ((fun _ x nm l=>(.tup [],x,nm,l++[dO x])) y.1 y.2.1 y.2.2.1 y.2.2.2)) h args:=rfl
theorem KX (x:Ins) (nm:ByteArray) (l:List OpV) (h:l.length≤1000) (hq:True):SW Tryz.prog ⟨none,1⟩ Tryz.f50.ntmps (Tryz.f50.body.getD .skip) ⟨2,ag 0 [.s (.l (.p 0 0 0))],cn 0 [wrK x nm l.length 1,ay l]⟩ (gn Tryz.prog Tryz.f50.results.toList 1 (bk (.tup [],x,nm,l++[nO x]))):=by
 refine aa (ctx:=[]) 4000 ?_
 rw [Tryz.ntmps50,Tryz.results50]
 simp only [Tryz.f50,Option.getD_some,ag]
 simp only [go_sem,wrK,aw,ay]
 refine aI (ctx:=[⟨_,eU⟩,⟨_,dV⟩]) ax [12] (by kernel_rfl) ?_
 simp only [go_sem,bM,bL,bE,bF,opV,nO,ab,op0,r0,opR,opE,emp,cp,aX,aL,ap,xwT,bk,wrK,aw,ay,cz,h]
 refine eK (x:=x) (nm:=nm) (l:=l++[nO x]) (tb:=194) rfl ?_ ?_ (by decide)
 ·simp [hget,wrK,aw,dO]
 ·simp [hget,ay,nO,ab,op0,r0,emp]
def GU:aQ Tryz.prog 50 :=
 mkW _ _ _ Tryz.func50 rfl (fun _ _=>by go_simp) xw0 (fun _ x l=>l.length≤1000∧(True)) (fun _ x nm l=>(.tup [],x,nm,l++[nO x])) (by rw [Tryz.ntmps50];decide) (fun _ x nm l h=>KX x nm l h.1 h.2)
theorem Eh {id:Nat} {h:ah} {args:List AV}:GU.run id h args=bK 1 (cp xw0 (fun _ x l=>l.length≤1000∧(True))) (fun y=>bk ((fun _ x nm l=>(.tup [],x,nm,l++[nO x])) y.1 y.2.1 y.2.2.1 y.2.2.2)) id h args:=rfl
theorem FO {id:Nat} {h:ah} {args:List AV}:GU.pan id h args=bO (cp xw0 (fun _ x l=>l.length≤1000∧(True))) (fun y=>bk ((fun _ x nm l=>(.tup [],x,nm,l++[nO x])) y.1 y.2.1 y.2.2.1 y.2.2.2)) h args:=rfl
theorem Kw (x:Ins) (nm:ByteArray) (l:List OpV) (h:l.length≤1000) (hq:True):SW Tryz.prog ⟨none,1⟩ Tryz.f56.ntmps (Tryz.f56.body.getD .skip) ⟨2,ag 0 [.s (.l (.p 0 0 0))],cn 0 [wrK x nm l.length 1,ay l]⟩ (gn Tryz.prog Tryz.f56.results.toList 1 (bk (.tup [],x,nm,l++[mO x]))):=by
 refine aa (ctx:=[]) 4000 ?_
 rw [Tryz.ntmps56,Tryz.results56]
 simp only [Tryz.f56,Option.getD_some,ag]
 simp only [go_sem,wrK,aw,ay]
 refine aI (ctx:=[⟨_,eU⟩,⟨_,dV⟩]) ax [12] (by kernel_rfl) ?_
 simp only [go_sem,bM,bL,bE,bF,opV,mO,ab,op0,r0,opR,opE,emp,cp,aX,aL,ap,xwT,bk,wrK,aw,ay,cz,h]
 refine eK (x:=x) (nm:=nm) (l:=l++[mO x]) (tb:=194) rfl ?_ ?_ (by decide)
 ·simp [hget,wrK,aw,dO]
 ·simp [hget,ay,mO,ab,op0,r0,emp]
def Bc:aQ Tryz.prog 56 :=
 mkW _ _ _ Tryz.func56 rfl (fun _ _=>by go_simp) xw0 (fun _ x l=>l.length≤1000∧(True)) (fun _ x nm l=>(.tup [],x,nm,l++[mO x])) (by rw [Tryz.ntmps56];decide) (fun _ x nm l h=>Kw x nm l h.1 h.2)
theorem xD {id:Nat} {h:ah} {args:List AV}:Bc.run id h args=bK 1 (cp xw0 (fun _ x l=>l.length≤1000∧(True))) (fun y=>bk ((fun _ x nm l=>(.tup [],x,nm,l++[mO x])) y.1 y.2.1 y.2.2.1 y.2.2.2)) id h args:=rfl
theorem xF {id:Nat} {h:ah} {args:List AV}:Bc.pan id h args=bO (cp xw0 (fun _ x l=>l.length≤1000∧(True))) (fun y=>bk ((fun _ x nm l=>(.tup [],x,nm,l++[mO x])) y.1 y.2.1 y.2.2.1 y.2.2.2)) h args:=rfl
theorem JM (x:Ins) (nm:ByteArray) (l:List OpV) (h:l.length≤1000) (hq:True):SW Tryz.prog ⟨none,1⟩ Tryz.f130.ntmps (Tryz.f130.body.getD .skip) ⟨2,ag 0 [.s (.l (.p 0 0 0))],cn 0 [wrK x nm l.length 1,ay l]⟩ (gn Tryz.prog Tryz.f130.results.toList 1 (bk (.tup [],x,nm,l++[aO x]))):=by
 refine aa (ctx:=[]) 4000 ?_
 rw [Tryz.ntmps130,Tryz.results130]
 simp only [Tryz.f130,Option.getD_some,ag]
 simp only [go_sem,wrK,aw,ay]
 refine aI (ctx:=[⟨_,eU⟩,⟨_,dV⟩]) ax [12] (by kernel_rfl) ?_
 simp only [go_sem,bM,bL,bE,bF,opV,aO,ab,op0,r0,opR,opE,emp,cp,aX,aL,ap,xwT,bk,wrK,aw,ay,cz,h]
 refine eK (x:=x) (nm:=nm) (l:=l++[aO x]) (tb:=194) rfl ?_ ?_ (by decide)
 ·simp [hget,wrK,aw,dO]
 ·simp [hget,ay,aO,ab,op0,r0,emp]
def KJ:aQ Tryz.prog 130 :=
 mkW _ _ _ Tryz.func130 rfl (fun _ _=>by go_simp) xw0 (fun _ x l=>l.length≤1000∧(True)) (fun _ x nm l=>(.tup [],x,nm,l++[aO x])) (by rw [Tryz.ntmps130];decide) (fun _ x nm l h=>JM x nm l h.1 h.2)
theorem stA_run {id:Nat} {h:ah} {args:List AV}:KJ.run id h args=bK 1 (cp xw0 (fun _ x l=>l.length≤1000∧(True))) (fun y=>bk ((fun _ x nm l=>(.tup [],x,nm,l++[aO x])) y.1 y.2.1 y.2.2.1 y.2.2.2)) id h args:=rfl
theorem stA_pan {id:Nat} {h:ah} {args:List AV}:KJ.pan id h args=bO (cp xw0 (fun _ x l=>l.length≤1000∧(True))) (fun y=>bk ((fun _ x nm l=>(.tup [],x,nm,l++[aO x])) y.1 y.2.1 y.2.2.1 y.2.2.2)) h args:=rfl
theorem Gu (x:Ins) (nm:ByteArray) (l:List OpV) (h:l.length≤1000) (hq:True):SW Tryz.prog ⟨none,1⟩ Tryz.f107.ntmps (Tryz.f107.body.getD .skip) ⟨2,ag 0 [.s (.l (.p 0 0 0))],cn 0 [wrK x nm l.length 1,ay l]⟩ (gn Tryz.prog Tryz.f107.results.toList 1 (bk (.tup [],x,nm,l++[dsO x]))):=by
 refine aa (ctx:=[]) 4000 ?_
 rw [Tryz.ntmps107,Tryz.results107]
 simp only [Tryz.f107,Option.getD_some,ag]
 simp only [go_sem,wrK,aw,ay]
 refine aI (ctx:=[⟨_,si⟩,⟨_,dV⟩]) ax [12] (by kernel_rfl) ?_
 simp only [go_sem,qn,qa,bE,bF,opV,dsO,oSP,op0,r0,opR,opE,emp,cp,aX,aL,ap,xwT,bk,wrK,aw,ay,cz,h]
 refine eK (x:=x) (nm:=nm) (l:=l++[dsO x]) (tb:=194) rfl ?_ ?_ (by decide)
 ·simp [hget,wrK,aw,dO]
 ·simp [hget,ay,dsO,oSP,op0,r0,emp]
def Bn:aQ Tryz.prog 107 :=
 mkW _ _ _ Tryz.func107 rfl (fun _ _=>by go_simp) xw0 (fun _ x l=>l.length≤1000∧(True)) (fun _ x nm l=>(.tup [],x,nm,l++[dsO x])) (by rw [Tryz.ntmps107];decide) (fun _ x nm l h=>Gu x nm l h.1 h.2)
theorem M4 {id:Nat} {h:ah} {args:List AV}:Bn.run id h args=bK 1 (cp xw0 (fun _ x l=>l.length≤1000∧(True))) (fun y=>bk ((fun _ x nm l=>(.tup [],x,nm,l++[dsO x])) y.1 y.2.1 y.2.2.1 y.2.2.2)) id h args:=rfl
theorem Om {id:Nat} {h:ah} {args:List AV}:Bn.pan id h args=bO (cp xw0 (fun _ x l=>l.length≤1000∧(True))) (fun y=>bk ((fun _ x nm l=>(.tup [],x,nm,l++[dsO x])) y.1 y.2.1 y.2.2.1 y.2.2.2)) h args:=rfl
theorem GH (x:Ins) (nm:ByteArray) (l:List OpV) (h:l.length≤1000) (hq:True):SW Tryz.prog ⟨none,1⟩ Tryz.f104.ntmps (Tryz.f104.body.getD .skip) ⟨2,ag 0 [.s (.l (.p 0 0 0))],cn 0 [wrK x nm l.length 1,ay l]⟩ (gn Tryz.prog Tryz.f104.results.toList 1 (bk (.tup [],x,nm,l++[nsO x]))):=by
 refine aa (ctx:=[]) 4000 ?_
 rw [Tryz.ntmps104,Tryz.results104]
 simp only [Tryz.f104,Option.getD_some,ag]
 simp only [go_sem,wrK,aw,ay]
 refine aI (ctx:=[⟨_,si⟩,⟨_,dV⟩]) ax [12] (by kernel_rfl) ?_
 simp only [go_sem,qn,qa,bE,bF,opV,nsO,oSP,op0,r0,opR,opE,emp,cp,aX,aL,ap,xwT,bk,wrK,aw,ay,cz,h]
 refine eK (x:=x) (nm:=nm) (l:=l++[nsO x]) (tb:=194) rfl ?_ ?_ (by decide)
 ·simp [hget,wrK,aw,dO]
 ·simp [hget,ay,nsO,oSP,op0,r0,emp]
def Ap:aQ Tryz.prog 104 :=
 mkW _ _ _ Tryz.func104 rfl (fun _ _=>by go_simp) xw0 (fun _ x l=>l.length≤1000∧(True)) (fun _ x nm l=>(.tup [],x,nm,l++[nsO x])) (by rw [Tryz.ntmps104];decide) (fun _ x nm l h=>GH x nm l h.1 h.2)
theorem MN {id:Nat} {h:ah} {args:List AV}:Ap.run id h args=bK 1 (cp xw0 (fun _ x l=>l.length≤1000∧(True))) (fun y=>bk ((fun _ x nm l=>(.tup [],x,nm,l++[nsO x])) y.1 y.2.1 y.2.2.1 y.2.2.2)) id h args:=rfl
theorem N4 {id:Nat} {h:ah} {args:List AV}:Ap.pan id h args=bO (cp xw0 (fun _ x l=>l.length≤1000∧(True))) (fun y=>bk ((fun _ x nm l=>(.tup [],x,nm,l++[nsO x])) y.1 y.2.1 y.2.2.1 y.2.2.2)) h args:=rfl
theorem Fd (x:Ins) (nm:ByteArray) (l:List OpV) (h:l.length≤1000) (hq:True):SW Tryz.prog ⟨none,1⟩ Tryz.f120.ntmps (Tryz.f120.body.getD .skip) ⟨2,ag 0 [.s (.l (.p 0 0 0))],cn 0 [wrK x nm l.length 1,ay l]⟩ (gn Tryz.prog Tryz.f120.results.toList 1 (bk (.tup [],x,nm,l++[xdO x]))):=by
 refine aa (ctx:=[⟨_,eU⟩,⟨_,dV⟩]) 4000 ?_
 rw [Tryz.ntmps120,Tryz.results120]
 simp only [Tryz.f120,Option.getD_some,ag]
 simp only [go_sem,bM,bL,bE,bF,opV,xdO,ab,op0,r0,opR,opE,emp,cp,aX,aL,ap,xwT,bk,wrK,aw,ay,cz,h]
 refine eK (x:=x) (nm:=nm) (l:=l++[xdO x]) (tb:=114) rfl ?_ ?_ (by decide)
 ·simp [hget,wrK,aw,dO]
 ·simp [hget,ay,xdO,ab,op0,r0,emp]
def AI:aQ Tryz.prog 120 :=
 mkW _ _ _ Tryz.func120 rfl (fun _ _=>by go_simp) xw0 (fun _ x l=>l.length≤1000∧(True)) (fun _ x nm l=>(.tup [],x,nm,l++[xdO x])) (by rw [Tryz.ntmps120];decide) (fun _ x nm l h=>Fd x nm l h.1 h.2)
theorem Oq {id:Nat} {h:ah} {args:List AV}:AI.run id h args=bK 1 (cp xw0 (fun _ x l=>l.length≤1000∧(True))) (fun y=>bk ((fun _ x nm l=>(.tup [],x,nm,l++[xdO x])) y.1 y.2.1 y.2.2.1 y.2.2.2)) id h args:=rfl
theorem NQ {id:Nat} {h:ah} {args:List AV}:AI.pan id h args=bO (cp xw0 (fun _ x l=>l.length≤1000∧(True))) (fun y=>bk ((fun _ x nm l=>(.tup [],x,nm,l++[xdO x])) y.1 y.2.1 y.2.2.1 y.2.2.2)) h args:=rfl
theorem CF (x:Ins) (nm:ByteArray) (l:List OpV) (h:l.length≤1000) (hq:True):SW Tryz.prog ⟨none,1⟩ Tryz.f51.ntmps (Tryz.f51.body.getD .skip) ⟨2,ag 0 [.s (.l (.p 0 0 0))],cn 0 [wrK x nm l.length 1,ay l]⟩ (gn Tryz.prog Tryz.f51.results.toList 1 (bk (.tup [],x,nm,l++[cF x]))):=by
 refine aa (ctx:=[⟨_,ji⟩,⟨_,dV⟩]) 4000 ?_
 rw [Tryz.ntmps51,Tryz.results51]
 simp only [Tryz.f51,Option.getD_some,ag]
 simp only [go_sem,dc,da,bE,bF,opV,cF,aB,op0,r0,opR,opE,emp,cp,aX,aL,ap,xwT,bk,wrK,aw,ay,cz,h]
 refine eK (x:=x) (nm:=nm) (l:=l++[cF x]) (tb:=114) rfl ?_ ?_ (by decide)
 ·simp [hget,wrK,aw,dO]
 ·simp [hget,ay,cF,aB,op0,r0,emp]
def wl:aQ Tryz.prog 51 :=
 mkW _ _ _ Tryz.func51 rfl (fun _ _=>by go_simp) xw0 (fun _ x l=>l.length≤1000∧(True)) (fun _ x nm l=>(.tup [],x,nm,l++[cF x])) (by rw [Tryz.ntmps51];decide) (fun _ x nm l h=>CF x nm l h.1 h.2)
theorem K7 {id:Nat} {h:ah} {args:List AV}:wl.run id h args=bK 1 (cp xw0 (fun _ x l=>l.length≤1000∧(True))) (fun y=>bk ((fun _ x nm l=>(.tup [],x,nm,l++[cF x])) y.1 y.2.1 y.2.2.1 y.2.2.2)) id h args:=rfl
theorem K8 {id:Nat} {h:ah} {args:List AV}:wl.pan id h args=bO (cp xw0 (fun _ x l=>l.length≤1000∧(True))) (fun y=>bk ((fun _ x nm l=>(.tup [],x,nm,l++[cF x])) y.1 y.2.1 y.2.2.1 y.2.2.2)) h args:=rfl
theorem Aj (x:Ins) (nm:ByteArray) (l:List OpV) (h:l.length≤1000) (hq:True):SW Tryz.prog ⟨none,1⟩ Tryz.f128.ntmps (Tryz.f128.body.getD .skip) ⟨2,ag 0 [.s (.l (.p 0 0 0))],cn 0 [wrK x nm l.length 1,ay l]⟩ (gn Tryz.prog Tryz.f128.results.toList 1 (bk (.tup [],x,nm,l++[jS x]))):=by
 refine aa (ctx:=[⟨_,ofS⟩,⟨_,dV⟩]) 4000 ?_
 rw [Tryz.ntmps128,Tryz.results128]
 simp only [Tryz.f128,Option.getD_some,ag]
 simp only [go_sem,dR,dQ,bE,bF,opV,jS,oOf,op0,r0,opR,opE,emp,cp,aX,aL,ap,xwT,bk,wrK,aw,ay,cz,h]
 refine eK (x:=x) (nm:=nm) (l:=l++[jS x]) (tb:=114) rfl ?_ ?_ (by decide)
 ·simp [hget,wrK,aw,dO]
 ·simp [hget,ay,jS,oOf,op0,r0,emp]
def rq:aQ Tryz.prog 128 :=
 mkW _ _ _ Tryz.func128 rfl (fun _ _=>by go_simp) xw0 (fun _ x l=>l.length≤1000∧(True)) (fun _ x nm l=>(.tup [],x,nm,l++[jS x])) (by rw [Tryz.ntmps128];decide) (fun _ x nm l h=>Aj x nm l h.1 h.2)
theorem K1 {id:Nat} {h:ah} {args:List AV}:rq.run id h args=bK 1 (cp xw0 (fun _ x l=>l.length≤1000∧(True))) (fun y=>bk ((fun _ x nm l=>(.tup [],x,nm,l++[jS x])) y.1 y.2.1 y.2.2.1 y.2.2.2)) id h args:=rfl
theorem JI {id:Nat} {h:ah} {args:List AV}:rq.pan id h args=bO (cp xw0 (fun _ x l=>l.length≤1000∧(True))) (fun y=>bk ((fun _ x nm l=>(.tup [],x,nm,l++[jS x])) y.1 y.2.1 y.2.2.1 y.2.2.2)) h args:=rfl
theorem C4 (x:Ins) (nm:ByteArray) (l:List OpV) (h:l.length≤1000) (hq : -1152921504606846976≤x.a∧x.a≤1152921504606846976):SW Tryz.prog ⟨none,1⟩ Tryz.f123.ntmps (Tryz.f123.body.getD .skip) ⟨2,ag 0 [.s (.l (.p 0 0 0))],cn 0 [wrK x nm l.length 1,ay l]⟩ (gn Tryz.prog Tryz.f123.results.toList 1 (bk (.tup [],x,nm,l++[jB x]))):=by
 have hw:IntKind.i64.wrap (4*x.a)=4*x.a:=by rw [IntKind.wrap_i64];omega
 refine aa (ctx:=[⟨_,toS⟩,⟨_,dV⟩]) 4000 ?_
 rw [Tryz.ntmps123,Tryz.results123]
 simp only [Tryz.f123,Option.getD_some,ag]
 simp only [go_sem,oh,n9,bE,bF,opV,jB,oTo,op0,r0,opR,opE,emp,cp,aX,aL,ap,xwT,bk,wrK,aw,ay,cz,h,hw]
 refine eK (x:=x) (nm:=nm) (l:=l++[jB x]) (tb:=130) rfl ?_ ?_ (by decide)
 ·simp [hget,wrK,aw,dO]
 ·simp [hget,ay,jB,oTo,op0,r0,emp]
def wn:aQ Tryz.prog 123 :=
 mkW _ _ _ Tryz.func123 rfl (fun _ _=>by go_simp) xw0 (fun _ x l=>l.length≤1000∧(-1152921504606846976≤x.a∧x.a≤1152921504606846976)) (fun _ x nm l=>(.tup [],x,nm,l++[jB x])) (by rw [Tryz.ntmps123];decide) (fun _ x nm l h=>C4 x nm l h.1 h.2)
theorem K6 {id:Nat} {h:ah} {args:List AV}:wn.run id h args=bK 1 (cp xw0 (fun _ x l=>l.length≤1000∧(-1152921504606846976≤x.a∧x.a≤1152921504606846976))) (fun y=>bk ((fun _ x nm l=>(.tup [],x,nm,l++[jB x])) y.1 y.2.1 y.2.2.1 y.2.2.2)) id h args:=rfl
theorem K9 {id:Nat} {h:ah} {args:List AV}:wn.pan id h args=bO (cp xw0 (fun _ x l=>l.length≤1000∧(-1152921504606846976≤x.a∧x.a≤1152921504606846976))) (fun y=>bk ((fun _ x nm l=>(.tup [],x,nm,l++[jB x])) y.1 y.2.1 y.2.2.1 y.2.2.2)) h args:=rfl
end Go.Proofs.YtpjlafmhoifkmaaGreat
