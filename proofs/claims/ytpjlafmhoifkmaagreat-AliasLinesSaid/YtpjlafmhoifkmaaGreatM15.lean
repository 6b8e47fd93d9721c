import Derived.Test.YtpjlafmhoifkmaaGreatM14
set_option linter.unusedVariables false
set_option linter.unusedSimpArgs false
set_option maxRecDepth 100000
set_option maxHeartbeats 8000000
namespace Go.Proofs.YtpjlafmhoifkmaaGreat
open Go.RowKit
theorem aq:∀ l:List OpV,aH cy (l.map opL)=some l
 | []=>rfl
 | o::l=>by
  have h:cy (opL o)=some o:=rfl
  simp [aH,h,aq l]
theorem op_dec (o:OpV):opR.dec [.v (.int .i64 o.kind),.v (.int .i64 o.r.n),.v (.bool o.r.x),.v (.bool o.r.sp),.v (.int .i64 o.m.n),.v (.bool o.m.x),.v (.bool o.m.sp),.v (.int .i64 o.md),.v (.int .i64 o.amt),.v (.int .i64 o.n),.v (.int .i64 o.add),.v (.string o.plus),.v (.string o.minus),.v (.bool o.lo),.v (.int .i64 o.mode)]=some o:=rfl
theorem dn (l:List OpV) (g:Nat→Nat):List.map (fun x=>List.map (fun x=>LV.ren g x) x) (List.map opL l)=List.map opL l:=by
 have:∀ o:OpV,(opL o).map (fun x=>LV.ren g x)=opL o:=fun o=>oh
 simp [Function.comp_def,this]
def ly:aJ Tryz.prog 108 :=
 mk1 _ _ _ Tryz.func108 rfl (fun _ _=>by go_simp) (ao .i64) ((fun _=>True)) ((fun v=>.ret (opV (aw v)))) (by rw [Tryz.ntmps108];decide) (fun v _=>by
 refine aa (ctx:=[]) 4000 ?_
 rw [Tryz.ntmps108,Tryz.results108]
 simp only [Tryz.f108,Option.getD_some,ag]
 simp only [go_sem,opV,aw,op0,r0,opR,opE,emp])
theorem d9 {id:Nat} {h:am} {args:List AV}:(ly).run id h args=aY (au (ao .i64) ((fun _=>True))) ((fun v=>.ret (opV (aw v)))) h args:=rfl
theorem ef {id:Nat} {h:am} {args:List AV}:(ly).pan id h args=aZ (au (ao .i64) ((fun _=>True))) ((fun v=>.ret (opV (aw v)))) h args:=rfl
def toS:aJ Tryz.prog 119 :=
 mk1 _ _ _ Tryz.func119 rfl (fun _ _=>by go_simp) (ao .i64) ((fun _=>True)) ((fun v=>.ret (opV (oTo v)))) (by rw [Tryz.ntmps119];decide) (fun v _=>by
 refine aa (ctx:=[]) 4000 ?_
 rw [Tryz.ntmps119,Tryz.results119]
 simp only [Tryz.f119,Option.getD_some,ag]
 simp only [go_sem,opV,oTo,op0,r0,opR,opE,emp])
theorem rO {id:Nat} {h:am} {args:List AV}:(toS).run id h args=aY (au (ao .i64) ((fun _=>True))) ((fun v=>.ret (opV (oTo v)))) h args:=rfl
theorem qP {id:Nat} {h:am} {args:List AV}:(toS).pan id h args=aZ (au (ao .i64) ((fun _=>True))) ((fun v=>.ret (opV (oTo v)))) h args:=rfl
def ofS:aJ Tryz.prog 116 :=
 mk2 _ _ _ Tryz.func116 rfl (fun _ _=>by go_simp) (ao .i64) (ao .i64) ((fun _ _=>True)) ((fun k n=>.ret (opV (oOf k n)))) (by rw [Tryz.ntmps116];decide) (fun k n _=>by
 refine aa (ctx:=[]) 4000 ?_
 rw [Tryz.ntmps116,Tryz.results116]
 simp only [Tryz.f116,Option.getD_some,ag]
 simp only [go_sem,opV,oOf,op0,r0,opR,opE,emp])
theorem fC {id:Nat} {h:am} {args:List AV}:(ofS).run id h args=aY (bT (ao .i64) (ao .i64) ((fun _ _=>True))) (fun x=>((fun k n=>.ret (opV (oOf k n)))) x.1 x.2) h args:=rfl
theorem fF {id:Nat} {h:am} {args:List AV}:(ofS).pan id h args=aZ (bT (ao .i64) (ao .i64) ((fun _ _=>True))) (fun x=>((fun k n=>.ret (opV (oOf k n)))) x.1 x.2) h args:=rfl
def uP:aJ Tryz.prog 161 :=
 mk2 _ _ _ Tryz.func161 rfl (fun _ _=>by go_simp) (ao .i64) (cW) ((fun _ _=>True)) ((fun n x=>.ret (opV (oSP n x)))) (by rw [Tryz.ntmps161];decide) (fun n x _=>by
 refine aa (ctx:=[]) 4000 ?_
 rw [Tryz.ntmps161,Tryz.results161]
 simp only [Tryz.f161,Option.getD_some,ag]
 simp only [go_sem,opV,oSP,op0,r0,opR,opE,emp])
theorem tk {id:Nat} {h:am} {args:List AV}:(uP).run id h args=aY (bT (ao .i64) (cW) ((fun _ _=>True))) (fun x=>((fun n x=>.ret (opV (oSP n x)))) x.1 x.2) h args:=rfl
theorem th {id:Nat} {h:am} {args:List AV}:(uP).pan id h args=aZ (bT (ao .i64) (cW) ((fun _ _=>True))) (fun x=>((fun n x=>.ret (opV (oSP n x)))) x.1 x.2) h args:=rfl
def mg:aJ Tryz.prog 122 :=
 mk3 _ _ _ Tryz.func122 rfl (fun _ _=>by go_simp) (ai opR) (ao .i64) (ao .i64) ((fun _ _ _=>True)) ((fun o m a=>.ret (opV (cw o m a)))) (by rw [Tryz.ntmps122];decide) (fun o m a _=>by
 refine aa (ctx:=[]) 4000 ?_
 rw [Tryz.ntmps122,Tryz.results122]
 simp only [Tryz.f122,Option.getD_some,ag]
 simp only [go_sem,opV,cw,opR,opE])
theorem iK {id:Nat} {h:am} {args:List AV}:(mg).run id h args=aY (gj (ai opR) (ao .i64) (ao .i64) ((fun _ _ _=>True))) (fun x=>((fun o m a=>.ret (opV (cw o m a)))) x.1 x.2.1 x.2.2) h args:=rfl
theorem iJ {id:Nat} {h:am} {args:List AV}:(mg).pan id h args=aZ (gj (ai opR) (ao .i64) (ao .i64) ((fun _ _ _=>True))) (fun x=>((fun o m a=>.ret (opV (cw o m a)))) x.1 x.2.1 x.2.2) h args:=rfl
def gK:aJ Tryz.prog 165 :=
 mk3 _ _ _ Tryz.func165 rfl (fun _ _=>by go_simp) (ao .i64) (ao .i64) (ao .i64) ((fun _ _ _=>True)) ((fun b m o=>.ret (opV (be b m o)))) (by rw [Tryz.ntmps165];decide) (fun b m o _=>by
 refine aa (ctx:=[]) 4000 ?_
 rw [Tryz.ntmps165,Tryz.results165]
 simp only [Tryz.f165,Option.getD_some,ag]
 simp only [go_sem,opV,be,op0,r0,opR,opE,emp])
theorem cQ {id:Nat} {h:am} {args:List AV}:(gK).run id h args=aY (gj (ao .i64) (ao .i64) (ao .i64) ((fun _ _ _=>True))) (fun x=>((fun b m o=>.ret (opV (be b m o)))) x.1 x.2.1 x.2.2) h args:=rfl
theorem cR {id:Nat} {h:am} {args:List AV}:(gK).pan id h args=aZ (gj (ao .i64) (ao .i64) (ao .i64) ((fun _ _ _=>True))) (fun x=>((fun b m o=>.ret (opV (be b m o)))) x.1 x.2.1 x.2.2) h args:=rfl
def cL:aJ Tryz.prog 24 :=
 mk1 _ _ _ Tryz.func24 rfl (fun _ _=>by go_simp) (cW) ((fun _=>True)) ((fun q=>.ret (.s (.l (.v (.int .i64 (aU q))))))) (by rw [Tryz.ntmps24];decide) (fun q _=>by
 refine aa (ctx:=[]) 4000 ?_
 rw [Tryz.ntmps24,Tryz.results24]
 simp only [Tryz.f24,Option.getD_some,ag]
 cases q<;>simp only [go_sem,aU])
theorem bD {id:Nat} {h:am} {args:List AV}:(cL).run id h args=aY (au (cW) ((fun _=>True))) ((fun q=>.ret (.s (.l (.v (.int .i64 (aU q))))))) h args:=rfl
theorem bE {id:Nat} {h:am} {args:List AV}:(cL).pan id h args=aZ (au (cW) ((fun _=>True))) ((fun q=>.ret (.s (.l (.v (.int .i64 (aU q))))))) h args:=rfl
theorem MI (x:Ins) (nm:ByteArray) (l:List OpV) (h:l.length≤1000) (hq:True):SW Tryz.prog ⟨none,1⟩ Tryz.f49.ntmps (Tryz.f49.body.getD .skip) ⟨2,ag 0 [.s (.l (.p 0 0 0))],cX 0 [wrK x nm l.length 1,aD l]⟩ (jq Tryz.prog Tryz.f49.results.toList 1 (bI (.tup [],x,nm,l++[dO x]))):=by
 refine aa (ctx:=[]) 4000 ?_
 rw [Tryz.ntmps49,Tryz.results49]
 simp only [Tryz.f49,Option.getD_some,ag]
 simp only [go_sem,wrK,az,aD]
 refine aP (ctx:=[⟨_,g9⟩,⟨_,fE⟩]) ak [12] (by kernel_rfl) ?_
 simp only [go_sem,cu,cv,ce,ca,opV,dO,ah,op0,r0,opR,opE,emp,db,bp,aT,aq,xwT,bI,wrK,az,aD,dn,h]
 refine gN (x:=x) (nm:=nm) (l:=l++[dO x]) (tb:=194) rfl ?_ ?_ (by decide)
 ·simp [hget,wrK,az,dO]
 ·simp [hget,aD,dO,ah,op0,r0,emp]
def HR:aJ Tryz.prog 49 :=
 mkW _ _ _ Tryz.func49 rfl (fun _ _=>by go_simp) xw0 (fun _ x l=>l.length≤1000∧(True)) (fun _ x nm l=>(.tup [],x,nm,l++[dO x])) (by rw [Tryz.ntmps49];decide) (fun _ x nm l h=>MI x nm l h.1 h.2)
theorem Ia {id:Nat} {h:am} {args:List AV}:HR.run id h args=bU 1 (db xw0 (fun _ x l=>l.length≤1000∧(True))) (fun y=>bI ((fun _ x nm l=>(.tup [],x,nm,l++[dO x])) y.1 y.2.1 y.2.2.1 y.2.2.2)) id h args:=rfl
theorem IH {id:Nat} {h:am} {args:List AV}:HR.pan id h args=bW (db xw0 (fun _ x l=>l.length≤1000∧(True))) (fun y=>bI ((fun _ x nm l=>(.tup [],x,nm,l++[dO x])) y.1 y.2.1 y.2.2.1 y.2.2.2)) h args:=rfl
theorem Nz (x:Ins) (nm:ByteArray) (l:List OpV) (h:l.length≤1000) (hq:True):SW Tryz.prog ⟨none,1⟩ Tryz.f50.ntmps (Tryz.f50.body.getD .skip) ⟨2,ag 0 [.s (.l (.p 0 0 0))],cX 0 [wrK x nm l.length 1,aD l]⟩ (jq Tryz.prog Tryz.f50.results.toList 1 (bI (.tup [],x,nm,l++[nO x]))):=by
 refine aa (ctx:=[]) 4000 ?_
 rw [Tryz.ntmps50,Tryz.results50]
 simp only [Tryz.f50,Option.getD_some,ag]
 simp only [go_sem,wrK,az,aD]
 refine aP (ctx:=[⟨_,g9⟩,⟨_,fE⟩]) ak [12] (by kernel_rfl) ?_
 simp only [go_sem,cu,cv,ce,ca,opV,nO,ah,op0,r0,opR,opE,emp,db,bp,aT,aq,xwT,bI,wrK,az,aD,dn,h]
 refine gN (x:=x) (nm:=nm) (l:=l++[nO x]) (tb:=194) rfl ?_ ?_ (by decide)
 ·simp [hget,wrK,az,dO]
 ·simp [hget,aD,nO,ah,op0,r0,emp]
def JI:aJ Tryz.prog 50 :=
 mkW _ _ _ Tryz.func50 rfl (fun _ _=>by go_simp) xw0 (fun _ x l=>l.length≤1000∧(True)) (fun _ x nm l=>(.tup [],x,nm,l++[nO x])) (by rw [Tryz.ntmps50];decide) (fun _ x nm l h=>Nz x nm l h.1 h.2)
theorem J0 {id:Nat} {h:am} {args:List AV}:JI.run id h args=bU 1 (db xw0 (fun _ x l=>l.length≤1000∧(True))) (fun y=>bI ((fun _ x nm l=>(.tup [],x,nm,l++[nO x])) y.1 y.2.1 y.2.2.1 y.2.2.2)) id h args:=rfl
theorem IQ {id:Nat} {h:am} {args:List AV}:JI.pan id h args=bW (db xw0 (fun _ x l=>l.length≤1000∧(True))) (fun y=>bI ((fun _ x nm l=>(.tup [],x,nm,l++[nO x])) y.1 y.2.1 y.2.2.1 y.2.2.2)) h args:=rfl
theorem Nn (x:Ins) (nm:ByteArray) (l:List OpV) (h:l.length≤1000) (hq:True):SW Tryz.prog ⟨none,1⟩ Tryz.f56.ntmps (Tryz.f56.body.getD .skip) ⟨2,ag 0 [.s (.l (.p 0 0 0))],cX 0 [wrK x nm l.length 1,aD l]⟩ (jq Tryz.prog Tryz.f56.results.toList 1 (bI (.tup [],x,nm,l++[mO x]))):=by
 refine aa (ctx:=[]) 4000 ?_
 rw [Tryz.ntmps56,Tryz.results56]
 simp only [Tryz.f56,Option.getD_some,ag]
 simp only [go_sem,wrK,az,aD]
 refine aP (ctx:=[⟨_,g9⟩,⟨_,fE⟩]) ak [12] (by kernel_rfl) ?_
 simp only [go_sem,cu,cv,ce,ca,opV,mO,ah,op0,r0,opR,opE,emp,db,bp,aT,aq,xwT,bI,wrK,az,aD,dn,h]
 refine gN (x:=x) (nm:=nm) (l:=l++[mO x]) (tb:=194) rfl ?_ ?_ (by decide)
 ·simp [hget,wrK,az,dO]
 ·simp [hget,aD,mO,ah,op0,r0,emp]
def Fd:aJ Tryz.prog 56 :=
 mkW _ _ _ Tryz.func56 rfl (fun _ _=>by go_simp) xw0 (fun _ x l=>l.length≤1000∧(True)) (fun _ x nm l=>(.tup [],x,nm,l++[mO x])) (by rw [Tryz.ntmps56];decide) (fun _ x nm l h=>Nn x nm l h.1 h.2)
theorem Af {id:Nat} {h:am} {args:List AV}:Fd.run id h args=bU 1 (db xw0 (fun _ x l=>l.length≤1000∧(True))) (fun y=>bI ((fun _ x nm l=>(.tup [],x,nm,l++[mO x])) y.1 y.2.1 y.2.2.1 y.2.2.2)) id h args:=rfl
theorem At {id:Nat} {h:am} {args:List AV}:Fd.pan id h args=bW (db xw0 (fun _ x l=>l.length≤1000∧(True))) (fun y=>bI ((fun _ x nm l=>(.tup [],x,nm,l++[mO x])) y.1 y.2.1 y.2.2.1 y.2.2.2)) h args:=rfl
theorem MA (x:Ins) (nm:ByteArray) (l:List OpV) (h:l.length≤1000) (hq:True):SW Tryz.prog ⟨none,1⟩ Tryz.f130.ntmps (Tryz.f130.body.getD .skip) ⟨2,ag 0 [.s (.l (.p 0 0 0))],cX 0 [wrK x nm l.length 1,aD l]⟩ (jq Tryz.prog Tryz.f130.results.toList 1 (bI (.tup [],x,nm,l++[aO x]))):=by
 refine aa (ctx:=[]) 4000 ?_
 rw [Tryz.ntmps130,Tryz.results130]
 simp only [Tryz.f130,Option.getD_some,ag]
 simp only [go_sem,wrK,az,aD]
 refine aP (ctx:=[⟨_,g9⟩,⟨_,fE⟩]) ak [12] (by kernel_rfl) ?_
 simp only [go_sem,cu,cv,ce,ca,opV,aO,ah,op0,r0,opR,opE,emp,db,bp,aT,aq,xwT,bI,wrK,az,aD,dn,h]
 refine gN (x:=x) (nm:=nm) (l:=l++[aO x]) (tb:=194) rfl ?_ ?_ (by decide)
 ·simp [hget,wrK,az,dO]
 ·simp [hget,aD,aO,ah,op0,r0,emp]
def MH:aJ Tryz.prog 130 :=
 mkW _ _ _ Tryz.func130 rfl (fun _ _=>by go_simp) xw0 (fun _ x l=>l.length≤1000∧(True)) (fun _ x nm l=>(.tup [],x,nm,l++[aO x])) (by rw [Tryz.ntmps130];decide) (fun _ x nm l h=>MA x nm l h.1 h.2)
theorem stA_run {id:Nat} {h:am} {args:List AV}:MH.run id h args=bU 1 (db xw0 (fun _ x l=>l.length≤1000∧(True))) (fun y=>bI ((fun _ x nm l=>(.tup [],x,nm,l++[aO x])) y.1 y.2.1 y.2.2.1 y.2.2.2)) id h args:=rfl
theorem stA_pan {id:Nat} {h:am} {args:List AV}:MH.pan id h args=bW (db xw0 (fun _ x l=>l.length≤1000∧(True))) (fun y=>bI ((fun _ x nm l=>(.tup [],x,nm,l++[aO x])) y.1 y.2.1 y.2.2.1 y.2.2.2)) h args:=rfl
theorem Kh (x:Ins) (nm:ByteArray) (l:List OpV) (h:l.length≤1000) (hq:True):SW Tryz.prog ⟨none,1⟩ Tryz.f107.ntmps (Tryz.f107.body.getD .skip) ⟨2,ag 0 [.s (.l (.p 0 0 0))],cX 0 [wrK x nm l.length 1,aD l]⟩ (jq Tryz.prog Tryz.f107.results.toList 1 (bI (.tup [],x,nm,l++[dsO x]))):=by
 refine aa (ctx:=[]) 4000 ?_
 rw [Tryz.ntmps107,Tryz.results107]
 simp only [Tryz.f107,Option.getD_some,ag]
 simp only [go_sem,wrK,az,aD]
 refine aP (ctx:=[⟨_,uP⟩,⟨_,fE⟩]) ak [12] (by kernel_rfl) ?_
 simp only [go_sem,tk,th,ce,ca,opV,dsO,oSP,op0,r0,opR,opE,emp,db,bp,aT,aq,xwT,bI,wrK,az,aD,dn,h]
 refine gN (x:=x) (nm:=nm) (l:=l++[dsO x]) (tb:=194) rfl ?_ ?_ (by decide)
 ·simp [hget,wrK,az,dO]
 ·simp [hget,aD,dsO,oSP,op0,r0,emp]
def Dw:aJ Tryz.prog 107 :=
 mkW _ _ _ Tryz.func107 rfl (fun _ _=>by go_simp) xw0 (fun _ x l=>l.length≤1000∧(True)) (fun _ x nm l=>(.tup [],x,nm,l++[dsO x])) (by rw [Tryz.ntmps107];decide) (fun _ x nm l h=>Kh x nm l h.1 h.2)
theorem Qw {id:Nat} {h:am} {args:List AV}:Dw.run id h args=bU 1 (db xw0 (fun _ x l=>l.length≤1000∧(True))) (fun y=>bI ((fun _ x nm l=>(.tup [],x,nm,l++[dsO x])) y.1 y.2.1 y.2.2.1 y.2.2.2)) id h args:=rfl
theorem O9 {id:Nat} {h:am} {args:List AV}:Dw.pan id h args=bW (db xw0 (fun _ x l=>l.length≤1000∧(True))) (fun y=>bI ((fun _ x nm l=>(.tup [],x,nm,l++[dsO x])) y.1 y.2.1 y.2.2.1 y.2.2.2)) h args:=rfl
theorem I5 (x:Ins) (nm:ByteArray) (l:List OpV) (h:l.length≤1000) (hq:True):SW Tryz.prog ⟨none,1⟩ Tryz.f104.ntmps (Tryz.f104.body.getD .skip) ⟨2,ag 0 [.s (.l (.p 0 0 0))],cX 0 [wrK x nm l.length 1,aD l]⟩ (jq Tryz.prog Tryz.f104.results.toList 1 (bI (.tup [],x,nm,l++[nsO x]))):=by
 refine aa (ctx:=[]) 4000 ?_
 rw [Tryz.ntmps104,Tryz.results104]
 simp only [Tryz.f104,Option.getD_some,ag]
 simp only [go_sem,wrK,az,aD]
 refine aP (ctx:=[⟨_,uP⟩,⟨_,fE⟩]) ak [12] (by kernel_rfl) ?_
 simp only [go_sem,tk,th,ce,ca,opV,nsO,oSP,op0,r0,opR,opE,emp,db,bp,aT,aq,xwT,bI,wrK,az,aD,dn,h]
 refine gN (x:=x) (nm:=nm) (l:=l++[nsO x]) (tb:=194) rfl ?_ ?_ (by decide)
 ·simp [hget,wrK,az,dO]
 ·simp [hget,aD,nsO,oSP,op0,r0,emp]
def F1:aJ Tryz.prog 104 :=
 mkW _ _ _ Tryz.func104 rfl (fun _ _=>by go_simp) xw0 (fun _ x l=>l.length≤1000∧(True)) (fun _ x nm l=>(.tup [],x,nm,l++[nsO x])) (by rw [Tryz.ntmps104];decide) (fun _ x nm l h=>I5 x nm l h.1 h.2)
theorem PE {id:Nat} {h:am} {args:List AV}:F1.run id h args=bU 1 (db xw0 (fun _ x l=>l.length≤1000∧(True))) (fun y=>bI ((fun _ x nm l=>(.tup [],x,nm,l++[nsO x])) y.1 y.2.1 y.2.2.1 y.2.2.2)) id h args:=rfl
theorem N3 {id:Nat} {h:am} {args:List AV}:F1.pan id h args=bW (db xw0 (fun _ x l=>l.length≤1000∧(True))) (fun y=>bI ((fun _ x nm l=>(.tup [],x,nm,l++[nsO x])) y.1 y.2.1 y.2.2.1 y.2.2.2)) h args:=rfl
theorem HU (x:Ins) (nm:ByteArray) (l:List OpV) (h:l.length≤1000) (hq:True):SW Tryz.prog ⟨none,1⟩ Tryz.f120.ntmps (Tryz.f120.body.getD .skip) ⟨2,ag 0 [.s (.l (.p 0 0 0))],cX 0 [wrK x nm l.length 1,aD l]⟩ (jq Tryz.prog Tryz.f120.results.toList 1 (bI (.tup [],x,nm,l++[xdO x]))):=by
 refine aa (ctx:=[⟨_,g9⟩,⟨_,fE⟩]) 4000 ?_
 rw [Tryz.ntmps120,Tryz.results120]
 simp only [Tryz.f120,Option.getD_some,ag]
 simp only [go_sem,cu,cv,ce,ca,opV,xdO,ah,op0,r0,opR,opE,emp,db,bp,aT,aq,xwT,bI,wrK,az,aD,dn,h]
 refine gN (x:=x) (nm:=nm) (l:=l++[xdO x]) (tb:=114) rfl ?_ ?_ (by decide)
 ·simp [hget,wrK,az,dO]
 ·simp [hget,aD,xdO,ah,op0,r0,emp]
def Gh:aJ Tryz.prog 120 :=
 mkW _ _ _ Tryz.func120 rfl (fun _ _=>by go_simp) xw0 (fun _ x l=>l.length≤1000∧(True)) (fun _ x nm l=>(.tup [],x,nm,l++[xdO x])) (by rw [Tryz.ntmps120];decide) (fun _ x nm l h=>HU x nm l h.1 h.2)
theorem Q2 {id:Nat} {h:am} {args:List AV}:Gh.run id h args=bU 1 (db xw0 (fun _ x l=>l.length≤1000∧(True))) (fun y=>bI ((fun _ x nm l=>(.tup [],x,nm,l++[xdO x])) y.1 y.2.1 y.2.2.1 y.2.2.2)) id h args:=rfl
theorem Rq {id:Nat} {h:am} {args:List AV}:Gh.pan id h args=bW (db xw0 (fun _ x l=>l.length≤1000∧(True))) (fun y=>bI ((fun _ x nm l=>(.tup [],x,nm,l++[xdO x])) y.1 y.2.1 y.2.2.1 y.2.2.2)) h args:=rfl
theorem Er (x:Ins) (nm:ByteArray) (l:List OpV) (h:l.length≤1000) (hq:True):SW Tryz.prog ⟨none,1⟩ Tryz.f51.ntmps (Tryz.f51.body.getD .skip) ⟨2,ag 0 [.s (.l (.p 0 0 0))],cX 0 [wrK x nm l.length 1,aD l]⟩ (jq Tryz.prog Tryz.f51.results.toList 1 (bI (.tup [],x,nm,l++[dL x]))):=by
 refine aa (ctx:=[⟨_,ly⟩,⟨_,fE⟩]) 4000 ?_
 rw [Tryz.ntmps51,Tryz.results51]
 simp only [Tryz.f51,Option.getD_some,ag]
 simp only [go_sem,d9,ef,ce,ca,opV,dL,aw,op0,r0,opR,opE,emp,db,bp,aT,aq,xwT,bI,wrK,az,aD,dn,h]
 refine gN (x:=x) (nm:=nm) (l:=l++[dL x]) (tb:=114) rfl ?_ ?_ (by decide)
 ·simp [hget,wrK,az,dO]
 ·simp [hget,aD,dL,aw,op0,r0,emp]
def xn:aJ Tryz.prog 51 :=
 mkW _ _ _ Tryz.func51 rfl (fun _ _=>by go_simp) xw0 (fun _ x l=>l.length≤1000∧(True)) (fun _ x nm l=>(.tup [],x,nm,l++[dL x])) (by rw [Tryz.ntmps51];decide) (fun _ x nm l h=>Er x nm l h.1 h.2)
theorem NR {id:Nat} {h:am} {args:List AV}:xn.run id h args=bU 1 (db xw0 (fun _ x l=>l.length≤1000∧(True))) (fun y=>bI ((fun _ x nm l=>(.tup [],x,nm,l++[dL x])) y.1 y.2.1 y.2.2.1 y.2.2.2)) id h args:=rfl
theorem NQ {id:Nat} {h:am} {args:List AV}:xn.pan id h args=bW (db xw0 (fun _ x l=>l.length≤1000∧(True))) (fun y=>bI ((fun _ x nm l=>(.tup [],x,nm,l++[dL x])) y.1 y.2.1 y.2.2.1 y.2.2.2)) h args:=rfl
theorem Ci (x:Ins) (nm:ByteArray) (l:List OpV) (h:l.length≤1000) (hq:True):SW Tryz.prog ⟨none,1⟩ Tryz.f128.ntmps (Tryz.f128.body.getD .skip) ⟨2,ag 0 [.s (.l (.p 0 0 0))],cX 0 [wrK x nm l.length 1,aD l]⟩ (jq Tryz.prog Tryz.f128.results.toList 1 (bI (.tup [],x,nm,l++[nk x]))):=by
 refine aa (ctx:=[⟨_,ofS⟩,⟨_,fE⟩]) 4000 ?_
 rw [Tryz.ntmps128,Tryz.results128]
 simp only [Tryz.f128,Option.getD_some,ag]
 simp only [go_sem,fC,fF,ce,ca,opV,nk,oOf,op0,r0,opR,opE,emp,db,bp,aT,aq,xwT,bI,wrK,az,aD,dn,h]
 refine gN (x:=x) (nm:=nm) (l:=l++[nk x]) (tb:=114) rfl ?_ ?_ (by decide)
 ·simp [hget,wrK,az,dO]
 ·simp [hget,aD,nk,oOf,op0,r0,emp]
def ux:aJ Tryz.prog 128 :=
 mkW _ _ _ Tryz.func128 rfl (fun _ _=>by go_simp) xw0 (fun _ x l=>l.length≤1000∧(True)) (fun _ x nm l=>(.tup [],x,nm,l++[nk x])) (by rw [Tryz.ntmps128];decide) (fun _ x nm l h=>Ci x nm l h.1 h.2)
theorem Nq {id:Nat} {h:am} {args:List AV}:ux.run id h args=bU 1 (db xw0 (fun _ x l=>l.length≤1000∧(True))) (fun y=>bI ((fun _ x nm l=>(.tup [],x,nm,l++[nk x])) y.1 y.2.1 y.2.2.1 y.2.2.2)) id h args:=rfl
theorem M3 {id:Nat} {h:am} {args:List AV}:ux.pan id h args=bW (db xw0 (fun _ x l=>l.length≤1000∧(True))) (fun y=>bI ((fun _ x nm l=>(.tup [],x,nm,l++[nk x])) y.1 y.2.1 y.2.2.1 y.2.2.2)) h args:=rfl
theorem Gx (x:Ins) (nm:ByteArray) (l:List OpV) (h:l.length≤1000) (hq : -1152921504606846976≤x.a∧x.a≤1152921504606846976):SW Tryz.prog ⟨none,1⟩ Tryz.f123.ntmps (Tryz.f123.body.getD .skip) ⟨2,ag 0 [.s (.l (.p 0 0 0))],cX 0 [wrK x nm l.length 1,aD l]⟩ (jq Tryz.prog Tryz.f123.results.toList 1 (bI (.tup [],x,nm,l++[na x]))):=by
 have hw:IntKind.i64.wrap (4*x.a)=4*x.a:=by rw [IntKind.wrap_i64];omega
 refine aa (ctx:=[⟨_,toS⟩,⟨_,fE⟩]) 4000 ?_
 rw [Tryz.ntmps123,Tryz.results123]
 simp only [Tryz.f123,Option.getD_some,ag]
 simp only [go_sem,rO,qP,ce,ca,opV,na,oTo,op0,r0,opR,opE,emp,db,bp,aT,aq,xwT,bI,wrK,az,aD,dn,h,hw]
 refine gN (x:=x) (nm:=nm) (l:=l++[na x]) (tb:=130) rfl ?_ ?_ (by decide)
 ·simp [hget,wrK,az,dO]
 ·simp [hget,aD,na,oTo,op0,r0,emp]
def ym:aJ Tryz.prog 123 :=
 mkW _ _ _ Tryz.func123 rfl (fun _ _=>by go_simp) xw0 (fun _ x l=>l.length≤1000∧(-1152921504606846976≤x.a∧x.a≤1152921504606846976)) (fun _ x nm l=>(.tup [],x,nm,l++[na x])) (by rw [Tryz.ntmps123];decide) (fun _ x nm l h=>Gx x nm l h.1 h.2)
theorem NN {id:Nat} {h:am} {args:List AV}:ym.run id h args=bU 1 (db xw0 (fun _ x l=>l.length≤1000∧(-1152921504606846976≤x.a∧x.a≤1152921504606846976))) (fun y=>bI ((fun _ x nm l=>(.tup [],x,nm,l++[na x])) y.1 y.2.1 y.2.2.1 y.2.2.2)) id h args:=rfl
theorem NP {id:Nat} {h:am} {args:List AV}:ym.pan id h args=bW (db xw0 (fun _ x l=>l.length≤1000∧(-1152921504606846976≤x.a∧x.a≤1152921504606846976))) (fun y=>bI ((fun _ x nm l=>(.tup [],x,nm,l++[na x])) y.1 y.2.1 y.2.2.1 y.2.2.2)) h args:=rfl
end Go.Proofs.YtpjlafmhoifkmaaGreat
