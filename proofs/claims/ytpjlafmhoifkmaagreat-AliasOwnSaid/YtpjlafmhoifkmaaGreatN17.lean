import Derived.Test.YtpjlafmhoifkmaaGreatChecked
import Derived.Test.YtpjlafmhoifkmaaGreatN10
import Derived.WalkKit
import Derived.WalkSpells
import Derived.WalkLawsBesides
import Derived.Lib.SlBytesRow
import Derived.Test.YtpjlafmhoifkmaaGreatN16
import Derived.Test.YtpjlafmhoifkmaaGreatN14
import Derived.Test.YtpjlafmhoifkmaaGreatN13
set_option linter.unusedVariables false
set_option linter.unusedSimpArgs false
set_option maxRecDepth 100000
set_option maxHeartbeats 8000000
namespace Go.Proofs.YtpjlafmhoifkmaaGreat
section
open Go.RowKit
theorem vK {P:Program} {src dst e:TypeId} (h1:P.underlying src=some (.slice e)) (h2:P.underlying e=some (.int .u8)) (h3:P.underlying dst=some .string) {w:World} {b off:Nat} (zs:List Int) (hr:∀ z∈zs,0≤z∧z≤255) (hc:∀ (i:Nat) (z:Int),zs[i]? = some z→w.cell? ⟨b,off+i,none⟩=some (.int .u8 z)) {m:Nat} (hm:m=zs.length) (cap:Nat) :
  (convert src dst (.slice (some ⟨b,off,none⟩) m cap)).run P w=.ok (.string (cu zs)) w:=by
 have hs:(cu zs).size=zs.length:=i6 zs
 rw [hm,← hs]
 refine Lib.run_convert_whole _ _ e _ h1 h2 h3 _ _ _ (fun i hi=>?_) cap
 have hi':i<zs.length:=by rw [hs] at hi;exact hi
 have:=hr _ (List.getElem_mem hi')
 rw [hc i zs[i] (List.getElem?_eq_getElem hi')]
 have e1:(cu zs)[i]=UInt8.ofNat zs[i].toNat:=by
  change (cu zs).data[i]'(by simpa [cu] using hi')=_
  simp [cu]
 rw [e1]
 simp
 omega
theorem D6 (n:Int) (w:World) (h:0≤n∧n<1000) :
  Calls Tryz.prog 39 #[.int .i64 n] w fun e w'=>e=.returned (.string (fm n))∧Below w.heap.size w w':=by
 obtain ⟨h0,h1⟩:=h
 have d1:n.tdiv 100=n / 100:=Int.tdiv_eq_ediv_of_nonneg h0
 have d2:n.tdiv 10=n / 10:=Int.tdiv_eq_ediv_of_nonneg h0
 have d3:n.tmod 10=n % 10:=Int.tmod_eq_emod_of_nonneg h0
 have d4:(n / 10).tmod 10=n / 10 % 10:=Int.tmod_eq_emod_of_nonneg (by omega)
 have HC:=Lib.hid fun (zs:List Int) (o:Obj) (off m cap:Nat) (hr:∀ z∈zs,0≤z∧z≤255) (hc:∀ (i:Nat) (z:Int),zs[i]? = some z→(w.alloc o).cell? ⟨w.heap.size,off+i,none⟩=some (.int .u8 z)) (hm:m=zs.length)=>vK (P:=Tryz.prog) Tryz.underlying89 Tryz.underlying5 Tryz.underlying9 (w:=w.alloc o) (b:=w.heap.size) (off:=off) zs hr hc hm cap
 have hcell:∀ (a b c:Value) (t:TypeId) (i:Nat) (v:Value),[a,b,c][i]? = some v→(w.alloc (.cells #[a,b,c] t)).cell? ⟨w.heap.size,i,none⟩=some v:=by
  intro a b c t i v hv
  have hb:(w.alloc (.cells #[a,b,c] t)).heap[w.heap.size]? = some (.cells #[a,b,c] t):=heap_alloc_new w _
  rw [cell_of_row _ _ _ _ _ _ hb]
  simpa using hv
 have HCC:=Lib.hid hcell
 clear hcell
 go_enter Tryz.func39,Tryz.ntmps39
 go_wp2_with fail
 ·have h2:n<10:=by assumption
  have ht:fm n=cu [48+n]:=by rw [fm,if_pos h2]
  rw [HC.out [48+n] _ 2 1 1 (by simp;omega) (fun i z hz=>HCC.out _ _ _ _ _ _ (by
   cases i with
   | zero=>simp at hz;subst hz;simp;omega
   | succ i=>simp at hz)) rfl]
  go_wp2_with fail
  go_ret
  rw [ht]
  exact ⟨rfl,(by ((repeat (first | with_reducible refine Below.drew ?_ | (with_reducible refine Below.alloc ?_ ?_ _;rotate_left;(focus (first | (simp;done) | (simp;omega) | omega))) | (with_reducible refine Below.setCell ?_ ?_ _;rotate_left;(focus (first | (simp;done) | (simp;omega) | omega)))));(first | with_reducible exact Below.refl _ _ | with_reducible assumption)))⟩
 ·have h2:10≤n:=by assumption
  have h3:n<100:=by assumption
  have ht:fm n=cu [48+n / 10,48+n % 10]:=by rw [fm,if_neg (by omega),if_pos h3]
  rw [HC.out [48+n / 10,48+n % 10] _ 1 2 2 (by simp;omega) (fun i z hz=>HCC.out _ _ _ _ _ _ (by
   match i with
   | 0=>simp at hz;subst hz;simp;omega
   | 1=>simp at hz;subst hz;simp
   | i+2=>simp at hz)) rfl]
  go_wp2_with fail
  go_ret
  rw [ht]
  exact ⟨rfl,(by ((repeat (first | with_reducible refine Below.drew ?_ | (with_reducible refine Below.alloc ?_ ?_ _;rotate_left;(focus (first | (simp;done) | (simp;omega) | omega))) | (with_reducible refine Below.setCell ?_ ?_ _;rotate_left;(focus (first | (simp;done) | (simp;omega) | omega)))));(first | with_reducible exact Below.refl _ _ | with_reducible assumption)))⟩
 ·have h2:100≤n:=by assumption
  have ht:fm n=cu [48+n / 100,48+n / 10 % 10,48+n % 10]:=by rw [fm,if_neg (by omega),if_neg (by omega)]
  rw [HC.out [48+n / 100,48+n / 10 % 10,48+n % 10] _ 0 3 3 (by simp;omega) (fun i z hz=>HCC.out _ _ _ _ _ _ (by
   match i with
   | 0=>simp at hz;subst hz;simp
   | 1=>simp at hz;subst hz;simp
   | 2=>simp at hz;subst hz;simp
   | i+3=>simp at hz)) rfl]
  go_wp2_with fail
  go_ret
  rw [ht]
  exact ⟨rfl,(by ((repeat (first | with_reducible refine Below.drew ?_ | (with_reducible refine Below.alloc ?_ ?_ _;rotate_left;(focus (first | (simp;done) | (simp;omega) | omega))) | (with_reducible refine Below.setCell ?_ ?_ _;rotate_left;(focus (first | (simp;done) | (simp;omega) | omega)))));(first | with_reducible exact Below.refl _ _ | with_reducible assumption)))⟩
end
section
open Go.RowKit
structure RowL (α:Type) where
 T:TypeId
 sz:Nat
 enc:α→List LV
 dec:List LV→Option α
 inv:∀ {c:List LV} {x:α},dec c=some x→c=enc x
 back:∀ x,dec (enc x)=some x
 ren:∀ (x:α) (g:Nat→Nat),(enc x).map (fun y=>LV.ren g y)=enc x
def RowL.blk {α:Type} (R:RowL α) (l:List α):Blk:=⟨true,R.T,R.sz,l.map R.enc⟩
theorem RowL.blk_ren {α:Type} (R:RowL α) (l:List α) (g:Nat→Nat):(R.blk l).ren g=R.blk l:=by
 unfold RowL.blk Blk.ren
 have h:∀ x:α,(R.enc x).map (LV.ren g)=R.enc x:=fun x=>R.ren x g
 simp [Function.comp_def,h]
theorem RowL.all_map {α:Type} (R:RowL α):∀ l:List α,aG R.dec (l.map R.enc)=some l
 | []=>rfl
 | x::l=>by simp [aG,R.back x,R.all_map l]
theorem RowL.all_inv {α:Type} (R:RowL α) {rows:List (List LV)} {l:List α} (h:aG R.dec rows=some l):rows=l.map R.enc:=d6 (d:=R.dec) (e:=R.enc) (fun _ _ hc=>R.inv hc) h
def jC {α:Type} (R:RowL α) (h:ah):AV→Option (Nat×List α)
 | .s (.l (.sl b 0 m))=>match hget h b with
  | some ⟨true,T,sz,rows⟩=>if T=R.T∧sz=R.sz then (match aG R.dec rows with
   | some l=>if m=l.length then some (b,l) else none
   | none=>none) else none
  | _=>none
 | _=>none
theorem lD {α:Type} {R:RowL α} {h:ah} {A:AV} {b:Nat} {l:List α} (hd:jC R h A=some (b,l)):A=.s (.l (.sl b 0 l.length))∧hget h b=some (R.blk l):=by
 unfold jC at hd
 split at hd
 case h_2=>cases hd
 rename_i b' m
 split at hd
 case h_2=>cases hd
 rename_i T sz rows hb
 split at hd
 case isFalse=>cases hd
 rename_i hc
 obtain ⟨rfl,rfl⟩:=hc
 split at hd
 case h_2=>cases hd
 rename_i l' hl
 split at hd
 case isFalse=>cases hd
 rename_i hm
 subst hm
 simp only [Option.some.injEq,Prod.mk.injEq] at hd
 obtain ⟨rfl,rfl⟩:=hd
 exact ⟨rfl,by rw [hb,RowL.blk,R.all_inv hl]⟩
theorem jf {α:Type} {R:RowL α} {h h':ah} (hs:∀ b k,hget h b=some k→hget h' b=some k) {A:AV} {r:Nat×List α} (hd:jC R h A=some r):jC R h' A=some r:=by
 unfold jC at hd ⊢
 split at hd
 case h_2=>cases hd
 split at hd
 case h_2=>cases hd
 rename_i hb
 simp only [hs _ _ hb]
 exact hd
def lb {α X:Type} (R:RowL α) (D:Xw X) (q:List α→X→Prop) (h:ah):List AV→Option (Prop×List Nat×(List α×X))
 | A::zs=>match jC R h A,D.dec zs with
  | some (b,l),some x=>some (q l x,[b],(l,x))
  | _,_=>none
 | []=>none
def ee {α β X:Type} (R':RowL β) (F:List α→X→List β) (y:List α×X):RO:=.ret (.s (.l (.sl 0 0 (F y.1 y.2).length))) [] [R'.blk (F y.1 y.2)]
def IU {α β X:Type} (f:FuncId) (fn:Func) (c:Code) (hf:Tryz.prog.funcs[f]? = some fn) (hb:fn.body=some c)
  (hen:∀ (args:Array Value) (w:World),(callFunc f args).run Tryz.prog w=.ok (.enter f args) w) (R:RowL α) (R':RowL β) (D:Xw X) (q:List α→X→Prop) (F:List α→X→List β) (hn:D.len+1≤fn.ntmps)
  (body:∀ l x,q l x→SW Tryz.prog ⟨none,0⟩ fn.ntmps c ⟨1,ag 0 (.s (.l (.sl 0 0 l.length))::D.enc x),cn 0 [R.blk l]⟩ (fy Tryz.prog fn.results.toList 0 (ee R' F (l,x)))):aQ Tryz.prog f :=
 mkQ 0 1 (by decide) f fn c hf hb hen (lb R D q) (fun y=>.s (.l (.sl 0 0 y.1.length))::D.enc y.2) (fun y=>[R.blk y.1]) (ee R' F) (by omega)
  (by
   intro h h' args r hs hd
   unfold lb at hd ⊢
   split at hd
   ·split at hd
    ·rename_i h1 h2
     rw [jf hs h1,h2]
     exact hd
    ·cases hd
   ·cases hd)
  (by
   intro h zs q' bs y hd hq
   unfold lb at hd
   split at hd
   case h_2=>cases hd
   rename_i A zs'
   split at hd
   case h_2=>cases hd
   rename_i b l x h1 h2
   simp only [Option.some.injEq,Prod.mk.injEq] at hd
   obtain ⟨rfl,rfl,rfl⟩:=hd
   obtain ⟨rfl,hb1⟩:=lD h1
   refine ⟨by rw [List.length_cons,D.enc_len];exact hn,rfl,rfl,by simp,fun d=>⟨?_,?_⟩⟩
   ·intro j b' k hj hk
    match j,hj,hk with
    | 0,hj,hk =>
     simp at hj hk
     subst hj
     subst hk
     exact ⟨rfl,by rw [hb1,R.blk_ren]⟩
   ·intro ρ al vals hA
    match vals,hA with
    | v::vs,⟨a,r⟩=>exact ⟨a,D.ok (al:=al) h2 r⟩)
  (by
   intro h zs q' bs y hd hq
   unfold lb at hd
   split at hd
   case h_2=>cases hd
   split at hd
   case h_2=>cases hd
   simp only [Option.some.injEq,Prod.mk.injEq] at hd
   obtain ⟨rfl,rfl,rfl⟩:=hd
   exact body _ _ hq)
def qm {α β:Type} (R:RowL α) (R2:RowL β) (q:List α→List β→Prop) (h:ah):List AV→Option (Prop×List Nat×(List α×List β))
 | [A,B]=>match jC R h A,jC R2 h B with
  | some (b,l),some (c,m)=>if b≠c then some (q l m,[b,c],(l,m)) else none
  | _,_=>none
 | _=>none
def mkQ2 {α β γ:Type} (f:FuncId) (fn:Func) (c:Code) (hf:Tryz.prog.funcs[f]? = some fn) (hb:fn.body=some c)
  (hen:∀ (args:Array Value) (w:World),(callFunc f args).run Tryz.prog w=.ok (.enter f args) w) (R:RowL α) (R2:RowL β) (R':RowL γ) (q:List α→List β→Prop) (F:List α→List β→List γ) (hn:2≤fn.ntmps)
  (body:∀ l m,q l m→SW Tryz.prog ⟨none,0⟩ fn.ntmps c ⟨2,ag 0 [.s (.l (.sl 0 0 l.length)),.s (.l (.sl 1 0 m.length))],cn 0 [R.blk l,R2.blk m]⟩ (fy Tryz.prog fn.results.toList 0 (ee R' F (l,m)))):aQ Tryz.prog f :=
 mkQ 0 2 (by decide) f fn c hf hb hen (qm R R2 q) (fun y=>[.s (.l (.sl 0 0 y.1.length)),.s (.l (.sl 1 0 y.2.length))]) (fun y=>[R.blk y.1,R2.blk y.2]) (ee R' F) (by omega)
  (by
   intro h h' args r hs hd
   unfold qm at hd ⊢
   split at hd
   ·split at hd
    ·rename_i h1 h2
     rw [jf hs h1,jf hs h2]
     exact hd
    ·cases hd
   ·cases hd)
  (by
   intro h zs q' bs y hd hq
   unfold qm at hd
   split at hd
   case h_2=>cases hd
   rename_i A B
   split at hd
   case h_2=>cases hd
   rename_i b l c' m h1 h2
   split at hd
   case isFalse=>cases hd
   rename_i hne
   simp only [Option.some.injEq,Prod.mk.injEq] at hd
   obtain ⟨rfl,rfl,rfl⟩:=hd
   obtain ⟨rfl,hb1⟩:=lD h1
   obtain ⟨rfl,hb2⟩:=lD h2
   refine ⟨hn,rfl,rfl,by simpa using hne,fun d=>⟨?_,?_⟩⟩
   ·intro j b' k hj hk
    match j,hj,hk with
    | 0,hj,hk =>
     simp at hj hk
     subst hj
     subst hk
     exact ⟨rfl,by rw [hb1,R.blk_ren]⟩
    | 1,hj,hk =>
     simp at hj hk
     subst hj
     subst hk
     exact ⟨rfl,by rw [hb2,R2.blk_ren]⟩
   ·intro ρ al vals hA
    match vals,hA with
    | [v,w],⟨a,b,_⟩=>exact ⟨a,b,trivial⟩)
  (by
   intro h zs q' bs y hd hq
   unfold qm at hd
   split at hd
   case h_2=>cases hd
   split at hd
   case h_2=>cases hd
   split at hd
   case isFalse=>cases hd
   simp only [Option.some.injEq,Prod.mk.injEq] at hd
   obtain ⟨rfl,rfl,rfl⟩:=hd
   exact body _ _ hq)
def nM:List LV→Option Int
 | [.v (.int .i64 z)]=>some z
 | _=>none
def cX:RowL Int where
 T:=3
 sz:=1
 enc:=fun z=>[.v (.int .i64 z)]
 dec:=nM
 inv:=by
  intro c x h
  unfold nM at h
  split at h
  ·injection h with h;subst h;rfl
  ·cases h
 back:=fun _=>rfl
 ren:=fun _ _=>rfl
def dx (f:Lim):List LV:=[.v (.int .i64 f.1),.v (.int .i64 f.2.1),.v (.int .i64 f.2.2)]
def nD:List LV→Option Lim
 | [.v (.int .i64 f),.v (.int .i64 a),.v (.int .i64 b)]=>some (f,a,b)
 | _=>none
def aY:RowL Lim where
 T:=75
 sz:=3
 enc:=dx
 dec:=nD
 inv:=by
  intro c x h
  unfold nD at h
  split at h
  ·injection h with h;subst h;rfl
  ·cases h
 back:=fun _=>rfl
 ren:=fun _ _=>rfl
end
section
open Go.RowKit
def Ct:aQ Tryz.prog 39 :=
 LS _ (fun _ _=>by go_simp) (ar .i64) (fun n=>0≤n∧n<1000) (fun n=>sv (fm n)) (fun _=>rfl) (fun n hn M w v _ hv=>by
  have hv':v=.int .i64 n:=hv
  subst hv'
  exact (D6 n w hn).mono fun e w' h=>⟨⟨_,h.1,rfl⟩,h.2⟩)
theorem Bm {id:Nat} {h:ah} {args:List AV}:Ct.run id h args=bm (av (ar .i64) (fun n=>0≤n∧n<1000)) (fun n=>.ret (sv (fm n))) h args:=rfl
theorem Bq {id:Nat} {h:ah} {args:List AV}:Ct.pan id h args=bt (av (ar .i64) (fun n=>0≤n∧n<1000)) (fun n=>.ret (sv (fm n))) h args:=rfl
def gd:kx pM where
 dec:=fun | [.v (.int .i64 n),.v (.bool x),.v (.bool p)]=>some ⟨n,x,p⟩ | _=>none
 enc:=fun r=>[.v (.int .i64 r.n),.v (.bool r.x),.v (.bool r.sp)]
 inv:=by
  intro c x h
  split at h
  ·injection h with h;subst h;rfl
  ·cases h
 back:=by intro x;rfl
def dy (r:ByteArray×Int):AV:=.tup [.l (.v (.string r.1)),.l (.v (.int .i64 r.2))]
theorem vy (n:Int):(fm n).size≤3:=by
 unfold fm
 split
 ·rw [i6];simp
 ·split<;>(rw [i6];simp)
theorem u7 (r:pM):SW Tryz.prog ⟨none,0⟩ Tryz.f20.ntmps (Tryz.f20.body.getD .skip) ⟨0,ag 0 [(am gd).enc r],[]⟩ (aH Tryz.prog Tryz.f20.results.toList (.ret (dy (cH r)))):=by
 obtain ⟨n,x,sp⟩:=r
 refine aa (ctx:=[⟨_,Ct⟩]) 4000 ?_
 rw [Tryz.ntmps20,Tryz.results20]
 simp only [Tryz.f20,Option.getD_some,ag]
 have hz:(fm n).size≤3:=vy n
 have e1:(1+(fm n).size:Nat)≤maxLen:=by unfold maxLen;omega
 have e2:(⟨#[119]⟩:ByteArray)=wS:=rfl
 have e3:(⟨#[120]⟩:ByteArray)=xS:=rfl
 by_cases h1:n<0
 ·cases x<;>cases sp<;>simp only [go_sem,gd,h1,dy,cH,nL]
 by_cases h2:31<n
 ·cases x<;>cases sp<;>simp only [go_sem,gd,h1,h2,dy,cH,nL]
 by_cases h3:n=31
 ·subst h3
  cases x<;>cases sp<;>simp only [go_sem,gd,dy,cH,nL]<;>first | rfl | exact ⟨by decide,rfl⟩ | decide
 ·have h4:0≤n∧n<1000:=by omega
  have h5:¬n > 31:=h2
  cases x<;>cases sp<;>simp only [go_sem,gd,h1,h2,h3,h4,dy,cH,nL,Bm,Bq,e2,e3,show wS.size=1 from rfl,show xS.size=1 from rfl,e1]
def oG:aQ Tryz.prog 20 :=
 mk1 _ _ _ Tryz.func20 rfl (fun _ _=>by go_simp) (am gd) ((fun _=>True)) ((fun r=>.ret (dy (cH r)))) (by rw [Tryz.ntmps20];decide) (fun r _=>u7 r)
theorem dY {id:Nat} {h:ah} {args:List AV}:(oG).run id h args=bm (av (am gd) ((fun _=>True))) ((fun r=>.ret (dy (cH r)))) h args:=rfl
theorem dX {id:Nat} {h:ah} {args:List AV}:(oG).pan id h args=bt (av (am gd) ((fun _=>True))) ((fun r=>.ret (dy (cH r)))) h args:=rfl
end
section
open Go.RowKit
def ip (l:Nat):AV:=.s (.l (.v (.func (.yield l) #[] #[])))
abbrev uv (n:Nat):AV:=.s (.l (.v (.int .u64 (n:Int))))
def tU:Ty Int:=ar .u64
theorem fd (n k:Nat):Int.fdiv (n:Int) (k:Int)=((n / k:Nat):Int):=by
 rw [Int.fdiv_eq_ediv_of_nonneg _ (Int.natCast_nonneg _)]
 simp
theorem li (a b:Nat) (ha:a<2 ^ 64) (hb:b<2 ^ 64):bits .and .u64 a b=((a &&& b:Nat):Int):=(n8 a b ha hb).1
theorem J9 (a b:Nat) (ha:a<2 ^ 64) (hb:b<2 ^ 64):bits .or .u64 a b=((a ||| b:Nat):Int):=(n8 a b ha hb).2.1
theorem Hm (a b:Nat) (ha:a<2 ^ 64) (hb:b<2 ^ 64):bits .xor .u64 a b=((a ^^^ b:Nat):Int):=(n8 a b ha hb).2.2
theorem qI (a b:Nat):IntKind.u64.wrap ((a:Int)+(b:Int))=(((a+b) % 18446744073709551616:Nat):Int):=by
 have:=xI (a+b)
 rw [← this];simp
theorem KQ (F:Nat):bits .and .i64 (IntKind.i64.wrap (F:Int)) 127=((F &&& 127:Nat):Int):=by
 have h:BitVec.ofInt 64 (IntKind.i64.wrap (F:Int))=BitVec.ofNat 64 F:=by
  apply BitVec.eq_of_toNat_eq
  rw [IntKind.wrap_i64]
  simp only [BitVec.toNat_ofInt,BitVec.toNat_ofNat]
  omega
 have h2:(F &&& 127)<128:=Nat.lt_of_le_of_lt Nat.and_le_right (by decide)
 have h3:F % 18446744073709551616 &&& 127=F &&& 127:=by
  have e:∀ x:Nat,x &&& 127=x % 128:=fun x=>Nat.and_two_pow_sub_one_eq_mod x 7
  rw [e,e];omega
 have h4:(BitVec.ofInt 64 (IntKind.i64.wrap (F:Int)) &&& BitVec.ofInt 64 127).toNat=F &&& 127:=by
  rw [h,BitVec.toNat_and,BitVec.toNat_ofNat,show (BitVec.ofInt 64 127).toNat=127 from by decide]
  exact h3
 have h5:bits .and .i64 (IntKind.i64.wrap (F:Int)) 127=IntKind.i64.wrap (((BitVec.ofInt 64 (IntKind.i64.wrap (F:Int)) &&& BitVec.ofInt 64 127).toNat:Nat):Int):=by
  unfold bits
  first | rfl | (simp only [BitVec.toNat_and];rfl)
 rw [h5,h4,IntKind.wrap_i64]
 omega
theorem pw1:(2:Int) ^ min 1 64=2:=by decide
theorem pw2:(2:Int) ^ min 2 64=4:=by decide
theorem pw4:(2:Int) ^ min 4 64=16:=by decide
theorem pw8:(2:Int) ^ min 8 64=256:=by decide
theorem pw16:(2:Int) ^ min 16 64=65536:=by decide
theorem pw32:(2:Int) ^ min 32 64=4294967296:=by decide
theorem IC (x:Int) (h:0≤x∧x<18446744073709551616):SW Tryz.prog ⟨none,0⟩ Tryz.f152.ntmps (Tryz.f152.body.getD .skip) ⟨0,ag 0 [tU.enc x],[]⟩ (aH Tryz.prog Tryz.f152.results.toList (.ret (iv (pop x.toNat)))):=by
 obtain ⟨n,rfl⟩:=Int.eq_ofNat_of_zero_le h.1
 have hn:n<18446744073709551616:=by omega
 clear h
 have two64:(18446744073709551616:Nat)=2 ^ 64:=by decide
 refine aa (ctx:=[]) 4000 ?_
 rw [Tryz.ntmps152,Tryz.results152]
 simp only [Tryz.f152,Option.getD_some,ag]
 obtain ⟨A,hA⟩:∃ A,((n / 2 &&& 6148914691236517205)+(n &&& 6148914691236517205)) % 18446744073709551616=A:=⟨_,rfl⟩
 obtain ⟨B,hB⟩:∃ B,((A / 4 &&& 3689348814741910323)+(A &&& 3689348814741910323)) % 18446744073709551616=B:=⟨_,rfl⟩
 obtain ⟨C,hC⟩:∃ C,(B / 16+B) % 18446744073709551616 &&& 1085102592571150095=C:=⟨_,rfl⟩
 obtain ⟨D,hD⟩:∃ D,(C+C / 256) % 18446744073709551616=D:=⟨_,rfl⟩
 obtain ⟨E,hE⟩:∃ E,(D+D / 65536) % 18446744073709551616=E:=⟨_,rfl⟩
 obtain ⟨F,hF⟩:∃ F,(E+E / 4294967296) % 18446744073709551616=F:=⟨_,rfl⟩
 have lA:A<18446744073709551616:=by omega
 have lB:B<18446744073709551616:=by omega
 have e1:Int.fdiv (n:Int) 2=((n / 2:Nat):Int):=fd n 2
 have e2:bits .and .u64 ((n / 2:Nat):Int) 6148914691236517205=((n / 2 &&& 6148914691236517205:Nat):Int):=li _ 6148914691236517205 (by omega) (by decide)
 have e3:bits .and .u64 (n:Int) 6148914691236517205=((n &&& 6148914691236517205:Nat):Int):=li _ 6148914691236517205 (by omega) (by decide)
 have e4:IntKind.u64.wrap (((n / 2 &&& 6148914691236517205:Nat):Int)+((n &&& 6148914691236517205:Nat):Int))=(A:Int):=by rw [qI,hA]
 have f1:Int.fdiv (A:Int) 4=((A / 4:Nat):Int):=fd A 4
 have f2:bits .and .u64 ((A / 4:Nat):Int) 3689348814741910323=((A / 4 &&& 3689348814741910323:Nat):Int):=li _ 3689348814741910323 (by omega) (by decide)
 have f3:bits .and .u64 (A:Int) 3689348814741910323=((A &&& 3689348814741910323:Nat):Int):=li _ 3689348814741910323 (by omega) (by decide)
 have f4:IntKind.u64.wrap (((A / 4 &&& 3689348814741910323:Nat):Int)+((A &&& 3689348814741910323:Nat):Int))=(B:Int):=by rw [qI,hB]
 have g1:Int.fdiv (B:Int) 16=((B / 16:Nat):Int):=fd B 16
 have g2:IntKind.u64.wrap (((B / 16:Nat):Int)+(B:Int))=(((B / 16+B) % 18446744073709551616:Nat):Int):=qI _ _
 have g3:bits .and .u64 (((B / 16+B) % 18446744073709551616:Nat):Int) 1085102592571150095=(C:Int):=by rw [← hC];exact li _ 1085102592571150095 (by omega) (by decide)
 have i1:Int.fdiv (C:Int) 256=((C / 256:Nat):Int):=fd C 256
 have i2:IntKind.u64.wrap ((C:Int)+((C / 256:Nat):Int))=(D:Int):=by rw [qI,hD]
 have j1:Int.fdiv (D:Int) 65536=((D / 65536:Nat):Int):=fd D 65536
 have j2:IntKind.u64.wrap ((D:Int)+((D / 65536:Nat):Int))=(E:Int):=by rw [qI,hE]
 have k1:Int.fdiv (E:Int) 4294967296=((E / 4294967296:Nat):Int):=fd E 4294967296
 have k2:IntKind.u64.wrap ((E:Int)+((E / 4294967296:Nat):Int))=(F:Int):=by rw [qI,hF]
 have l1:=KQ F
 have hp:pop n=F &&& 127:=by unfold pop;simp only [hA,hB,hC,hD,hE,hF]
 have t:Int.toNat (n:Int)=n:=rfl
 simp only [go_sem,tU,t,hp,pw1,pw2,pw4,pw8,pw16,pw32,e1,e2,e3,e4,f1,f2,f3,f4,g1,g2,g3,i1,i2,j1,j2,k1,k2,l1]
def FP:aQ Tryz.prog 152 :=
 mk1 _ _ _ Tryz.func152 rfl (fun _ _=>by go_simp) (tU) ((fun x=>0≤x∧x<18446744073709551616)) ((fun x=>.ret (iv (pop x.toNat)))) (by rw [Tryz.ntmps152];decide) (fun x h=>IC x h)
theorem E3 {id:Nat} {h:ah} {args:List AV}:(FP).run id h args=bm (av (tU) ((fun x=>0≤x∧x<18446744073709551616))) ((fun x=>.ret (iv (pop x.toNat)))) h args:=rfl
theorem Em {id:Nat} {h:ah} {args:List AV}:(FP).pan id h args=bt (av (tU) ((fun x=>0≤x∧x<18446744073709551616))) ((fun x=>.ret (iv (pop x.toNat)))) h args:=rfl
def rY:aQ Tryz.prog 150 :=
 mk1 _ _ _ Tryz.func150 rfl (fun _ _=>by go_simp) (ar .i64) ((fun _=>True)) ((fun n=>.ret (bv (decide (n=32∨n=64))))) (by rw [Tryz.ntmps150];decide) (fun n _=>by
 refine aa (ctx:=[]) 4000 ?_
 rw [Tryz.ntmps150,Tryz.results150]
 simp only [Tryz.f150,Option.getD_some,ag]
 by_cases h1:n=32
 ·simp only [go_sem,h1]
 ·by_cases h2:n=64
  ·simp only [go_sem,h1,h2]
  ·have h3:(n==64)=false:=by simpa using h2
   simp only [go_sem,h1,h2,h3])
theorem ma {id:Nat} {h:ah} {args:List AV}:(rY).run id h args=bm (av (ar .i64) ((fun _=>True))) ((fun n=>.ret (bv (decide (n=32∨n=64))))) h args:=rfl
theorem mH {id:Nat} {h:ah} {args:List AV}:(rY).pan id h args=bt (av (ar .i64) ((fun _=>True))) ((fun n=>.ret (bv (decide (n=32∨n=64))))) h args:=rfl
def Cy:aQ Tryz.prog 193 :=
 mk1 _ _ _ Tryz.func193 rfl (fun _ _=>by go_simp) (ar .i64) ((fun _=>True)) ((fun n=>.ret (bv (decide (¬n=32∧¬n=64))))) (by rw [Tryz.ntmps193];decide) (fun n _=>by
 refine aa (ctx:=[]) 4000 ?_
 rw [Tryz.ntmps193,Tryz.results193]
 simp only [Tryz.f193,Option.getD_some,ag]
 by_cases h1:n=32
 ·simp only [go_sem,h1]
 ·by_cases h2:n=64
  ·simp only [go_sem,h1,h2]
  ·have h3:(n !=64)=true:=by simpa using h2
   simp only [go_sem,h1,h2,h3])
theorem Bg {id:Nat} {h:ah} {args:List AV}:(Cy).run id h args=bm (av (ar .i64) ((fun _=>True))) ((fun n=>.ret (bv (decide (¬n=32∧¬n=64))))) h args:=rfl
theorem Cn {id:Nat} {h:ah} {args:List AV}:(Cy).pan id h args=bt (av (ar .i64) ((fun _=>True))) ((fun n=>.ret (bv (decide (¬n=32∧¬n=64))))) h args:=rfl
end
section
open Go.RowKit
structure Pat where
 size:Int
 ones:Int
 turn:Int
def eN:kx Pat where
 dec:=fun | [.v (.int .i64 a),.v (.int .i64 b),.v (.int .i64 c)]=>some ⟨a,b,c⟩ | _=>none
 enc:=fun p=>[.v (.int .i64 p.size),.v (.int .i64 p.ones),.v (.int .i64 p.turn)]
 inv:=by
  intro c x h
  split at h
  ·injection h with h;subst h;rfl
  ·cases h
 back:=by intro x;rfl
def sq (p:Pat) (w:Int):Bool:=decide (2≤p.size∧p.size≤w∧1≤p.ones∧p.ones<p.size∧0≤p.turn∧p.turn<p.size)
def A5:aQ Tryz.prog 153 :=
 mk2 _ _ _ Tryz.func153 rfl (fun _ _=>by go_simp) (am eN) (ar .i64) ((fun _ _=>True)) ((fun p w=>.ret (bv (sq p w)))) (by rw [Tryz.ntmps153];decide) (fun p w _=>by
 refine aa (ctx:=[]) 4000 ?_
 rw [Tryz.ntmps153,Tryz.results153]
 simp only [Tryz.f153,Option.getD_some,ag]
 obtain ⟨a,b,c⟩:=p
 unfold sq
 by_cases h1:2≤a
 case neg=>simp only [go_sem,eN,h1,false_and,decide_false]
 by_cases h2:a≤w
 case neg=>simp only [go_sem,eN,h1,h2,false_and,decide_false]
 by_cases h3:1≤b
 case neg=>simp only [go_sem,eN,h1,h2,h3,false_and,decide_false]
 by_cases h4:b<a
 case neg=>simp only [go_sem,eN,h1,h2,h3,h4,false_and,decide_false]
 by_cases h5:0≤c
 case neg=>simp only [go_sem,eN,h1,h2,h3,h4,h5,false_and,decide_false]
 simp only [go_sem,eN,h1,h2,h3,h4,h5])
theorem qV {id:Nat} {h:ah} {args:List AV}:(A5).run id h args=bm (cq (am eN) (ar .i64) ((fun _ _=>True))) (fun x=>((fun p w=>.ret (bv (sq p w)))) x.1 x.2) h args:=rfl
theorem ri {id:Nat} {h:ah} {args:List AV}:(A5).pan id h args=bt (cq (am eN) (ar .i64) ((fun _ _=>True))) (fun x=>((fun p w=>.ret (bv (sq p w)))) x.1 x.2) h args:=rfl
def eZ (size:Int):Int:=if 32≤size then 0 else 64-2*size
def rH:aQ Tryz.prog 155 :=
 mk1 _ _ _ Tryz.func155 rfl (fun _ _=>by go_simp) (am eN) ((fun p=>0≤p.size∧p.size≤64)) ((fun p=>.ret (iv (eZ p.size)))) (by rw [Tryz.ntmps155];decide) (fun p h=>by
 refine aa (ctx:=[]) 4000 ?_
 rw [Tryz.ntmps155,Tryz.results155]
 simp only [Tryz.f155,Option.getD_some,ag]
 obtain ⟨a,b,c⟩:=p
 simp only at h
 have e1:IntKind.i64.wrap (2*a)=2*a:=by rw [IntKind.wrap_i64];omega
 have e2:IntKind.i64.wrap (64-2*a)=64-2*a:=by rw [IntKind.wrap_i64];omega
 unfold eZ
 by_cases h1:32≤a
 ·simp only [go_sem,eN,h1]
 ·simp only [go_sem,eN,h1,e1,e2])
theorem qM {id:Nat} {h:ah} {args:List AV}:(rH).run id h args=bm (av (am eN) ((fun p=>0≤p.size∧p.size≤64))) ((fun p=>.ret (iv (eZ p.size)))) h args:=rfl
theorem qx {id:Nat} {h:ah} {args:List AV}:(rH).pan id h args=bt (av (am eN) ((fun p=>0≤p.size∧p.size≤64))) ((fun p=>.ret (iv (eZ p.size)))) h args:=rfl
def jR (p:Pat):Int×Int×Int:=(if p.size=64 then 1 else 0,p.turn,eZ p.size+p.ones-1)
def mq (r:Int×Int×Int):AV:=.tup [.l (.v (.int .i64 r.1)),.l (.v (.int .i64 r.2.1)),.l (.v (.int .i64 r.2.2))]
def uu:aQ Tryz.prog 94 :=
 mk1 _ _ _ Tryz.func94 rfl (fun _ _=>by go_simp) (am eN) ((fun p=>0≤p.size∧p.size≤64∧0≤p.ones∧p.ones≤64)) ((fun p=>.ret (mq (jR p)))) (by rw [Tryz.ntmps94];decide) (fun p h=>by
 refine aa (ctx:=[]) 4000 ?_
 rw [Tryz.ntmps94,Tryz.results94]
 simp only [Tryz.f94,Option.getD_some,ag]
 obtain ⟨a,b,c⟩:=p
 simp only at h
 have hb:0≤eZ a∧eZ a≤64:=by unfold eZ;split<;>omega
 have e1:IntKind.i64.wrap (eZ a+b)=eZ a+b:=by rw [IntKind.wrap_i64];omega
 have e2:IntKind.i64.wrap (eZ a+b-1)=eZ a+b-1:=by rw [IntKind.wrap_i64];omega
 by_cases h1:a=64
 ·have hF:jR ⟨a,b,c⟩=(1,c,eZ a+b-1):=by unfold jR;simp only [h1,if_true]
  rw [hF]
  have e:(a==64)=true:=by simpa using h1
  simp only [go_sem,eN,e]
  refine aI (ctx:=[⟨_,rH⟩]) ax [] (by kernel_rfl) ?_
  simp only [go_sem,eN,qM,qx,h.1,h.2.1,e1,e2,mq]
 ·have hF:jR ⟨a,b,c⟩=(0,c,eZ a+b-1):=by unfold jR;simp only [h1,if_false]
  rw [hF]
  have e:(a==64)=false:=by simpa using h1
  simp only [go_sem,eN,e]
  refine aI (ctx:=[⟨_,rH⟩]) ax [] (by kernel_rfl) ?_
  simp only [go_sem,eN,qM,qx,h.1,h.2.1,e1,e2,mq])
theorem yQ {id:Nat} {h:ah} {args:List AV}:(uu).run id h args=bm (av (am eN) ((fun p=>0≤p.size∧p.size≤64∧0≤p.ones∧p.ones≤64))) ((fun p=>.ret (mq (jR p)))) h args:=rfl
theorem zA {id:Nat} {h:ah} {args:List AV}:(uu).pan id h args=bt (av (am eN) ((fun p=>0≤p.size∧p.size≤64∧0≤p.ones∧p.ones≤64))) ((fun p=>.ret (mq (jR p)))) h args:=rfl
theorem HY (b:Nat) (h:b<64):IntKind.u64.wrap (IntKind.u64.wrap (1*2 ^ min b 64)-1)=((2 ^ b-1:Nat):Int):=by
 have h1:2 ^ b<2 ^ 64:=Nat.pow_lt_pow_right (by decide) h
 have h2:0<2 ^ b:=Nat.two_pow_pos b
 rw [Nat.min_eq_left (by omega),o7,o7]
 have h3:((2 ^ b:Nat):Int)=(2:Int) ^ b:=by simp
 rw [← h3]
 omega
theorem sA (n c:Nat) (h:c≤64):Int.fdiv (n:Int) (2 ^ min c 64)=((n / 2 ^ c:Nat):Int):=by rw [Nat.min_eq_left h];exact GR n c
theorem sV (n c:Nat) (h:c≤64):IntKind.u64.wrap ((n:Int)*2 ^ min c 64)=((n*2 ^ c % 18446744073709551616:Nat):Int):=by rw [Nat.min_eq_left h];exact Fu n c
theorem F7 (a b c:Nat) (h:b<64):p6 a b c<2 ^ 64:=by
 have h1:2 ^ b<2 ^ 64:=Nat.pow_lt_pow_right (by decide) h
 have hx:(2 ^ b-1) / 2 ^ c<2 ^ 64:=Nat.lt_of_le_of_lt (Nat.div_le_self _ _) (by omega)
 have hy:(2 ^ b-1)*2 ^ (a-c) % 18446744073709551616<2 ^ 64:=Nat.mod_lt _ (by decide)
 have ho:=Nat.or_lt_two_pow hx hy
 unfold p6
 simp only
 split
 ·exact Nat.lt_of_le_of_lt Nat.and_le_left ho
 ·exact ho
def KK (a b c w E:Nat) (x:Nat×Nat×Nat):St:=⟨1,[(1,iv w),(2,.s (.l (.p 0 0 0))),(6,uv E),(7,uv x.2.2),(8,iv x.2.1)],[(0,some ⟨true,91,3,[[.v (.int .i64 a),.v (.int .i64 b),.v (.int .i64 c)]]⟩)]⟩
theorem Di (a b c w:Nat) (h:2≤a∧a≤64∧1≤b∧b<a∧c<a∧(w=32∨w=64)):SW Tryz.prog ⟨none,0⟩ Tryz.f154.ntmps (Tryz.f154.body.getD .skip) ⟨0,ag 0 [(am eN).enc ⟨a,b,c⟩,(ar .i64).enc (w:Int)],[]⟩ (aH Tryz.prog Tryz.f154.results.toList (.ret (uv (kO a b c w)))):=by
 obtain ⟨h1,h2,h3,h4,h5,h6⟩:=h
 have hw:w≤64:=by omega
 refine aa (ctx:=[]) 4000 ?_
 rw [Tryz.ntmps154,Tryz.results154]
 simp only [Tryz.f154,Option.getD_some,ag]
 have r1:=HY b (by omega)
 have r2:=sA (2 ^ b-1) c (by omega)
 have r3:IntKind.i64.wrap ((a:Int)-c)=((a-c:Nat):Int):=by rw [IntKind.wrap_i64];omega
 have r3':(0:Int)≤((a-c:Nat):Int):=Int.natCast_nonneg _
 have r4:=sV (2 ^ b-1) (a-c) (by omega)
 have p1:2 ^ b<2 ^ 64:=Nat.pow_lt_pow_right (by decide) (by omega)
 have hx:(2 ^ b-1) / 2 ^ c<2 ^ 64:=Nat.lt_of_le_of_lt (Nat.div_le_self _ _) (by omega)
 have hy:(2 ^ b-1)*2 ^ (a-c) % 18446744073709551616<2 ^ 64:=Nat.mod_lt _ (by decide)
 have r5:=J9 _ _ hx hy
 have ho:=Nat.or_lt_two_pow hx hy
 have t:∀ n:Nat,Int.toNat (n:Int)=n:=fun _=>rfl
 obtain ⟨E,hE⟩:∃ E,p6 a b c=E:=⟨_,rfl⟩
 have hE64:E<2 ^ 64:=by rw [← hE];exact F7 a b c (by omega)
 simp only [go_sem,eN]
 refine aI (ctx:=[]) ax [] (by kernel_rfl) ?_
 rcases Nat.lt_or_ge a 64 with h64 | h64
 have hI:(a:Int)<64:=by omega
 have r6:=HY a h64
 have r7:=li ((2 ^ b-1) / 2 ^ c ||| (2 ^ b-1)*2 ^ (a-c) % 18446744073709551616) (2 ^ a-1) ho (by
  have:2 ^ a<2 ^ 64:=Nat.pow_lt_pow_right (by decide) h64
  omega)
 have hE':(((2 ^ b-1) / 2 ^ c ||| (2 ^ b-1)*2 ^ (a-c) % 18446744073709551616) &&& (2 ^ a-1))=E:=by rw [← hE];unfold p6;simp only [h64,if_true]
 simp only [go_sem,eN,hI,r1,r2,r3,r3',t,r4,r5,r6,r7,hE']
 rotate_left
 have hI:¬(a:Int)<64:=by omega
 have h64':¬a<64:=by omega
 have hE':((2 ^ b-1) / 2 ^ c ||| (2 ^ b-1)*2 ^ (a-c) % 18446744073709551616)=E:=by rw [← hE];unfold p6;simp only [h64',if_false]
 simp only [go_sem,eN,hI,r1,r2,r3,r3',t,r4,r5,hE']
 all_goals
  refine cM (ι:=Nat×Nat×Nat) (fun x=>AG E a w x.1 x.2.1 x.2.2=kO a b c w∧x.2.2<2 ^ 64∧x.1≤64∧2*(64-x.1)≤x.2.1∧x.2.1≤200) (KK a b c w E) (fun x=>200-x.2.1) (64,0,0) ⟨by unfold kO;rw [hE],(by decide),(by decide),(by decide),(by decide)⟩ (Wk.renL [0] (by simp) (Nat.le_refl 1) (by decide) rfl rfl) ?_
  rintro ⟨f,at_,v⟩ ⟨i1,i2,i3,i4,i5⟩
  simp only at i1 i2 i3 i4 i5
  refine aa (ctx:=[]) 4000 ?_
  by_cases hlt:at_<w
  ·obtain ⟨f',rfl⟩:∃ f',f=f'+1:=⟨f-1,by omega⟩
   rw [AG,if_pos hlt] at i1
   have q1:=sV E at_ (by omega)
   have q0:E*2 ^ at_ % 18446744073709551616<2 ^ 64:=Nat.mod_lt _ (by decide)
   have q2:=J9 v (E*2 ^ at_ % 18446744073709551616) i2 q0
   have q3:IntKind.i64.wrap ((at_:Int)+a)=((at_+a:Nat):Int):=by rw [IntKind.wrap_i64];omega
   have hltI:(at_:Int)<w:=by omega
   have h0:(0:Int)≤at_:=Int.natCast_nonneg _
   simp only [go_sem,KK,hltI,q1,q2,q3,t,h0]
   exact ⟨(f',at_+a,v ||| E*2 ^ at_ % 18446744073709551616),⟨i1,Nat.or_lt_two_pow i2 q0,by simp only;omega,by simp only;omega,by simp only;omega⟩,by simp only;omega,Wk.renL [0] (by simp) (Nat.le_refl 1) (by decide) rfl rfl⟩
  ·have hltI:¬(at_:Int)<w:=by omega
   have hv:kO a b c w=v:=by
    rw [← i1]
    cases f
    ·rfl
    ·rw [AG,if_neg hlt]
   simp only [go_sem,KK,hltI,hv]
def DL (p:Pat) (w:Int):Prop:=2≤p.size∧p.size≤64∧1≤p.ones∧p.ones<p.size∧0≤p.turn∧p.turn<p.size∧(w=32∨w=64)
def pm:aQ Tryz.prog 154 :=
 mk2 _ _ _ Tryz.func154 rfl (fun _ _=>by go_simp) (am eN) (ar .i64) ((fun p w=>DL p w)) ((fun p w=>.ret (uv (kO p.size.toNat p.ones.toNat p.turn.toNat w.toNat)))) (by rw [Tryz.ntmps154];decide) (fun p w h=>by
 obtain ⟨a,b,c⟩:=p
 obtain ⟨h1,h2,h3,h4,h5,h6,h7⟩:=h
 simp only at h1 h2 h3 h4 h5 h6
 obtain ⟨a,rfl⟩:=Int.eq_ofNat_of_zero_le (show 0≤a by omega)
 obtain ⟨b,rfl⟩:=Int.eq_ofNat_of_zero_le (show 0≤b by omega)
 obtain ⟨c,rfl⟩:=Int.eq_ofNat_of_zero_le h5
 obtain ⟨w,rfl⟩:=Int.eq_ofNat_of_zero_le (show 0≤w by omega)
 exact Di a b c w ⟨by omega,by omega,by omega,by omega,by omega,by omega⟩)
theorem pV {id:Nat} {h:ah} {args:List AV}:(pm).run id h args=bm (cq (am eN) (ar .i64) ((fun p w=>DL p w))) (fun x=>((fun p w=>.ret (uv (kO p.size.toNat p.ones.toNat p.turn.toNat w.toNat)))) x.1 x.2) h args:=rfl
theorem ql {id:Nat} {h:ah} {args:List AV}:(pm).pan id h args=bt (cq (am eN) (ar .i64) ((fun p w=>DL p w))) (fun x=>((fun p w=>.ret (uv (kO p.size.toNat p.ones.toNat p.turn.toNat w.toNat)))) x.1 x.2) h args:=rfl
end
end Go.Proofs.YtpjlafmhoifkmaaGreat
