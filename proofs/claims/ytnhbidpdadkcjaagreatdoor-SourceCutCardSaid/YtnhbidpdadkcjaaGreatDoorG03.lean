import Derived.Test.YtnhbidpdadkcjaaGreatDoorG02
import Derived.Laws.IdiomStrings
import Derived.Laws.MakeOwn
open Go.RowKit
set_option linter.unusedVariables false
set_option linter.unusedSimpArgs false
set_option maxRecDepth 100000
set_option maxHeartbeats 8000000
open List (getElem?_map map_cons map_toArray map_nil)
open Option (map_some map_eq_some_iff)
namespace Go.Proofs.YtnhbidpdadkcjaaGreatDoor
def alW (al:Al)(id:Nat):Al:=⟨fun b=>al b∨(id≤b∧b<id+16),al.M⟩
section
variable {P:Program}{B:cX}{w0:World}{ρ ρ':Nat→Loc}{al al':Al}{h:ag}{w:World}
theorem WRep.lift (H:WRep B w0 ρ al h w)(hi:∀b,al b→al' b)(hM:al'.M=al.M:=by rfl):WRep B w0 ρ al' h w:=H.step ⟨fun _ _=>rfl,hM▸Mem.le_refl _,hi⟩ H.below (fun _ _ _ _=>rfl) (fun _ _=>rfl) hM
theorem ARep.lift {x:AV}{y:Value}(H:ARep ρ al x y)(hi:∀b,al b→al' b)(hM:al'.M=al.M:=by rfl):ARep ρ al' x y:=H.ext ⟨fun _ _=>rfl,hM▸Mem.le_refl _,hi⟩
theorem LRep.lift {x:LV}{y:Value}(H:LRep ρ al x y)(hi:∀b,al b→al' b)(hM:al'.M=al.M:=by rfl):LRep ρ al' x y:=H.ext ⟨fun _ _=>rfl,hM▸Mem.le_refl _,hi⟩
theorem Ext.lift (H:Ext ρ ρ' al al'){al'':Al}(hi:∀b,al' b→al'' b)(hM:al''.M=al'.M:=by rfl):Ext ρ ρ' al al'':=⟨H.eq,hM▸H.M,fun b hb=>hi b (H.al b hb)⟩
theorem uv {id j:Nat}(h1:id≤j)(h2:j<id+16):∀b,al1 al j b→alW al id b:=by
 rintro b (hb | rfl)
 ·exact .inl hb
 ·exact .inr ⟨h1,h2⟩
def bnd (d:Int):Option AV→Option Int
 |none=>some d
 |some (.s (.l (.v (.int _ z))))=>some z
 |some _=>none
def qd (P:Program)(t:TypeId)(x:AV)(lo hi mx:Option AV)(h:ag):Option Res :=
 match mx with
 |some _=>none
 |none=>match x with
  |.s (.l (.sl b i n))=>match bnd 0 lo,bnd n hi,ac h b,fM P t with
   |some l,some m,some k,some e=>if cD P e=some k.sz then some ⟨0≤l∧l≤m∧m≤n,.s (.l (.sl b (i+l.toNat) (m.toNat-l.toNat))),[]⟩ else none
   |_,_,_,_=>none
  |.s (.l (.d (.sd sz els)))=>match bnd 0 lo,bnd els.length hi,fM P t with
   |some l,some m,some e=>if cD P e=some sz then some ⟨0≤l∧l≤m∧m≤els.length,.s (.l (.d (.sd sz ((els.drop l.toNat).take (m.toNat-l.toNat))))),[]⟩ else none
   |_,_,_=>none
  |.s (.l (.v (.string s)))=>match bnd 0 lo,bnd s.size hi with
   |some l,some m=>if jL P t then some ⟨0≤l∧l≤m∧m≤s.size,.s (.l (.v (.string (s.extract l.toNat m.toNat)))),[]⟩ else none
   |_,_=>none
  |.s (.l (.v (.slice none 0 0)))=>match bnd 0 lo,bnd 0 hi,fM P t with
   |some l,some m,some e=>match cD P e with
    |some _=>some ⟨l=0∧m=0,.s (.l (.v (.slice none 0 0))),[]⟩
    |none=>none
   |_,_,_=>none
  |_=>none
theorem lw {d:Int}{x:Option AV}{u:Option Value}(hx:match x,u with | none,none=>True | some a,some b=>ARep ρ al a b | _,_=>False){z:Int}(hb:bnd d x=some z) :
  (u=none∧z=d)∨∃k,u=some (.int k z):=by
 unfold bnd at hb;split at hb
 ·cases u with
  |none=>injection hb with hb;exact .inl ⟨rfl,hb.symm⟩
  |some u=>exact hx.elim
 ·cases u with
  |none=>exact hx.elim
  |some u =>
   injection hb with hb;subst hb;have:u=_:=hx;exact .inr ⟨_,by rw[this]⟩
 ·cases hb
theorem gN (s:Bool)(len cap:Nat){lo hi:Option Value}{l m:Int}(hl:(lo=none∧l=0)∨∃k,lo=some (.int k l))(hm:(hi=none∧m=len)∨∃k,hi=some (.int k m))(h0:0≤l)(h1:l≤m)(h2:m≤len)(hc:len≤cap)(w:World) :
  (Instr.sliceBounds s len cap lo hi none).run P w=.ok (l.toNat,m.toNat,cap) w:=by
 have hb:∀(k:IntKind) (c:BoundsCode),(Instr.sliceBound (.int k m) cap c).run P w=.ok m.toNat w:=fun k c=>run_sliceBound _ k m cap c (by omega) (by omega);have hb2:∀(k:IntKind) (c:BoundsCode),(Instr.sliceBound (.int k l) m.toNat c).run P w=.ok l.toNat w:=fun k c=>run_sliceBound _ k l m.toNat c (by omega) (by omega);rcases hm with ⟨rfl,rfl⟩ | ⟨k,rfl⟩<;>rcases hl with ⟨rfl,rfl⟩ | ⟨k',rfl⟩
 ·simp[Instr.sliceBounds]
 ·simp[Instr.sliceBounds]at hb2 ⊢;simp[hb2]
 ·simp[Instr.sliceBounds,hb]
 ·simp[Instr.sliceBounds,hb,hb2]
theorem y5 (H:WRep B w0 ρ al h w){t:TypeId}{x:AV}{u:Value}(hx:ARep ρ al x u){lo hi mx:Option AV}{lo' hi' mx':Option Value}
  (hlo:match lo,lo' with | none,none=>True | some a,some b=>ARep ρ al a b | _,_=>False) (hhi:match hi,hi' with | none,none=>True | some a,some b=>ARep ρ al a b | _,_=>False)
  (hmx:match mx,mx' with | none,none=>True | some a,some b=>ARep ρ al a b | _,_=>False) {R:Res} (hs:qd P t x lo hi mx h=some R) (hob:R.ob) :
  ∃v,(Instr.sliceAt t u lo' hi' mx').run P w=.ok v w∧ARep ρ al R.r v∧R.E=[]:=by
 unfold qd at hs;split at hs
 ·cases hs
 obtain rfl:mx'=none:=by cases mx'<;>first | rfl | exact hmx.elim
 split at hs
 ·rename_i b i n;split at hs
  case h_2=>cases hs
  rename_i l m k e hl hm hk he;split at hs
  case isFalse=>cases hs
  rename_i hsz;injection hs with hs;subst hs;obtain⟨h0,h1,h2⟩:=hob;obtain⟨ha,A,rfl,hcap,hA⟩:=hx;have hu:=gc he;have hsz':=(H.blk b k hk).sz;have hbd:=gN (P:=P) true n ((ρ b).cap-i) (lw hlo hl) (lw hhi hm) h0 h1 h2 (by omega) w;refine⟨.slice (if(ρ b).cap-i=l.toNat then A else A.map (·.add (l.toNat*k.sz))) (m.toNat-l.toNat) ((ρ b).cap-i-l.toNat),?_,⟨ha,(if(ρ b).cap-i=l.toNat then A else A.map (·.add (l.toNat*k.sz))),?_,?_,?_⟩,rfl⟩
  ·simp only[Instr.sliceAt,Instr.slice,Sem.run_bind,run_underlying hu,Result.andThen_ok,hbd,eM hsz,Sem.run_pure]
  ·rw[Nat.sub_sub]
  ·omega
  ·intro hlt;rw[if_neg (by omega),hA (by omega)];simp[px,hsz',Nat.add_mul,Nat.add_assoc]
 ·rename_i sz els;split at hs
  case h_2=>cases hs
  rename_i l m e hl hm he;split at hs
  case isFalse=>cases hs
  rename_i hsz;injection hs with hs;subst hs;obtain⟨h0,h1,h2⟩:=hob;simp only[ARep,SRep,LRep,DRep]at hx;obtain⟨A,cap,rfl,hcap,hA⟩:=hx;have hu:=gc he;have hbd:=gN (P:=P) true els.length cap (lw hlo hl) (lw hhi hm) h0 h1 h2 hcap w;have hlen:((els.drop l.toNat).take (m.toNat-l.toNat)).length=m.toNat-l.toNat:=by simp;omega
  refine⟨.slice (if cap=l.toNat then A else A.map (·.add (l.toNat*sz))) (m.toNat-l.toNat) (cap-l.toNat),?_,?_,rfl⟩
  ·simp only[Instr.sliceAt,Instr.slice,Sem.run_bind,run_underlying hu,Result.andThen_ok,hbd,eM hsz,Sem.run_pure]
  ·simp only[ARep,SRep,LRep,DRep];refine⟨_,_,by rw[hlen],by rw[hlen];omega,fun hne=>?_⟩
   have hpos:0<m.toNat-l.toNat:=by
    rw[←hlen];exact List.length_pos_iff.2 hne
   obtain⟨blk,off,rfl,hat⟩:=hA (by rintro rfl;simp at h2;omega);refine⟨blk,off+l.toNat*sz,?_,DssAt.of fun i e hi=>?_⟩
   ·rw[if_neg (by omega)];simp[px]
   ·rw[List.getElem?_take]at hi;split at hi
    ·rw[List.getElem?_drop]at hi;have:=hat.get _ _ hi;rw[Nat.add_mul,←Nat.add_assoc]at this;exact this
    ·cases hi
 ·rename_i s;split at hs
  case h_2=>cases hs
  rename_i l m hl hm;split at hs
  case isFalse=>cases hs
  rename_i hst;injection hs with hs;subst hs;obtain⟨h0,h1,h2⟩:=hob;have:u=.string s:=hx;subst this;have hu:=eX hst;have hbd:=gN (P:=P) false s.size s.size (lw hlo hl) (lw hhi hm) h0 h1 h2 (Nat.le_refl _) w;refine⟨_,?_,rfl,rfl⟩;simp[Instr.sliceAt,Instr.slice,run_underlying hu,hbd]
 ·split at hs
  case h_2=>cases hs
  rename_i l m e hl hm he;split at hs
  case h_2=>cases hs
  rename_i sz hsz;injection hs with hs;subst hs;obtain⟨rfl,rfl⟩:=hob;have:u=.slice none 0 0:=hx;subst this;have hu:=gc he;have hbd:=gN (P:=P) true 0 0 (lw hlo hl) (lw hhi hm) (by omega) (by omega) (by simp) (Nat.le_refl _) w;refine⟨_,?_,rfl,rfl⟩;simp[Instr.sliceAt,Instr.slice,run_underlying hu,hbd,eM hsz]
 ·cases hs
def kg:List LV→Option Int
 |[.v (.int .u8 z)]=>some z
 |_=>none
def au (z:Int):List LV:=[.v (.int .u8 z)]
theorem AG (z:Int):kg (au z)=some z:=rfl
theorem tE (c:List LV)(z:Int)(h:kg c=some z):c=au z:=by
 unfold kg at h;split at h
 ·injection h with h;subst h;rfl
 ·cases h
def bH {α:Type}(d:List LV→Option α):List (List LV)→Option (List α)
 |[]=>some []
 |e::r=>match d e,bH d r with
  |some x,some l=>some (x::l)
  |_,_=>none
theorem gW {α:Type}{d:List LV→Option α}{e:α→List LV}(h:∀x,d (e x)=some x):∀l:List α,bH d (l.map e)=some l
 |[]=>rfl
 |x::l=>by simp[bH,h,gW h l]
theorem gX {α:Type}{d:List LV→Option α}{e:α→List LV}(h:∀c x,d c=some x→c=e x):∀{els:List (List LV)} {l:List α},bH d els=some l→els=l.map e
 |[],l,hd=>by injection hd with hd;subst hd;rfl
 |c::r,l,hd=>by
  simp only[bH]at hd;split at hd
  case h_2=>cases hd
  rename_i x l' h1 h2;injection hd with hd;subst hd;rw[h c x h1,gX h h2];rfl
def ao (zs:List Int):ByteArray:=⟨(zs.map fun z=>UInt8.ofNat z.toNat).toArray⟩
def aa (s:ByteArray):List Int:=s.data.toList.map fun b=>(b.toNat:Int)
theorem dO (s:ByteArray):ao (aa s)=s:=by
 unfold ao aa;apply ByteArray.ext;simp only[List.map_map];have:((fun z=>UInt8.ofNat z.toNat)∘fun b:UInt8=>((b.toNat:Nat):Int))=id:=by funext b;simp
 rw[this];simp
def wL (P:Program)(t2:TypeId)(y:AV)(h:ag)(sz:Nat):Option (Prop×Nat×List (List LV)) :=
 match y with
 |.s (.l (.sl c i m))=>match ac h c with
  |some l=>if l.sz=sz∧(fM P t2).isSome then some (i+m≤l.els.length,m,(l.els.drop i).take m) else none
  |none=>none
 |.s (.l (.d (.sd sz' els)))=>if sz'=sz∧(fM P t2).isSome then some (True,els.length,els.map bp) else none
 |.s (.l (.v (.string s)))=>if jL P t2=true∧sz=1 then some (True,s.size,(aa s).map au) else none
 |.s (.l (.v (.slice none 0 0)))=>if(fM P t2).isSome then some (True,0,[]) else none
 |_=>none
theorem j4 (size:Nat)(A:Option Addr)(c:Nat)(w:World):(Builtin.firstCells size 0 (.slice A 0 c)).run P w=.ok #[] w:=by
 cases A with
 |none=>simp[Builtin.firstCells]
 |some A=>exact run_firstCells_some (P:=P) w size 0 A 0 c [] (by simp) (by simp)
theorem ue (H:WRep B w0 ρ al h w){t2:TypeId}{y:AV}{v:Value}(hy:ARep ρ al y v){sz m:Nat}{ob:Prop}{rows:List (List LV)}(hs:wL P t2 y h sz=some (ob,m,rows))(hob:ob) :
  ∃news,Src P v t2 sz m news w∧rows.length=m∧(∀e∈rows,e.length=sz)∧news.length=m*sz∧(∀u∈news,u.oneCell'=true)∧∀i j x,cellAt rows i j=some x→∃y,news[i*sz+j]? = some y∧y.oneCell'=true∧LRep ρ al x y:=by
 have ty:(fM P t2).isSome=true→(∃e,P.underlying t2=some (.slice e)):=fun h1=>by
  obtain⟨e,he⟩:=Option.isSome_iff_exists.1 h1;exact⟨e,gc he⟩
 unfold wL at hs;split at hs
 ·rename_i c i m';split at hs
  case h_2=>cases hs
  rename_i l hl;split at hs
  case isFalse=>cases hs
  rename_i hc;injection hs with hs;injection hs with e1 e2;injection e2 with e2 e3;subst e1;subst e2;subst e3;obtain⟨rfl,ht⟩:=hc;obtain⟨-,C,rfl,hcc,hC⟩:=hy;have Hc:=H.blk c l hl;have hdl:((l.els.drop i).take m').length=m':=by simp;omega
  obtain⟨news,n1,n2,n3,n4⟩:=Hc.row hob;refine⟨news,⟨fun w'=>by simp[Builtin.lenOf],.inl (ty ht),fun w' hw'=>?_⟩,hdl,fun e he=>Hc.len e (List.mem_of_mem_drop (List.mem_of_mem_take he)),n1,n3,?_⟩
  ·by_cases hm:m'=0
   ·subst hm;have:news=[]:=List.eq_nil_of_length_eq_zero (by simpa using n1);subst this;exact j4 _ _ _ _
   ·rw[hC (by omega)];refine run_firstCells_some (P:=P) w' l.sz m' _ m' _ news n1 fun j v hv=>?_;rw[World.cell?_of_block (w:=w) (by rw[hw'])];exact n2 j v hv
  ·intro i' j x hx;obtain⟨u,hu,hj⟩:=aD.1 hx;rw[List.getElem?_take]at hu;split at hu
   ·rename_i hlt;rw[List.getElem?_drop]at hu;exact n4 i' j x hlt (aD.2 ⟨u,hu,hj⟩)
   ·cases hu
 ·rename_i sz' els;split at hs
  case isFalse=>cases hs
  rename_i hc;injection hs with hs;injection hs with e1 e2;injection e2 with e2 e3;subst e1;subst e2;subst e3;obtain⟨rfl,ht⟩:=hc;simp only[ARep,SRep,LRep,DRep]at hy;obtain⟨A,cap,rfl,hcap,hA⟩:=hy;by_cases he:els=[]
  ·subst he;exact⟨[],⟨fun w'=>by simp[Builtin.lenOf],.inl (ty ht),fun w' _=>j4 _ _ _ _⟩,rfl,by simp,by simp,by simp,fun i j x hx=>by simp[cellAt]at hx⟩
  ·obtain⟨blk,off,rfl,hat⟩:=hA he
   have hlen:∀e∈els,e.length=sz':=fun e he=>by
    obtain⟨i,hi⟩:=List.mem_iff_getElem?.1 he;exact(hat.get i e hi).1
   have key:∀q,q<els.length*sz'→∃y,al.M blk (off+q)=some y∧y.oneCell'=true:=by
    intro q hq;have hsz:0<sz':=Nat.pos_of_ne_zero (by rintro rfl;simp at hq);have h1:q / sz'<els.length:=(Nat.div_lt_iff_lt_mul hsz).2 hq;have h2:=hat.get (q / sz') _ (List.getElem?_eq_getElem h1);have h3:q % sz'<els[q / sz'].length:=by rw[h2.1];exact Nat.mod_lt _ hsz
    obtain⟨y,g1,g2,_⟩:=h2.2.get (q % sz') _ (List.getElem?_eq_getElem h3);refine⟨y,?_,g2⟩;rw[←g1];congr 1;have:=Nat.div_add_mod q sz';rw[Nat.mul_comm]at this;omega
   refine⟨(List.range (els.length*sz')).map fun q=>(al.M blk (off+q)).getD undef,⟨fun w'=>by simp[Builtin.lenOf],.inl (ty ht),fun w' hw'=>?_⟩,by simp,?_,by simp,?_,?_⟩
   ·refine run_firstCells_some (P:=P) w' sz' els.length ⟨blk,off,none⟩ els.length cap _ (by simp) fun j v hv=>?_;have hj:j<els.length*sz':=by have:=(List.getElem?_eq_some_iff.1 hv).1;simpa using this
    rw[getElem?_map,List.getElem?_range hj,map_some]at hv;injection hv with hv;subst hv;obtain⟨y,g1,_⟩:=key j hj;rw[World.cell?_of_block (w:=w) (by rw[hw']),Addr.add_mid,g1];exact H.mem _ _ _ g1
   ·intro e he;obtain⟨e',h1,rfl⟩:=List.mem_map.1 he;simp[bp,hlen e' h1]
   ·intro u hu;obtain⟨q,hq,rfl⟩:=List.mem_map.1 hu;obtain⟨y,g1,g2⟩:=key q (List.mem_range.1 hq);rw[g1];exact g2
   ·intro i j x hx;obtain⟨u,hu,hj⟩:=aD.1 hx;rw[getElem?_map,map_eq_some_iff]at hu;obtain⟨e,he,rfl⟩:=hu;simp only[bp,getElem?_map,map_eq_some_iff]at hj;obtain⟨z,hz,rfl⟩:=hj;have h2:=hat.get i e he;obtain⟨y,g1,g2,g3⟩:=h2.2.get j z hz;have hi:i<els.length:=(List.getElem?_eq_some_iff.1 he).1;have hj2:j<sz':=by rw[←h2.1];exact(List.getElem?_eq_some_iff.1 hz).1
    refine⟨y,?_,g2,nr.2 g3⟩;rw[getElem?_map,List.getElem?_range (Fz hi hj2),map_some,←Nat.add_assoc,g1];rfl
 ·rename_i s;split at hs
  case isFalse=>cases hs
  rename_i hc;injection hs with hs;injection hs with e1 e2;injection e2 with e2 e3;subst e1;subst e2;subst e3;obtain⟨ht,rfl⟩:=hc;have:v=.string s:=hy;subst this
  have hsz:(s.extract 0 s.size)=s:=by
   apply ByteArray.ext;show(s.extract 0 s.size).data=s.data;rw[ByteArray.data_extract];have:s.size=s.data.size:=rfl;rw[this,Array.extract_size]
  refine⟨(aa s).map (Value.int .u8),⟨fun w'=>by simp[Builtin.lenOf],.inr (eX ht),fun w' _=>?_⟩,by simp[aa],?_,by simp[aa],?_,?_⟩
  ·simp only[Builtin.firstCells,hsz,Sem.run_pure];congr 1;apply Array.ext';simp[aa]
  ·intro e he;obtain⟨_,_,rfl⟩:=List.mem_map.1 he;rfl
  ·intro u hu;obtain⟨_,_,rfl⟩:=List.mem_map.1 hu;rfl
  ·intro i j x hx;obtain⟨u,hu,hj⟩:=aD.1 hx;rw[getElem?_map,map_eq_some_iff]at hu;obtain⟨z,hz,rfl⟩:=hu;cases j with
   |succ j=>simp[au]at hj
   |zero =>
    simp[au]at hj;subst hj;exact⟨.int .u8 z,by rw[Nat.mul_one,Nat.add_zero,getElem?_map,hz];rfl,rfl,rfl⟩
 ·split at hs
  case isFalse=>cases hs
  rename_i ht;injection hs with hs;injection hs with e1 e2;injection e2 with e2 e3;subst e1;subst e2;subst e3;have:v=.slice none 0 0:=hy;subst this;exact⟨[],⟨fun w'=>by simp[Builtin.lenOf],.inl (ty ht),fun w' _=>j4 _ _ _ _⟩,rfl,by simp,by simp,by simp,fun i j x hx=>by simp[cellAt]at hx⟩
 ·cases hs
def mT (P:Program)(t1 t2:TypeId)(x y:AV)(h:ag)(id:Nat):Option Res :=
 match fM P t1 with
 |some T=>match bJ P T,fc P T,cD P T with
  |some _,some by',some sz=>match wL P t2 y h sz with
   |some (ob,m,rows)=>match x with
    |.s (.l (.sl b 0 n))=>match ac h b with
     |some k=>if k.own=true∧k.sz=sz∧k.T=T then some ⟨ob∧n≤k.els.length∧n+m≤maxLen∧(n+m)*by'≤140737488355328,.s (.l (.sl id 0 (n+m))),[(id,some ⟨true,T,sz,k.els.take n++rows⟩),(b,none)]⟩ else none
     |none=>none
    |.s (.l (.v (.slice none 0 0)))=>some ⟨ob∧m≤maxLen∧m*by'≤140737488355328,.s (.l (.sl id 0 m)),[(id,some ⟨true,T,sz,rows⟩)]⟩
    |_=>none
   |none=>none
  |_,_,_=>none
 |none=>none
theorem WRep.virtual (H:WRep B w0 ρ al h w){id:Nat}(hid:¬al id)(T:TypeId)(sz:Nat) :
  ∃ρ',Ext ρ ρ' al (al1 al id)∧ρ' id=⟨0,0,sz,0,true⟩∧WRep B w0 ρ' (al1 al id) ((id,some ⟨true,T,sz,[]⟩)::h) w:=by
 have E:Ext ρ (ρ1 ρ id ⟨0,0,sz,0,true⟩) al (al1 al id):=Ext.new hid _;have e:=CS ρ id ⟨0,0,sz,0,true⟩;generalize ρ1 ρ id ⟨0,0,sz,0,true⟩=ρ' at *
 refine⟨ρ',E,e,(H.step E H.below (fun _ _ _ _=>rfl) (fun _ _=>rfl)).more ⟨.inr rfl,by rw[e],by rw[e],by simp,by simp,fun i j x hx=>by simp[cellAt]at hx,fun _=>by rw[e];exact⟨rfl,Nat.zero_le _,fun h0=>absurd rfl h0⟩⟩ rfl (fun h0=>by rw[e]at h0;exact absurd rfl h0) (fun h0=>by rw[e]at h0;exact absurd rfl h0) ?_⟩;intro c l _ _ _ _ h0;rw[e]at h0;exact absurd rfl h0
theorem xb (H:WRep B w0 ρ al h w){t1 t2 ty:TypeId}{x y:AV}{u v:Value}(hx:ARep ρ al x u)(hy:ARep ρ al y v){id:Nat}(hid:∀b,id≤b→b<id+16→¬al b){R:Res}(hs:mT P t1 t2 x y h id=some R)(hob:R.ob) :
  ∃z w' ρ',(Builtin.append_ #[t1,t2] ty #[u,v]).run P w=.ok z w'∧Ext ρ ρ' al (alW al id)∧ARep ρ' (alW al id) R.r z∧WRep B w0 ρ' (alW al id) (R.E++h) w':=by
 unfold mT at hs;split at hs
 case h_2=>cases hs
 rename_i T hT;split at hs
 case h_2=>cases hs
 rename_i zs by' sz hzs hby hsz
 split at hs
 case h_2=>cases hs
 rename_i ob m rows hsrc;obtain⟨inf,z,hi,hz,hzl,hzsz,hone⟩:=io hzs;have his:inf.size=sz:=by have:=pO hsz;rw[hi]at this;simpa using this
 have hib:inf.bytes=by':=by unfold fc at hby;rw[hi]at hby;simpa using hby
 have hu:=gc hT;split at hs
 ·rename_i b n;split at hs
  case h_2=>cases hs
  rename_i k hk;split at hs
  case isFalse=>cases hs
  rename_i hc;obtain⟨ho,hksz,hkT⟩:=hc;injection hs with hs;subst hs;subst hkT;subst hksz;obtain⟨h0,h1,h4,h5⟩:=hob;obtain⟨news,q1,q2,q3,q4,q5,q6⟩:=ue H hy hsrc h0;obtain⟨v',w',ρ',g1,g2,g3,g4⟩:=H.append (hid id (Nat.le_refl _) (by omega)) hk ho hx h1 q2 q3 q1 q4 q5 q6 hu hi hz his hib (by rw[hzsz,his]) h4 h5 (ty:=ty);exact⟨v',w',ρ',g1,g2.lift (uv (Nat.le_refl _) (by omega)),LRep.lift g3 (uv (Nat.le_refl _) (by omega)),g4.lift (uv (Nat.le_refl _) (by omega))⟩
 ·injection hs with hs;subst hs;have:u=.slice none 0 0:=hx;subst this;obtain⟨h0,h4,h5⟩:=hob;obtain⟨ρv,Ev,ev,Hv⟩:=H.virtual (hid (id+1) (by omega) (by omega)) T sz;obtain⟨news,q1,q2,q3,q4,q5,q6⟩:=ue H hy hsrc h0
  have hid2:¬al1 al (id+1) id:=by
   rintro (h | h)
   ·exact hid id (Nat.le_refl _) (by omega) h
   ·omega
  obtain⟨v',w',ρ',g1,g2,g3,g4⟩:=Hv.append (v:=.slice none 0 0) (b:=id+1) (n:=0) hid2 (by rw[ac,if_pos rfl]) rfl ⟨.inr rfl,none,(by rw[ev];rfl),by simp,fun h0=>by rw[ev]at h0;simp at h0⟩ (Nat.zero_le _) q2 q3 q1 q4 q5 (fun i j x hx=>by
   obtain⟨y,p1,p2,p3⟩:=q6 i j x hx;exact⟨y,p1,p2,p3.ext Ev⟩) hu hi hz his hib (by rw[hzsz,his]) (by omega) (by simpa using h5) (ty:=ty)
  simp only[List.take_zero,List.nil_append,Nat.zero_add]at g3 g4
  have hup:∀b,al1 (al1 al (id+1)) id b→alW al id b:=by
   rintro b ((hb | hb) | hb)
   ·exact .inl hb
   ·exact .inr (by omega)
   ·exact .inr (by omega)
  refine⟨v',w',ρ',g1,(Ev.trans g2).lift hup,LRep.lift g3 hup,(g4.sub fun b k hb=>?_).lift hup⟩;simp only[List.singleton_append,List.cons_append,List.nil_append,ac]at hb ⊢;split
  ·rename_i e;rw[if_pos e]at hb;exact hb
  ·rename_i e;rw[if_neg e]at hb;have hbal:=(H.blk b k hb).here;have hne:¬id+1=b:=fun e=>hid (id+1) (by omega) (by omega) (e▸hbal);rw[if_neg hne,if_neg hne];exact hb
 ·cases hs
def ng (P:Program)(t:TypeId):Bool :=
 match fM P t with
 |some e=>km P e==some .u8&&cD P e==some 1
 |none=>false
def mU (P:Program)(src dst:TypeId)(x:AV)(h:ag)(id:Nat):Option Res :=
 match x with
 |.s (.l (.sl b i n))=>if ng P src=true then match ac h b with
   |some k=>if jL P dst=true then(if k.sz=1 then match bH kg ((k.els.drop i).take n) with
     |some zs=>some ⟨i+n≤k.els.length,.s (.l (.v (.string (ao zs)))),[]⟩
     |none=>none
     else none)
    else if src=dst∧k.own=true then some ⟨0<n,.s (.l (.sl b i n)),[]⟩ else none
   |none=>none
   else none
 |.s (.l (.d (.sd sz els)))=>if ng P src=true∧jL P dst=true∧sz=1 then match bH kg (els.map bp) with
   |some zs=>some ⟨True,.s (.l (.v (.string (ao zs)))),[]⟩
   |none=>none
   else none
 |.s (.l (.v (.slice none 0 0)))=>if ng P src=true∧jL P dst=true then some ⟨True,.s (.l (.v (.string (ao [])))),[]⟩ else none
 |.s (.l (.v (.string s)))=>match fM P dst with
  |some e=>if ng P dst=true∧jL P src=true then some ⟨s.size≤maxLen,.s (.l (.sl id 0 s.size)),[(id,some ⟨true,e,1,(aa s).map au⟩)]⟩ else none
  |none=>none
 |_=>none
theorem qi (A:Option Addr)(c:Nat)(w:World):(Conv.bytesToString (.slice A 0 c)).run P w=.ok (.string (ao [])) w:=by
 cases A with
 |none=>rfl
 |some A=>rw[run_bytesToString w A 0 c [] (run_loadCells_list (P:=P) w A [] (by simp))];rfl
theorem kl {t:TypeId}(hb:ng P t=true):∃e,P.underlying t=some (.slice e)∧fM P t=some e∧P.underlying e=some (.int .u8)∧cD P e=some 1:=by
 unfold ng at hb;split at hb
 case h_2=>cases hb
 rename_i e he;simp only[Bool.and_eq_true,beq_iff_eq]at hb;refine⟨e,gc he,he,?_,hb.2⟩;have:=hb.1;unfold km at this;split at this
 ·rename_i k hk;injection this with this;rw[hk,this]
 ·cases this
theorem ki (w:World)(a:Addr)(n k:Nat)(h:k≠a.block):(w.freeze a n).heap[k]? = w.heap[k]?:=by
 unfold World.freeze;split
 ·rfl
 ·rw[Array.getElem?_modify,if_neg (fun e=>h e.symm)]
theorem A7 (w:World)(b o:Nat)(cur:Array Value)(T:TypeId)(fr:Nat×Nat)(h:w.heap[b]? = some (.cells cur T fr)):(w.freeze ⟨b,o,none⟩ 1).heap[b]? = some (.cells cur T (if fr.1==fr.2 then(o,o+1) else(min fr.1 o,max fr.2 (o+1)))):=by
 unfold World.freeze;rw[if_neg (by decide)];rw[Array.getElem?_modify,if_pos rfl,h];rfl
theorem zn {S:Nat→Prop}{a':World}(H:Keeps S a' w)(b o:Nat)(hB:¬S b):Keeps S a' (w.freeze ⟨b,o,none⟩ 1):=by
 have hsame:∀(k:Nat) (o':Obj),w.heap[k]? = some o'→rr o'=true→(w.freeze ⟨b,o,none⟩ 1).heap[k]? = some o':=by
  intro k o' hk ho;by_cases e:k=b
  ·subst e;unfold World.freeze;rw[if_neg (by decide),Array.getElem?_modify,if_pos rfl,hk];cases o'<;>first | rfl | (simp[rr]at ho)
  ·rw[ki _ _ _ _ (by show k≠b;exact e)];exact hk
 refine H.trans ⟨?_,?_,?_,?_,fun k hk=>ki _ _ _ _ (by show k≠b;exact fun e=>hB (e▸hk)),hsame⟩<;>(unfold World.freeze;rw[if_neg (by decide)])<;>simp
theorem WRep.mark (H:WRep B w0 ρ al h w){b:Nat}{k:Blk}(hk:ac h b=some k)(ho:k.own=true)(hc:(ρ b).cap≠0){cur:Array Value}{T:TypeId}{fr:Nat×Nat}(hcur:w.heap[(ρ b).blk]? = some (.cells cur T fr)) :
  WRep B w0 ρ al h (w.freeze ⟨(ρ b).blk,cur.size,none⟩ 1):=by
 have Hb:=H.blk b k hk;have hB:=H.own b k hk ho hc;have H0:WRep B w0 ρ al ((b,none)::h) w:=H.sub fun c l hl=>(dN c l hl).2
 have H1:WRep B w0 ρ al ((b,none)::h) (w.freeze ⟨(ρ b).blk,cur.size,none⟩ 1) :=
  H0.step (.refl _ _) (zn H.below _ _ hB) (fun d q hd hc'=>ki _ _ _ _ (H.other hk ho hc (dN d q hd).2 hc' (dN d q hd).1)) (fun c hc'=>ki _ _ _ _ (H.memOther hk ho hc hc'))
 have hnew:=A7 w (ρ b).blk cur.size cur T fr hcur;refine(H1.more (b:=b) (k:=k) ⟨Hb.here,Hb.own,Hb.sz,Hb.len,Hb.cap,?_,?_⟩ ho (fun _=>hB) (H.memOwn b k hk ho) ?_).sub fun c l hl=>?_
 ·intro i j x hx;obtain⟨y,h1,h2,h3⟩:=Hb.cells i j x hx;refine⟨y,?_,h2,h3⟩;rw[cell_of_row _ _ _ _ _ _ hnew,←h1,cell_of_row _ _ _ _ _ _ hcur]
 ·intro _;obtain⟨cur',fr',g1,g2,g3⟩:=(Hb.room ho).2.2 hc;rw[hcur]at g1;injection g1 with g1;injection g1 with e1 e2 e3;subst e1;subst e2;subst e3;refine⟨(Hb.room ho).1,(Hb.room ho).2.1,fun _=>⟨cur,_,hnew,g2,?_⟩⟩;obtain⟨lo,hi⟩:=fr;by_cases e:lo=hi
  ·subst e;simp
  ·have:(lo==hi)=false:=by simpa using e
   simp only[this];rcases g3 with g3 | g3
   ·exact absurd g3 e
   ·right;simp only at g3;show cur.size≤min lo cur.size;omega
 ·intro c l hl ol cl hne _;exact H.other hk ho hc (dN c l hl).2 (.inr ⟨ol,cl⟩) hne
 ·by_cases e:b=c
  ·subst e;rw[hk]at hl;rw[ac,if_pos rfl,←hl]
  ·rw[ac,if_neg e,ac,if_neg e];exact hl
theorem yW (H:WRep B w0 ρ al h w){src dst:TypeId}{x:AV}{u:Value}(hx:ARep ρ al x u){id:Nat}(hid:¬al id){R:Res}(hs:mU P src dst x h id=some R)(hob:R.ob) :
  ∃v w' ρ',(convert src dst u).run P w=.ok v w'∧Ext ρ ρ' al (al1 al id)∧ARep ρ' (al1 al id) R.r v∧WRep B w0 ρ' (al1 al id) (R.E++h) w':=by
 unfold mU at hs;split at hs
 ·rename_i b i n;split at hs
  case isFalse=>cases hs
  rename_i hby;obtain⟨e,he,_,hu8,_⟩:=kl hby;split at hs
  case h_2=>cases hs
  rename_i k hk;have Hb:=H.blk b k hk;obtain⟨ha,A,rfl,hcap,hA⟩:=hx;split at hs
  ·rename_i hst;split at hs
   case isFalse=>cases hs
   rename_i hsz;split at hs
   case h_2=>cases hs
   rename_i zs hz;injection hs with hs;subst hs;have h1:i+n≤k.els.length:=hob;by_cases h2:n=0
   ·subst h2;obtain rfl:zs=[]:=by simpa[bH] using hz.symm
    refine⟨.string (ao []),w,ρ,?_,⟨fun _ _=>rfl,Mem.le_refl _,fun _ hb=>.inl hb⟩,rfl,H.lift fun _ hb=>.inl hb⟩;rw[run_convert_bytes_string w src dst e _ _ _ he hu8 (eX hst),qi]
   rw[hA (by omega)];obtain⟨news,n1,n2,n3,n4⟩:=Hb.row h1;have hels:=gX tE hz
   have hlen:zs.length=n:=by
    have:=congrArg List.length hels;simp at this;omega
   have hnews:news=zs.map (Value.int .u8):=by
    refine List.ext_getElem? fun j=>?_;by_cases hj:j<n
    ·have hcell:cellAt k.els (i+j) 0=some (.v (.int .u8 (zs[j]'(by omega)))):=by
      refine aD.2 ⟨au (zs[j]'(by omega)),?_,rfl⟩;have:=congrArg (fun l=>l[j]?) hels;simp only[List.getElem?_take,if_pos hj,List.getElem?_drop,getElem?_map]at this;rw[this,List.getElem?_eq_getElem (by omega)];rfl
     obtain⟨y,g1,_,g3⟩:=n4 j 0 _ hj hcell;have:y=.int .u8 (zs[j]'(by omega)):=g3;rw[hsz]at g1;rw[show j=j*1+0 by omega,g1,this,getElem?_map,List.getElem?_eq_getElem (by omega)];simp
    ·rw[List.getElem?_eq_none (by rw[n1,hsz];omega),List.getElem?_eq_none (by simp;omega)]
   have hl:(loadCells ⟨(ρ b).blk,(ρ b).off+i*(ρ b).sz,none⟩ n).run P w=.ok (zs.map (Value.int .u8)).toArray w:=by
    rw[←hnews,show n=news.length by rw[n1,hsz];omega];exact run_loadCells_list (P:=P) w _ news n2
   refine⟨.string (ao zs),w,ρ,?_,⟨fun _ _=>rfl,Mem.le_refl _,fun _ hb=>.inl hb⟩,rfl,H.lift fun _ hb=>.inl hb⟩;rw[run_convert_bytes_string w src dst e _ _ _ he hu8 (eX hst),run_bytesToString w _ _ _ zs hl];congr 2
   have hf:∀(l:List Int) (r:ByteArray),l.foldl (fun r n=>r.push (UInt8.ofNat n.toNat)) r=⟨r.data++(l.map fun z=>UInt8.ofNat z.toNat).toArray⟩:=by
    intro l
    induction l with
    |nil=>intro r;apply ByteArray.ext;simp
    |cons z l ih =>
     intro r;rw[List.foldl_cons,ih];apply ByteArray.ext;simp[ByteArray.push]
   rw[hf];apply ByteArray.ext;simp[ao]
  ·split at hs
   case isFalse=>cases hs
   rename_i hc;obtain⟨rfl,ho⟩:=hc;injection hs with hs;subst hs;rename_i hst;have hc0:(ρ b).cap≠0:=by simp only at hob;omega
   have hA':=hA (by simp only at hob;omega);obtain⟨cur,fr,hcur,hcs,_⟩:=(Hb.room ho).2.2 hc0;refine⟨_,_,ρ,?_,⟨fun _ _=>rfl,Mem.le_refl _,fun _ hb=>.inl hb⟩,⟨.inl ha,A,rfl,hcap,hA⟩,(H.mark hk ho hc0 hcur).lift fun _ hb=>.inl hb⟩;have hsh:w.shape? (ρ b).blk=some (k.T,cur.size):=by simp[World.shape?,hcur]
   rw[hA'];simp[convert,run_underlying he,run_underlying hu8,markStringish,hsh]
 ·rename_i sz els;split at hs
  case isFalse=>cases hs
  rename_i hc;obtain⟨hby,hst,rfl⟩:=hc;obtain⟨e,he,_,hu8,_⟩:=kl hby;split at hs
  case h_2=>cases hs
  rename_i zs hz;injection hs with hs;subst hs;simp only[ARep,SRep,LRep,DRep]at hx;obtain⟨A,cap,rfl,hcap,hA⟩:=hx;by_cases h2:els=[]
  ·subst h2;obtain rfl:zs=[]:=by simpa[bH] using hz.symm
   refine⟨.string (ao []),w,ρ,?_,⟨fun _ _=>rfl,Mem.le_refl _,fun _ hb=>.inl hb⟩,rfl,H.lift fun _ hb=>.inl hb⟩;rw[run_convert_bytes_string w src dst e _ _ _ he hu8 (eX hst),List.length_nil,qi]
  obtain⟨blk,off,rfl,hat⟩:=hA h2;have hels:=gX tE hz;have hlen:zs.length=els.length:=by have:=congrArg List.length hels;simpa using this.symm
  have hl:(loadCells ⟨blk,off,none⟩ els.length).run P w=.ok (zs.map (Value.int .u8)).toArray w:=by
   rw[show els.length=(zs.map (Value.int .u8)).length by simp[hlen]];refine run_loadCells_list (P:=P) w _ _ fun j v hv=>?_;rw[getElem?_map,map_eq_some_iff]at hv;obtain⟨z,hz1,rfl⟩:=hv;have h1:=congrArg (fun l=>l[j]?) hels;simp only[getElem?_map,hz1,map_some]at h1;rw[map_eq_some_iff]at h1;obtain⟨q,hq,h2⟩:=h1;have h3:=hat.get j q hq;cases q with
   |nil=>simp[bp,au]at h2
   |cons d r =>
    simp only[bp,au,map_cons,List.cons.injEq]at h2;obtain⟨y,g1,_,g3⟩:=h3.2.get 0 d rfl;have g4:LRep ρ al (ofD d) y:=nr.2 g3;rw[h2.1]at g4;have g5:y=.int .u8 z:=g4;subst g5;rw[Addr.add_mid];have:=H.mem _ _ _ g1
    rwa [Nat.mul_one,Nat.add_zero]at this
  refine⟨.string (ao zs),w,ρ,?_,⟨fun _ _=>rfl,Mem.le_refl _,fun _ hb=>.inl hb⟩,rfl,H.lift fun _ hb=>.inl hb⟩;rw[run_convert_bytes_string w src dst e _ _ _ he hu8 (eX hst),run_bytesToString w _ _ _ zs hl];congr 2
  have hf:∀(l:List Int) (r:ByteArray),l.foldl (fun r n=>r.push (UInt8.ofNat n.toNat)) r=⟨r.data++(l.map fun z=>UInt8.ofNat z.toNat).toArray⟩:=by
   intro l
   induction l with
   |nil=>intro r;apply ByteArray.ext;simp
   |cons z l ih =>
    intro r;rw[List.foldl_cons,ih];apply ByteArray.ext;simp[ByteArray.push]
  rw[hf];apply ByteArray.ext;simp[ao]
 ·split at hs
  case isFalse=>cases hs
  rename_i hc;obtain⟨hby,hst⟩:=hc;obtain⟨e,he,_,hu8,_⟩:=kl hby;injection hs with hs;subst hs;have:u=.slice none 0 0:=hx;subst this;refine⟨.string (ao []),w,ρ,?_,⟨fun _ _=>rfl,Mem.le_refl _,fun _ hb=>.inl hb⟩,rfl,H.lift fun _ hb=>.inl hb⟩;rw[run_convert_bytes_string w src dst e _ _ _ he hu8 (eX hst),qi]
 ·rename_i s;split at hs
  case h_2=>cases hs
  rename_i e he;split at hs
  case isFalse=>cases hs
  rename_i hc;obtain⟨hby,hst⟩:=hc;injection hs with hs;subst hs;obtain⟨e',he',hel,hu8,_⟩:=kl hby;rw[he]at hel;injection hel with hel;subst hel;have:u=.string s:=hx;subst this;have hrun:=run_bytes_of_string (P:=P) w src dst e s (eX hst) he' hu8;have hge:=grownCap_ge w s.size 0 e;have hle:=grownCap_le_maxLen w s.size 0 e hob;have hsz:(bytesRow s (grownCap w s.size 0 e)).size=grownCap w s.size 0 e*1:=by simp[bytesRow];have:s.data.size=s.size:=rfl;omega
  obtain⟨ρ',E,e2,H'⟩:=H.drew.allocF hid e 1 (grownCap w s.size 0 e) ((aa s).map au) (bytesRow s (grownCap w s.size 0 e)) ((bytesRow s (grownCap w s.size 0 e)).size,(bytesRow s (grownCap w s.size 0 e)).size+1) (.inr (Nat.le_refl _)) hsz hle (by simp[aa];exact hge) ⟨by
    intro c hc;obtain⟨_,_,rfl⟩:=List.mem_map.1 hc;rfl,fun i j x hx=>by
    obtain⟨c,h1,h2⟩:=aD.1 hx;simp only[aa,List.map_map,getElem?_map]at h1;cases hb:s.data.toList[i]? with
    |none=>rw[hb]at h1;cases h1
    |some q =>
     rw[hb]at h1;injection h1 with h1;subst h1;cases j with
     |succ j=>simp[au]at h2
     |zero =>
      simp[au]at h2;subst h2;refine⟨.int .u8 q.toNat,?_,rfl,rfl⟩;rw[Nat.mul_one,Nat.add_zero];simp only[bytesRow,Array.toList_append,Array.toList_map];rw[List.getElem?_append_left (by have:=(List.getElem?_eq_some_iff.1 hb).1;simpa using this),getElem?_map,hb];rfl⟩
  refine⟨_,_,ρ',hrun,E,⟨.inr rfl,some ⟨w.heap.size,0,none⟩,(by rw[e2];rfl),(by rw[e2];show 0+s.size≤grownCap w s.size 0 e;omega),(fun _=>by rw[e2];simp)⟩,H'⟩
 ·cases hs
end
section
variable {P:Program}{B:cX}{w0:World}{ρ:Nat→Loc}{al:Al}{h:ag}{w:World}
def Ff (P:Program)(t:TypeId)(x y:AV)(id:Nat):Option Res :=
 match fM P t with
 |some e=>match bJ P e,fc P e with
  |some zs,some by_=>match x,y with
   |.s (.l (.v (.int _ l))),.s (.l (.v (.int _ c)))=>some ⟨0≤l∧l≤c∧by_*c≤281474976710656∧c≤maxLen,.s (.l (.sl id 0 l.toNat)),[(id,some ⟨true,e,zs.length,List.replicate l.toNat (zs.map .v)⟩)]⟩
   |_,_=>none
  |_,_=>none
 |none=>none
theorem Ak (H:WRep B w0 ρ al h w){t:TypeId}{x y:AV}{u v:Value}(hx:ARep ρ al x u)(hy:ARep ρ al y v){id:Nat}(hid:¬al id){R:Res}(hs:Ff P t x y id=some R)(hob:R.ob) :
  ∃z w' ρ',(Instr.makeSlice t u v).run P w=.ok z w'∧Ext ρ ρ' al (al1 al id)∧ARep ρ' (al1 al id) R.r z∧WRep B w0 ρ' (al1 al id) (R.E++h) w':=by
 unfold Ff at hs;split at hs
 case h_2=>cases hs
 rename_i e he;split at hs
 case h_2=>cases hs
 rename_i zs by_ hzs hby;split at hs
 case h_2=>cases hs
 rename_i k l k' c;injection hs with hs;subst hs;obtain⟨h0,hlc,hbytes,hmax⟩:=hob;obtain⟨i,z,hi,hz,hzl,hzs',hone⟩:=io hzs
 have hu:P.underlying t=some (.slice e):=by
  unfold fM at he;split at he
  ·rename_i e2 hu;injection he with he;rw[hu,he]
  ·cases he
 have hib:i.bytes=by_:=by unfold fc at hby;rw[hi]at hby;simpa using hby
 have hux:u=.int k l:=hx;have hvy:v=.int k' c:=hy;subst hux;subst hvy;have hzlen:zs.length=i.size:=by rw[←hzl,←hzs'];simp
 have hml:maxLen≤9223372036854775807:=by unfold maxLen;decide
 have hrun:=run_make (P:=P) w t e i z hu hi hz k k' l c h0 hlc (by rw[hib];exact hbytes) (by omega)
 have hcell:∀(a j:Nat) (x:LV),cellAt (List.replicate l.toNat (zs.map LV.v)) a j=some x→a<l.toNat∧∃y,zs[j]? = some y∧x=.v y:=by
  intro a j x hx;unfold cellAt at hx;rw[List.getElem?_replicate]at hx;split at hx
  ·rename_i ha;simp only[Option.bind_some,getElem?_map,map_eq_some_iff]at hx;obtain⟨y,h1,h2⟩:=hx;exact⟨ha,y,h1,h2.symm⟩
  ·cases hx
 obtain⟨ρ',E,e',H'⟩:=H.alloc hid e zs.length c.toNat (List.replicate l.toNat (zs.map .v)) (madeCells z.cells (c.toNat*i.size)) (by rw[size_madeCells,hzlen]) (by omega) (by rw[List.length_replicate];omega) ⟨fun e he=>by rw[(List.mem_replicate.1 he).2];simp,fun a j x hx=>by
  obtain⟨ha,y,h1,rfl⟩:=hcell a j x hx;have hj:j<zs.length:=(List.getElem?_eq_some_iff.1 h1).1;refine⟨y,?_,hone y (List.mem_of_getElem? h1),rfl⟩
  have hlt:a*zs.length+j<c.toNat*i.size:=by
   rw[←hzlen];have h2:(a+1)*zs.length≤c.toNat*zs.length:=Nat.mul_le_mul_right _ (by omega);rw[Nat.succ_mul]at h2;omega
  have hmod:(a*zs.length+j) % z.cells.size=j:=by
   rw[hzs',←hzlen,Nat.mul_comm,Nat.mul_add_mod,Nat.mod_eq_of_lt hj]
  have hgz:z.cells[j]? = some y:=by rw[←Array.getElem?_toList,hzl];exact h1
  simp only[madeCells,Array.toList_map,Array.toList_range,getElem?_map,List.getElem?_range hlt,map_some,hmod];rw[getElem!_def,hgz]⟩
 refine⟨_,_,ρ',hrun,E,⟨.inr rfl,some ⟨w.heap.size,0,none⟩,(by rw[e'];rfl),(by rw[e'];show 0+l.toNat≤c.toNat;omega),(fun _=>by rw[e'];simp)⟩,H'⟩
end
structure am (P:Program)(f:FuncId) where
 pan:Nat→ag→List AV→Option (Prop×Value×ag):=fun _ _ _=>none
 enter:∀(args:Array Value) (w:World),(callFunc f args).run P w=.ok (.enter f args) w
 run:Nat→ag→List AV→Option Res
 mono:∀{id:Nat} {h h':ag} {args:List AV} {R:Res},(∀b k,ac h b=some k→ac h' b=some k)→run id h args=some R→run id h' args=some R
 sound:∀{id:Nat} {h:ag} {args:List AV} {R:Res},run id h args=some R→R.ob→∀{B:cX} {w0:World} {ρ:Nat→Loc} {al:Al} {w:World} (vals:List Value),WRep B w0 ρ al h w→(∀b,id≤b→b<id+16→¬al b)→AsRep ρ al args vals →
  Calls P f vals.toArray w fun e w'=>∃v ρ' al',e=.returned v∧Ext ρ ρ' al al'∧(∀b,al' b→alW al id b)∧ARep ρ' al' R.r v∧WRep B w0 ρ' al' (R.E++h) w'
 psound:∀{id:Nat} {h:ag} {args:List AV} {ob:Prop} {x:Value} {E:ag},pan id h args=some (ob,x,E)→ob→∀{B:cX} {w0:World} {ρ:Nat→Loc} {al:Al} {w:World} (vals:List Value),WRep B w0 ρ al h w→(∀b,id≤b→b<id+16→¬al b)→AsRep ρ al args vals →
  Calls P f vals.toArray w fun e w'=>∃ρ' al',e=.panicked [{ v:=x,recovered:=false }]∧Ext ρ ρ' al al'∧(∀b,al' b→alW al id b)∧WRep B w0 ρ' al' (E++h) w':=by intro _ _ _ _ _ _ hp;cases hp
abbrev Ctx (P:Program):=List ((f:FuncId)×am P f)
def JN {P:Program}:Ctx P→FuncId→Option (Nat→ag→List AV→Option Res)
 |[],_=>none
 |⟨g,s⟩::r,f=>if g=f then some s.run else JN r f
theorem sn {P:Program}:∀{c:Ctx P} {f:FuncId} {run:Nat→ag→List AV→Option Res},JN c f=some run→∃s:am P f,s.run=run
 |[],_,_,h=>by cases h
 |⟨g,s⟩::r,f,run,h=>by
  simp only[JN]at h;split at h
  ·rename_i e;subst e;injection h with h;exact⟨s,h⟩
  ·exact sn h
def JM {P:Program}:Ctx P→FuncId→Option (Nat→ag→List AV→Option (Prop×Value×ag))
 |[],_=>none
 |⟨g,s⟩::r,f=>if g=f then some s.pan else JM r f
theorem xK {P:Program}:∀{c:Ctx P} {f:FuncId} {pan:Nat→ag→List AV→Option (Prop×Value×ag)},JM c f=some pan→∃s:am P f,s.pan=pan
 |[],_,_,h=>by cases h
 |⟨g,s⟩::r,f,pan,h=>by
  simp only[JM]at h;split at h
  ·rename_i e;subst e;injection h with h;exact⟨s,h⟩
  ·exact xK h
def oh:AV→Option (FuncId×List AV×List AV)
 |.s (.l (.v (.func (.func g) f c)))=>some (g,f.toList.map fun x=>.s (.l (.v x)),c.toList.map fun x=>.s (.l (.v x)))
 |.s (.l (.d (.fn g f c)))=>some (g,(bp f).map fun x=>.s (.l x),(bp c).map fun x=>.s (.l x))
 |.fn g f c=>some (g,f.map fun x=>.s (.l x),c.map fun x=>.s (.l x))
 |.s (.l (.bf g bs cs))=>some (g,bs.map fun b=>.s (.l (.p b 0 0)),cs.map fun b=>.s (.l (.p b 0 0)))
 |_=>none
theorem y9 {ρ:Nat→Loc}{al:Al}:∀l:List Value,AsRep ρ al (l.map fun x=>.s (.l (.v x))) l
 |[]=>trivial
 |x::l=>⟨rfl,y9 l⟩
theorem pz {ρ:Nat→Loc}{al:Al}:∀{xs:List LV} {ys:List Value},LsRep ρ al xs ys→AsRep ρ al (xs.map fun x=>.s (.l x)) ys
 |[],[],_=>trivial
 |x::xs,y::ys,⟨_,b,c⟩=>⟨b,pz c⟩
theorem iy {ρ:Nat→Loc}{al:Al}:∀{xs:List AV} {ys:List Value} {xs':List AV} {ys':List Value},AsRep ρ al xs ys→AsRep ρ al xs' ys'→AsRep ρ al (xs++xs') (ys++ys')
 |[],[],_,_,_,h=>h
 |_::_,_::_,_,_,⟨a,b⟩,h=>⟨a,iy b h⟩
theorem uO {ρ:Nat→Loc}{al:Al}:∀{bs:List Nat},(∀b∈bs,al b)→AsRep ρ al (bs.map fun b=>.s (.l (.p b 0 0))) (bs.map (pAt ρ))
 |[],_=>trivial
 |b::bs,h=>⟨⟨h b List.mem_cons_self,by simp[pAt]⟩,uO fun c hc=>h c (List.mem_cons_of_mem _ hc)⟩
theorem qW {ρ:Nat→Loc}{al:Al}{x:AV}{g:FuncId}{f c:List AV}{y:Value}(h:oh x=some (g,f,c))(hr:ARep ρ al x y) :
  ∃fs cs:List Value,y=.func (.func g) fs.toArray cs.toArray∧AsRep ρ al f fs∧AsRep ρ al c cs:=by
 unfold oh at h;split at h
 ·rename_i g' f' c';injection h with h;injection h with e1 h;injection h with e2 e3;subst e1;subst e2;subst e3;have:y=_:=hr;exact⟨f'.toList,c'.toList,by rw[this],y9 _,y9 _⟩
 ·rename_i g' f' c';injection h with h;injection h with e1 h;injection h with e2 e3;subst e1;subst e2;subst e3;simp only[ARep,SRep,LRep,DRep]at hr;obtain⟨fs,cs,rfl,h1,h2⟩:=hr;exact⟨fs,cs,rfl,pz (DsRep.ls rfl h1),pz (DsRep.ls rfl h2)⟩
 ·rename_i g' f' c';injection h with h;injection h with e1 h;injection h with e2 e3;subst e1;subst e2;subst e3;obtain⟨fs,cs,rfl,h1,h2⟩:=hr;exact⟨fs,cs,rfl,pz h1,pz h2⟩
 ·rename_i g' bs' cs';injection h with h;injection h with e1 h;injection h with e2 e3;subst e1;subst e2;subst e3;obtain⟨h1,h2,h3⟩:=hr;exact⟨bs'.map (pAt ρ),cs'.map (pAt ρ),h3,uO h1,uO h2⟩
 ·cases h
def kT (P:Program)(t:TypeId):Nat :=
 match P.underlying t with
 |some (.slice _)=>1
 |some (.pointer _)=>2
 |some (.func _ _ _)=>3
 |some (.interface _)=>4
 |_=>0
def Na (P:Program)(t:TypeId)(x y:AV):Option (Prop×Bool) :=
 match y with
 |.s (.l (.v (.slice none 0 0)))=>if kT P t=1 then match x with
   |.s (.l (.sl _ _ n))=>some (0<n,false)
   |.s (.l (.d (.sd _ els)))=>some (els≠[],false)
   |.s (.l (.v (.slice none 0 0)))=>some (True,true)
   |_=>none
  else none
 |.s (.l (.v (.pointer none)))=>if kT P t=2 then match x with
   |.s (.l (.p _ _ _))=>some (True,false)
   |.s (.l (.d (.pd _)))=>some (True,false)
   |.s (.l (.v (.pointer none)))=>some (True,true)
   |_=>none
  else none
 |.s (.l (.v .nilFunc))=>if kT P t=3 then match x with
   |.fn _ _ _=>some (True,false)
   |.s (.l (.d (.fn _ _ _)))=>some (True,false)
   |.s (.l (.v (.func _ _ _)))=>some (True,false)
   |.s (.l (.v .nilFunc))=>some (True,true)
   |_=>none
  else none
 |.s (.l (.v .nilIface))=>if kT P t=4 then match x with
   |.s (.l (.d (.ifc _ _)))=>some (True,false)
   |.s (.l (.v (.iface _ _)))=>some (True,false)
   |_=>none
  else none
 |_=>none
def y3 (op:BinOp)(b:Bool):Option Bool :=
 match op with
 |.eql=>some b
 |.neq=>some (!b)
 |_=>none
theorem C1 {P:Program}{B:cX}{w0:World}{ρ:Nat→Loc}{al:Al}{h:ag}{w:World}(H:WRep B w0 ρ al h w){t:TypeId}{x y:AV}{u v:Value}(hx:ARep ρ al x u)(hy:ARep ρ al y v){ob:Prop}{b:Bool}(hs:Na P t x y=some (ob,b))(hob:ob){op:BinOp}{r:Bool}(hr:y3 op b=some r)(xo yo:Operand) :
    (do eqGuard op t xo yo u v;binOp op t u v:Sem Value).run P w=.ok (.bool r) w:=by
  have fin:∀b',b'=b→binOp .eql t u v=(do pure (.bool (←Op.equal t u v)))→binOp .neq t u v=(do pure (.bool (!(←Op.equal t u v))))→(∀op',(eqGuard op' t xo yo u v).run P w=.ok () w)→(∀d,(Op.equalIn (d+1) t u v).run P w=.ok b' w)→(do eqGuard op t xo yo u v;binOp op t u v:Sem Value).run P w=.ok (.bool r) w:=by
    intro b' hb h1 h2 h3 h4;subst hb
    have h5:(Op.equal t u v).run P w=.ok b' w:=by
      unfold Op.equal;rw[show Op.maxDepth=9999+1 from rfl];exact h4 9999
    rw[Sem.run_bind,h3,Result.andThen_ok];unfold y3 at hr;split at hr
    · injection hr with hr
      subst hr;rw[h1,Sem.run_bind,h5];rfl
    · injection hr with hr
      subst hr;rw[h2,Sem.run_bind,h5];rfl
    · cases hr
  unfold Na at hs;split at hs
  · have hv:v=.slice none 0 0:=hy
    subst hv;split at hs
    case isFalse=>cases hs
    rename_i hkt;obtain⟨e,hu⟩:∃e,P.underlying t=some (.slice e):=by unfold kT at hkt;split at hkt<;>first | exact⟨_,‹_›⟩ | cases hkt
    split at hs
    · rename_i b0 i n
      injection hs with hs;injection hs with h1 h2;subst h1;subst h2;obtain⟨_,A,rfl,hc,hA⟩:=hx;have hA':=hA (by omega);subst hA';exact fin false rfl rfl rfl (fun op'=>by cases op'<;>rfl) (fun d=>by simp only[Op.equalIn,Sem.run_bind,run_underlying hu,Result.andThen_ok];rfl)
    · rename_i sz els
      injection hs with hs;injection hs with h1 h2;subst h1;subst h2;simp only[ARep,SRep,LRep,DRep]at hx;obtain⟨A,cap,rfl,_,hA⟩:=hx;obtain⟨blk,off,rfl,_⟩:=hA hob;exact fin false rfl rfl rfl (fun op'=>by cases op'<;>rfl) (fun d=>by simp only[Op.equalIn,Sem.run_bind,run_underlying hu,Result.andThen_ok];rfl)
    · injection hs with hs
      injection hs with h1 h2;subst h2;have:u=.slice none 0 0:=hx;subst this;exact fin true rfl rfl rfl (fun op'=>by cases op'<;>rfl) (fun d=>by simp only[Op.equalIn,Sem.run_bind,run_underlying hu,Result.andThen_ok];rfl)
    · cases hs
  · have hv:v=.pointer none:=hy
    subst hv;split at hs
    case isFalse=>cases hs
    rename_i hkt;obtain⟨e,hu⟩:∃e,P.underlying t=some (.pointer e):=by unfold kT at hkt;split at hkt<;>first | exact⟨_,‹_›⟩ | cases hkt
    split at hs
    · injection hs with hs
      injection hs with h1 h2;subst h2;obtain⟨_,rfl⟩:=hx;exact fin false rfl rfl rfl (fun op'=>by cases op'<;>rfl) (fun d=>by simp only[Op.equalIn,Sem.run_bind,run_underlying hu,Result.andThen_ok];rfl)
    · injection hs with hs
      injection hs with h1 h2;subst h2;simp only[ARep,SRep,LRep,DRep]at hx;obtain⟨_,_,rfl,_⟩:=hx;exact fin false rfl rfl rfl (fun op'=>by cases op'<;>rfl) (fun d=>by simp only[Op.equalIn,Sem.run_bind,run_underlying hu,Result.andThen_ok];rfl)
    · injection hs with hs
      injection hs with h1 h2;subst h2;have:u=.pointer none:=hx;subst this;exact fin true rfl rfl rfl (fun op'=>by cases op'<;>rfl) (fun d=>by simp only[Op.equalIn,Sem.run_bind,run_underlying hu,Result.andThen_ok];rfl)
    · cases hs
  · have hv:v=.nilFunc:=hy
    subst hv;split at hs
    case isFalse=>cases hs
    rename_i hkt;obtain⟨e1,e2,e3,hu⟩:∃e1 e2 e3,P.underlying t=some (.func e1 e2 e3):=by unfold kT at hkt;split at hkt<;>first | exact⟨_,_,_,‹_›⟩ | cases hkt
    split at hs
    · injection hs with hs
      injection hs with h1 h2;subst h2;obtain⟨_,_,rfl,_⟩:=hx;exact fin false rfl rfl rfl (fun op'=>by cases op'<;>rfl) (fun d=>by simp only[Op.equalIn,Sem.run_bind,run_underlying hu,Result.andThen_ok];rfl)
    · injection hs with hs
      injection hs with h1 h2;subst h2;simp only[ARep,SRep,LRep,DRep]at hx;obtain⟨_,_,rfl,_⟩:=hx;exact fin false rfl rfl rfl (fun op'=>by cases op'<;>rfl) (fun d=>by simp only[Op.equalIn,Sem.run_bind,run_underlying hu,Result.andThen_ok];rfl)
    · injection hs with hs
      injection hs with h1 h2;subst h2;have:u=_:=hx;subst this;exact fin false rfl rfl rfl (fun op'=>by cases op'<;>rfl) (fun d=>by simp only[Op.equalIn,Sem.run_bind,run_underlying hu,Result.andThen_ok];rfl)
    · injection hs with hs
      injection hs with h1 h2;subst h2;have:u=_:=hx;subst this;exact fin true rfl rfl rfl (fun op'=>by cases op'<;>rfl) (fun d=>by simp only[Op.equalIn,Sem.run_bind,run_underlying hu,Result.andThen_ok];rfl)
    · cases hs
  · have hv:v=.nilIface:=hy
    subst hv;split at hs
    case isFalse=>cases hs
    rename_i hkt;obtain⟨e1,hu⟩:∃e1,P.underlying t=some (.interface e1):=by unfold kT at hkt;split at hkt<;>first | exact⟨_,‹_›⟩ | cases hkt
    split at hs
    · injection hs with hs
      injection hs with h1 h2;subst h2;simp only[ARep,SRep,LRep,DRep]at hx;obtain⟨_,rfl,_⟩:=hx;exact fin false rfl rfl rfl (fun op'=>by cases op'<;>rfl) (fun d=>by simp only[Op.equalIn,Sem.run_bind,run_underlying hu,Result.andThen_ok];rfl)
    · injection hs with hs
      injection hs with h1 h2;subst h2;have:u=_:=hx;subst this;exact fin false rfl rfl rfl (fun op'=>by cases op'<;>rfl) (fun d=>by simp only[Op.equalIn,Sem.run_bind,run_underlying hu,Result.andThen_ok];rfl)
    · cases hs
  · cases hs
def BI:AV→Option LV
 |.s (.l x)=>if x.one then some x else none
 |.fn g f c=>match lJ f,lJ c with
  |some fd,some cd=>some (.d (.fn g fd cd))
  |_,_=>none
 |_=>none
theorem yh {ρ:Nat→Loc}{al:Al}{x:AV}{l:LV}{y:Value}(h:BI x=some l)(hr:ARep ρ al x y):y.oneCell'=true∧LRep ρ al l y:=by
 unfold BI at h;split at h
 ·split at h
  case isFalse=>cases h
  rename_i h1;injection h with h;subst h;exact⟨LRep.one hr h1,hr⟩
 ·split at h
  case h_2=>cases h
  rename_i fd cd h1 h2;injection h with h;subst h;obtain⟨fs,cs,rfl,g1,g2⟩:=hr;refine⟨rfl,?_⟩;simp only[LRep,DRep];exact⟨fs,cs,rfl,fy h1 g1,fy h2 g2⟩
 ·cases h
def sk:List AV→Option (List LV)
 |[]=>some []
 |x::r=>match BI x,sk r with
  |some y,some l=>some (y::l)
  |_,_=>none
theorem qj {ρ:Nat→Loc}{al:Al}{ev:Operand→AV}{evr:Operand→Value}(hT:∀x,ARep ρ al (ev x) (evr x)):∀{l:List Operand} {ls:List LV},sk (l.map ev)=some ls→LsRep ρ al ls (l.map evr)
 |[],ls,h=>by injection h with h;subst h;trivial
 |x::l,ls,h=>by
  simp only[map_cons,sk]at h;split at h
  case h_2=>cases h
  rename_i y r h1 h2;injection h with h;subst h;obtain⟨g1,g2⟩:=yh h1 (hT x);exact⟨g1,g2,qj hT h2⟩
def lU (P:Program)(t:TypeId):Bool :=
 match P.underlying t with
 |some (.interface _)=>false
 |some _=>true
 |none=>false
def Kd (P:Program)(t:TypeId)(f:Nat):Option (Nat×Nat×Bool) :=
 match P.underlying t with
 |some (.struct fs)=>match fs[f]? with
  |some x=>match cD P x.type,bA P x.type with
   |some s,some r=>some (x.offset,s,r)
   |_,_=>none
  |none=>none
 |_=>none
def M4 (P:Program)(t:TypeId)(x:AV)(f:Nat):Option AV :=
 match x,Kd P t f with
 |.s (.agg xs),some (o,s,true)=>if o+s≤xs.length then some (.s (.agg ((xs.drop o).take s))) else none
 |.s (.agg xs),some (o,_,false)=>match xs[o]? with
  |some y=>some (.s (.l y))
  |none=>none
 |_,_=>none
section
variable {P:Program}{ρ:Nat→Loc}{al:Al}
theorem CY {t:TypeId}{x r:AV}{u:Value}(hx:ARep ρ al x u){f:Nat}(hs:M4 P t x f=some r)(w:World):∃v,(Instr.field t u f).run P w=.ok v w∧ARep ρ al r v:=by
 unfold M4 at hs
 have key:∀{o s:Nat} {row:Bool},Kd P t f=some (o,s,row)→∃fs fl,P.underlying t=some (.struct fs)∧fs[f]? = some fl∧fl.offset=o∧cD P fl.type=some s∧bA P fl.type=some row:=by
  intro o s row h;unfold Kd at h;split at h
  case h_2=>cases h
  rename_i fs hu;split at h
  case h_2=>cases h
  rename_i fl hf;split at h
  case h_2=>cases h
  rename_i s' r' h1 h2;injection h with h;injection h with e1 e2;injection e2 with e2 e3;exact⟨fs,fl,hu,hf,e1,by rw[h1,e2],by rw[h2,e3]⟩
 split at hs
 ·rename_i xs o s hf;split at hs
  case isFalse=>cases hs
  rename_i hl;injection hs with hs;subst hs;obtain⟨cs,rfl,hrep⟩:=hx;obtain⟨fs,fl,h1,h2,h3,h4,h5⟩:=key hf;refine⟨.agg (cs.toArray.extract o (o+s)),?_,(cs.drop o).take s,by simp,(hrep.drop o).take s⟩;simp[Instr.field,run_underlying h1,h2,asAgg,part,qu h5,eM h4,h3]
 ·rename_i xs o s hf;split at hs
  case h_2=>cases hs
  rename_i y hy;injection hs with hs;subst hs;obtain⟨cs,rfl,hrep⟩:=hx;obtain⟨fs,fl,h1,h2,h3,h4,h5⟩:=key hf;obtain⟨v,g1,g2,g3⟩:=hrep.get o y hy;refine⟨v,?_,g3⟩;simp[Instr.field,run_underlying h1,h2,asAgg,part,jK h5,h3,g1]
 ·cases hs
end
def Ju (b:Builtin)(x y:Value):Option Value :=
 match b,x,y with
 |.min,.int k a,.int k' c=>if k=k' then some (.int k (if c<a then c else a)) else none
 |.max,.int k a,.int k' c=>if k=k' then some (.int k (if c > a then c else a)) else none
 |_,_,_=>none
def CD:Value→Option SV
 |.agg cs=>if cs.toList.all (·.oneCell') then some (.agg (cs.toList.map .v)) else none
 |.tuple _=>none
 |v=>some (.l (.v v))
theorem r7 {ρ:Nat→Loc}{al:Al}{v:Value}{s:SV}(h:CD v=some s):SRep ρ al s v:=by
 unfold CD at h;split at h
 ·rename_i cs;split at h
  ·rename_i hc;injection h with h;subst h;rw[List.all_eq_true]at hc;exact⟨cs.toList,by simp,qJ hc⟩
  ·cases h
 ·cases h
 ·injection h with h;subst h;rfl
def F3 (P:Program)(t:TypeId):Option SV :=
 match P.info? t with
 |some i=>match i.zero with
  |some z=>CD z
  |none=>none
 |none=>none
def pw (P:Program)(t:TypeId)(ok:Bool)(x:AV):Option AV :=
 match x with
 |.s (.l (.v (.iface u v)))=>if lU P t=true then
   if u=t then match CD v with
    |some s=>some (if ok then .tup [s,.l (.v (.bool true))] else .s s)
    |none=>none
   else if ok then match F3 P t with
    |some s=>some (.tup [s,.l (.v (.bool false))])
    |none=>none
   else none
  else none
 |.s (.l (.v .nilIface))=>if lU P t=true then
   if ok then match F3 P t with
    |some s=>some (.tup [s,.l (.v (.bool false))])
    |none=>none
   else none
  else none
 |_=>none
theorem yL {P:Program}{t:TypeId}{s:SV}(h:F3 P t=some s):∃z,(∀w,(zeroValue t).run P w=.ok z w)∧CD z=some s:=by
 unfold F3 at h;split at h
 case h_2=>cases h
 rename_i i hi;split at h
 case h_2=>cases h
 rename_i z hz;exact⟨z,fun w=>by simp[zeroValue,typeInfo,hi,hz],h⟩
theorem xc {P:Program}{ρ:Nat→Loc}{al:Al}{t xT:TypeId}{ok:Bool}{x r:AV}{u:Value}(hx:ARep ρ al x u)(hs:pw P t ok x=some r)(w:World) :
  ∃v,(Instr.typeAssert u xT t ok).run P w=.ok v w∧ARep ρ al r v:=by
 have conc:lU P t=true→∃d,P.underlying t=some d∧∀ms,d≠.interface ms:=by
  intro hcc;unfold lU at hcc;cases hd:P.underlying t with
  |none=>rw[hd]at hcc;cases hcc
  |some d=>exact⟨d,rfl,fun ms e=>by rw[hd,e]at hcc;cases hcc⟩
 unfold pw at hs;split at hs
 ·rename_i U v;have hu:u=.iface U v:=hx;subst hu;split at hs
  case isFalse=>cases hs
  rename_i hcc;obtain⟨d,hd,hne⟩:=conc hcc;split at hs
  ·rename_i e;subst e;split at hs
   case h_2=>cases hs
   rename_i s hv;injection hs with hs;subst hs;cases ok with
   |true =>
    refine⟨.tuple #[v,.bool true],?_,[v,.bool true],rfl,r7 hv,rfl,trivial⟩;simp only[Instr.typeAssert,Sem.run_bind,run_underlying hd,Result.andThen_ok];cases d<;>first | (simp;done) | exact absurd rfl (hne _)
   |false =>
    refine⟨v,?_,r7 hv⟩;simp only[Instr.typeAssert,Sem.run_bind,run_underlying hd,Result.andThen_ok];cases d<;>first | (simp;done) | exact absurd rfl (hne _)
  ·rename_i hne2;split at hs
   case isFalse=>cases hs
   rename_i hok;subst hok;split at hs
   case h_2=>cases hs
   rename_i s hz;injection hs with hs;subst hs;obtain⟨z,g1,g2⟩:=yL hz;refine⟨.tuple #[z,.bool false],?_,[z,.bool false],rfl,r7 g2,rfl,trivial⟩;simp only[Instr.typeAssert,Sem.run_bind,run_underlying hd,Result.andThen_ok];cases d<;>first | (simp[hne2,g1];done) | exact absurd rfl (hne _)
 ·have hu:u=.nilIface:=hx;subst hu;split at hs
  case isFalse=>cases hs
  rename_i hcc;obtain⟨d,hd,hne⟩:=conc hcc;split at hs
  case isFalse=>cases hs
  rename_i hok;subst hok;split at hs
  case h_2=>cases hs
  rename_i s hz;injection hs with hs;subst hs;obtain⟨z,g1,g2⟩:=yL hz;refine⟨.tuple #[z,.bool false],?_,[z,.bool false],rfl,r7 g2,rfl,trivial⟩;simp only[Instr.typeAssert,Sem.run_bind,run_underlying hd,Result.andThen_ok];cases d<;>first | (simp[g1];done) | exact absurd rfl (hne _)
 ·cases hs
noncomputable def aOp (P:Program) (ctx:Ctx P) (id:Nat) (o:Op) (ev:Operand→AV) (h:ag):Option Res :=
 match o with
 |.move x=>some ⟨True,ev x,[]⟩
 |.assign x=>some ⟨True,ev x,[]⟩
 |.pick c a b=>match ev c with
  |.s (.l (.v (.bool true)))=>some ⟨True,ev a,[]⟩
  |.s (.l (.v (.bool false)))=>some ⟨True,ev b,[]⟩
  |_=>none
 |.load t x=>qR P t (ev x) h
 |.store t x y=>qe P t (ev x) (ev y) h
 |.alloc t=>match bJ P t with
  |some zs=>some (PY t id (zs.map .v))
  |none=>none
 |.box t x=>match cellsOf (ev x) with
  |some xs=>some (PY t id xs)
  |none=>none
 |.build t ps=>uH P t (ps.toList.map fun(i,x)=>(i,ev x))
 |.buildSlice t n ps=>lr P t n (ps.toList.map fun(i,x)=>(i,ev x)) id
 |.makeSlice t x y=>Ff P t (ev x) (ev y) id
 |.fieldAddr t x f=>sj P t (ev x) f
 |.indexAddr t x ix=>if qo P t (ev x) h=true then qQ P t (ev x) (ev ix) else none
 |.index t x ix=>match yX P t (ev x) (ev ix) with
  |some (ob,r)=>some ⟨ob,r,[]⟩
  |none=>none
 |.slice t x lo hi mx=>qd P t (ev x) (lo.map ev) (hi.map ev) (mx.map ev) h
 |.binOp op t x y _=>match j5 (ev x),j5 (ev y) with
  |some a,some b=>match MU P op t x y a b with
   |some (ob,v)=>some ⟨ob,.s (.l (.v v)),[]⟩
   |none=>none
  |_,_=>match Na P t (ev x) (ev y) with
   |some (ob,b)=>match y3 op b with
    |some r=>some ⟨ob,.s (.l (.v (.bool r))),[]⟩
    |none=>none
   |none=>none
 |.makeFunc (.func g) f c=>match sk (f.toList.map ev),sk (c.toList.map ev) with
  |some fs,some cs=>some ⟨True,.fn g fs cs,[]⟩
  |_,_=>none
 |.makeInterface t x=>if lU P t=true then match j5 (ev x) with
   |some v=>some ⟨True,.s (.l (.v (.iface t v))),[]⟩
   |none=>match BI (ev x) with
    |some (.d d)=>some ⟨True,.s (.l (.d (.ifc t d))),[]⟩
    |_=>none
   else none
 |.unOp op _ x=>match j5 (ev x) with
  |some a=>match aUn op a with
   |some v=>some ⟨True,.s (.l (.v v)),[]⟩
   |none=>none
  |none=>none
 |.convert s d x=>match j5 (ev x) with
  |some a=>match Fe P s d a with
   |some v=>some ⟨True,.s (.l (.v v)),[]⟩
   |none=>mU P s d (ev x) h id
  |none=>mU P s d (ev x) h id
 |.nilCheck x=>match ev x with
  |.s (.l (.p b i j))=>some ⟨True,.s (.l (.p b i j)),[]⟩
  |_=>none
 |.extract x n=>match ev x with
  |.tup xs=>match xs[n]? with
   |some a=>some ⟨True,.s a,[]⟩
   |none=>none
  |_=>none
 |.field t x f=>match M4 P t (ev x) f with
  |some r=>some ⟨True,r,[]⟩
  |none=>none
 |.typeAssert x _ t ok=>match pw P t ok (ev x) with
  |some r=>some ⟨True,r,[]⟩
  |none=>none
 |.call c=>match c.callee with
  |.builtin b=>match c.args.toList,c.argTypes.toList with
   |[x],[t]=>match b with
    |.len=>match M9 P t (ev x) with
     |some v=>some ⟨True,.s (.l (.v v)),[]⟩
     |none=>none
    |_=>none
   |[x,y],[t1,t2]=>match b with
    |.append=>mT P t1 t2 (ev x) (ev y) h id
    |.min=>match j5 (ev x),j5 (ev y) with
     |some a,some b=>match Ju .min a b with
      |some v=>some ⟨True,.s (.l (.v v)),[]⟩
      |none=>none
     |_,_=>none
    |.max=>match j5 (ev x),j5 (ev y) with
     |some a,some b=>match Ju .max a b with
      |some v=>some ⟨True,.s (.l (.v v)),[]⟩
      |none=>none
     |_,_=>none
    |_=>none
   |_,_=>none
  |.value f=>match oh (ev f) with
   |some (g,first,cap)=>match JN ctx g with
    |some run=>run id h (first++c.args.toList.map ev++cap)
    |none=>none
   |none=>none
  |_=>none
 |_=>none
def qS (P:Program)(ctx:Ctx P)(id:Nat)(o:Op)(ev:Operand→AV)(h:ag):Option (Prop×Value×ag) :=
 match o with
 |.panic x=>match ev x with
  |.s (.l (.v (.iface t v)))=>some (True,.iface t v,[])
  |_=>none
 |.call c=>match c.callee with
  |.value f=>match oh (ev f) with
   |some (g,first,cap)=>match JM ctx g with
    |some pan=>pan id h (first++c.args.toList.map ev++cap)
    |none=>none
   |none=>none
  |_=>none
 |_=>none
section
variable {P:Program}{ctx:Ctx P}{B:cX}{w0:World}{ρ:Nat→Loc}{al:Al}{h:ag}{w:World}
theorem AsRep.map {ev:Operand→AV}{evr:Operand→Value}(hT:∀x,ARep ρ al (ev x) (evr x)):∀l:List Operand,AsRep ρ al (l.map ev) (l.map evr)
 |[]=>trivial
 |x::l=>⟨hT x,AsRep.map hT l⟩
def Runs (P:Program)(B:cX)(w0:World)(ρ:Nat→Loc)(al:Al)(id:Nat)(h:ag)(w:World)(R:Res)(r:Result Next):Prop :=
 ∃n v w' ρ',r=.ok n w'∧(n=.value v∨(n=.skip∧v=undef))∧Ext ρ ρ' al (alW al id)∧ARep ρ' (alW al id) R.r v∧WRep B w0 ρ' (alW al id) (R.E++h) w'
theorem lT {ρ:Nat→Loc}{al:Al}(id:Nat):Ext ρ ρ al (alW al id):=⟨fun _ _=>rfl,Mem.le_refl _,fun _ hb=>.inl hb⟩
theorem uw {id:Nat}:∀b,al b→alW al id b:=fun _ hb=>.inl hb
theorem Runs.pure (H:WRep B w0 ρ al h w){id:Nat}{R:Res}{v:Value}(hr:ARep ρ al R.r v)(hE:R.E=[]):Runs P B w0 ρ al id h w R (.ok (.value v) w) :=
 ⟨_,v,w,ρ,rfl,.inl rfl,lT _,hr.lift uw,by rw[hE];exact H.lift uw⟩
theorem Az {a:Act}{o:Oper}{f:Operand}{args:Array Operand}{ts:Array TypeId}{g:FuncId}{fs cs:List Value}(ho:o.op=.call ⟨.value f,args,ts⟩)(hf:a.eval f=.func (.func g) fs.toArray cs.toArray)
  (hen:∀(args:Array Value) (w:World),(callFunc g args).run P w=.ok (.enter g args) w):(execOp a.eval o).run P w=.ok (.enter g (fs++args.toList.map a.eval++cs).toArray) w:=by
 simp only[execOp,ho,resolve,Deferred.ofValue,hf,invoke,Sem.run_bind,Sem.run_pure,Result.andThen_ok,hen];congr 2;rw[←Array.toList_inj];simp
theorem aPan_runs {ev:Operand→AV}{a:Act}(hT:∀x,ARep ρ al (ev x) (a.eval x)){id:Nat}{o:Oper}{ob:Prop}{x:Value}{E:ag}(hs:qS P ctx id o.op ev h=some (ob,x,E)) :
  ((execOp a.eval o).run P w=.halt (.panic x) w∧E=[])∨∃g args vals,(execOp a.eval o).run P w=.ok (.enter g vals) w∧∃s:am P g,s.pan id h args=some (ob,x,E)∧∃vs:List Value,vals=vs.toArray∧AsRep ρ al args vs:=by
 unfold qS at hs;split at hs
 ·rename_i y ho;split at hs
  case h_2=>cases hs
  rename_i t v e;injection hs with hs;injection hs with h1 hs;injection hs with h2 h3;subst h2;subst h3;have hy:=hT y;rw[e]at hy;have hv:a.eval y=.iface t v:=hy;refine .inl ⟨?_,rfl⟩;simp[execOp,ho,hv,Instr.panic]
 ·rename_i c ho;obtain⟨callee,args,argTypes⟩:=c;simp only at hs;split at hs
  case h_2=>cases hs
  rename_i f;split at hs
  case h_2=>cases hs
  rename_i g first cap e;obtain⟨fs,cs,hfv,h1,h2⟩:=qW e (hT f);split at hs
  case h_2=>cases hs
  rename_i pan hpan;obtain⟨s,rfl⟩:=xK hpan;exact .inr ⟨g,first++args.toList.map ev++cap,(fs++args.toList.map a.eval++cs).toArray,Az (o:=o) (by rw[ho]) hfv s.enter,s,hs,_,rfl,iy (iy h1 (AsRep.map hT _)) h2⟩
 ·cases hs
theorem aOp_runs (H:WRep B w0 ρ al h w){ev:Operand→AV}{a:Act}(hT:∀x,ARep ρ al (ev x) (a.eval x)){id:Nat}(hid:∀b,id≤b→b<id+16→¬al b){o:Oper}{R:Res}(hs:aOp P ctx id o.op ev h=some R)(hob:R.ob) :
  Runs P B w0 ρ al id h w R ((execOp a.eval o).run P w)∨∃g args vals,(execOp a.eval o).run P w=.ok (.enter g vals) w∧∃s:am P g,s.run id h args=some R∧∃vs:List Value,vals=vs.toArray∧AsRep ρ al args vs:=by
 have h0:¬al id:=hid id (Nat.le_refl _) (by omega);have up:∀b,al1 al id b→alW al id b:=uv (Nat.le_refl _) (by omega);unfold aOp at hs;split at hs
 ·rename_i x ho;injection hs with hs;subst hs;refine .inl ?_;simp only[execOp,ho,Sem.run_pure];exact .pure H (hT x) rfl
 ·rename_i x ho;injection hs with hs;subst hs;refine .inl ?_;simp only[execOp,ho,Sem.run_pure];exact .pure H (hT x) rfl
 ·rename_i c x y ho;have hc:=hT c;refine .inl ?_;split at hs
  ·rename_i e;rw[e]at hc;have:a.eval c=.bool true:=hc;injection hs with hs;subst hs;simp only[execOp,ho,this,asBool,Sem.run_bind,Sem.run_pure,Result.andThen_ok,if_true];exact .pure H (hT x) rfl
  ·rename_i e;rw[e]at hc;have:a.eval c=.bool false:=hc;injection hs with hs;subst hs;simp only[execOp,ho,this,asBool,Sem.run_bind,Sem.run_pure,Result.andThen_ok,if_false,Bool.false_eq_true];exact .pure H (hT y) rfl
  ·cases hs
 ·rename_i t x ho;obtain⟨v,h1,h2,h3⟩:=tu (P:=P) H (hT x) hs;refine .inl ?_;simp only[execOp,ho,Sem.run_bind,h1,Result.andThen_ok,Sem.run_pure];exact .pure H h2 h3
 ·rename_i t x y ho;obtain⟨w',h1,h2,h3⟩:=y6 (P:=P) H (hT x) (hT y) hs;refine .inl ⟨.skip,undef,w',ρ,?_,.inr ⟨rfl,rfl⟩,lT _,by rw[h2];trivial,h3.lift uw⟩;simp only[execOp,ho,Sem.run_bind,h1,Result.andThen_ok,Sem.run_pure]
 ·rename_i t ho;split at hs
  case h_2=>cases hs
  rename_i zs hz;injection hs with hs;subst hs;obtain⟨i,z,hi,hzz,hzl,hsz,hone⟩:=io hz;obtain⟨ad,w',ρ',g1,g2,g3,g4⟩:=rJ (P:=P) H h0 t (v:=z) (xs:=zs.map .v) (by rw[hzl];exact qJ hone);refine .inl ⟨.value _,_,w',ρ',?_,.inl rfl,g2.lift up,g3.lift up,g4.lift up⟩;simp[execOp,ho,Instr.alloc,zeroValue,typeInfo,hi,hzz,g1]
 ·rename_i t x ho;split at hs
  case h_2=>cases hs
  rename_i xs hx;injection hs with hs;subst hs;obtain⟨ad,w',ρ',g1,g2,g3,g4⟩:=rJ (P:=P) H h0 t (oo (hT x) hx);refine .inl ⟨.value _,_,w',ρ',?_,.inl rfl,g2.lift up,g3.lift up,g4.lift up⟩;simp[execOp,ho,Instr.box,g1]
 ·rename_i t ps ho;obtain⟨v,h1,h2,h3⟩:=yV (P:=P) hT hs w;refine .inl ?_;simp only[execOp,ho,Sem.run_bind,h1,Result.andThen_ok,Sem.run_pure];exact .pure H h2 h3
 ·rename_i t n ps ho;obtain⟨v,w',ρ',g1,g2,g3,g4⟩:=qM (P:=P) H hT h0 hs;refine .inl ⟨.value v,v,w',ρ',?_,.inl rfl,g2.lift up,g3.lift up,g4.lift up⟩;simp only[execOp,ho,Sem.run_bind,g1,Result.andThen_ok,Sem.run_pure]
 ·rename_i t x y ho;obtain⟨v,w',ρ',g1,g2,g3,g4⟩:=Ak (P:=P) H (hT x) (hT y) h0 hs hob;refine .inl ⟨.value v,v,w',ρ',?_,.inl rfl,g2.lift up,g3.lift up,g4.lift up⟩;simp only[execOp,ho,Sem.run_bind,g1,Result.andThen_ok,Sem.run_pure]
 ·rename_i t x f ho;obtain⟨v,h1,h2,h3⟩:=qN (P:=P) (hT x) hs w;refine .inl ?_;simp only[execOp,ho,Sem.run_bind,h1,Result.andThen_ok,Sem.run_pure];exact .pure H h2 h3
 ·rename_i t x ix ho;split at hs
  case isFalse=>cases hs
  rename_i hf;obtain⟨v,h1,h2,h3⟩:=uJ (P:=P) H (hT x) (hT ix) hs hf hob;refine .inl ?_;simp only[execOp,ho,Sem.run_bind,h1,Result.andThen_ok,Sem.run_pure];exact .pure H h2 h3
 ·rename_i t x ix ho;split at hs
  case h_2=>cases hs
  rename_i ob r hix;injection hs with hs;subst hs;obtain⟨v,h1,h2⟩:=yZ (P:=P) (hT x) (hT ix) hix hob w;refine .inl ?_;simp only[execOp,ho,Sem.run_bind,h1,Result.andThen_ok,Sem.run_pure];exact .pure H h2 rfl
 ·rename_i t x lo hi mx ho
  have hopt:∀y:Option Operand,match y.map ev,y.map a.eval with | none,none=>True | some p,some q=>ARep ρ al p q | _,_=>False:=by
   intro y;cases y with
   |none=>trivial
   |some y=>exact hT y
  obtain⟨v,h1,h2,h3⟩:=y5 (P:=P) H (hT x) (hopt lo) (hopt hi) (hopt mx) hs hob;refine .inl ?_;simp only[execOp,ho,Sem.run_bind,h1,Result.andThen_ok,Sem.run_pure];exact .pure H h2 h3
 ·rename_i op t x y yt ho;split at hs
  ·rename_i p q hp hq;split at hs
   case h_2=>cases hs
   rename_i ob v hb;injection hs with hs;subst hs;have e1:=eW hp (hT x);have e2:=eW hq (hT y);obtain⟨g1,g2,g3⟩:=CV hb hob w;refine .inl ?_
   have:(execOp a.eval o).run P w=.ok (.value v) w:=by
    simp only[execOp,ho,e1,e2];rw[Sem.run_bind,g1];rfl
   rw[this];exact .pure H (show ARep ρ al (.s (.l (.v v))) v from rfl) rfl
  ·split at hs
   case h_2=>cases hs
   rename_i ob b hb;split at hs
   case h_2=>cases hs
   rename_i r hr;injection hs with hs;subst hs;have g1:=C1 H (hT x) (hT y) hb hob hr x y;refine .inl ?_
   have:(execOp a.eval o).run P w=.ok (.value (.bool r)) w:=by
    simp only[execOp,ho];rw[Sem.run_bind,g1];rfl
   rw[this];exact .pure H (show ARep ρ al (.s (.l (.v (.bool r)))) (.bool r) from rfl) rfl
 ·rename_i g f c ho;split at hs
  case h_2=>cases hs
  rename_i fs cs hf hc;injection hs with hs;subst hs;refine .inl ?_
  have:(execOp a.eval o).run P w=.ok (.value (.func (.func g) (f.map a.eval) (c.map a.eval))) w:=by
   simp only[execOp,ho,Instr.makeFunc,Sem.run_bind,Sem.run_pure,Result.andThen_ok]
  rw[this];refine .pure H ⟨f.toList.map a.eval,c.toList.map a.eval,?_,qj hT hf,qj hT hc⟩ rfl;congr 1<;>(rw[←Array.toList_inj];simp)
 ·rename_i t x ho;split at hs
  case isFalse=>cases hs
  rename_i hcc
  have hu:∃d,P.underlying t=some d∧∀ms,d≠.interface ms:=by
   unfold lU at hcc;cases hd:P.underlying t with
   |none=>rw[hd]at hcc;cases hcc
   |some d=>exact⟨d,rfl,fun ms e=>by rw[hd,e]at hcc;cases hcc⟩
  obtain⟨d,hd,hne⟩:=hu
  have hrun:(execOp a.eval o).run P w=.ok (.value (.iface t (a.eval x))) w:=by
   simp only[execOp,ho,Instr.makeInterface,Sem.run_bind,run_underlying hd,Result.andThen_ok];cases d<;>first | rfl | exact absurd rfl (hne _)
  refine .inl ?_;rw[hrun];split at hs
  ·rename_i v hv;injection hs with hs;subst hs;rw[eW hv (hT x)];exact .pure H (show ARep ρ al (.s (.l (.v (.iface t v)))) _ from rfl) rfl
  ·split at hs
   ·rename_i dd hdd;injection hs with hs;subst hs;refine .pure H ?_ rfl;obtain⟨_,g2⟩:=yh hdd (hT x);simp only[ARep,SRep,LRep,DRep]at g2 ⊢;exact⟨_,rfl,g2⟩
   ·cases hs
 ·rename_i op t x ho;split at hs
  case h_2=>cases hs
  rename_i p hp;split at hs
  case h_2=>cases hs
  rename_i v hb;injection hs with hs;subst hs;have e1:=eW hp (hT x);obtain⟨g1,g2,g3⟩:=Gd (P:=P) hb w;refine .inl ?_;simp only[execOp,ho,e1,Sem.run_bind,g1,Result.andThen_ok,Sem.run_pure];exact .pure H (show ARep ρ al (.s (.l (.v v))) v from rfl) rfl
 ·rename_i s d x ho
  have conv:mU P s d (ev x) h id=some R→Runs P B w0 ρ al id h w R ((execOp a.eval o).run P w):=by
   intro hs;obtain⟨v,w',ρ',g1,g2,g3,g4⟩:=yW (P:=P) H (hT x) h0 hs hob;refine⟨.value v,v,w',ρ',?_,.inl rfl,g2.lift up,g3.lift up,g4.lift up⟩;simp only[execOp,ho,Sem.run_bind,g1,Result.andThen_ok,Sem.run_pure]
  split at hs
  case h_2=>exact .inl (conv hs)
  rename_i p hp;split at hs
  case h_2=>exact .inl (conv hs)
  rename_i v hb;injection hs with hs;subst hs;have e1:=eW hp (hT x);obtain⟨g1,g2,g3⟩:=Ai (P:=P) hb w;refine .inl ?_;simp only[execOp,ho,e1,Sem.run_bind,g1,Result.andThen_ok,Sem.run_pure];exact .pure H (show ARep ρ al (.s (.l (.v v))) v from rfl) rfl
 ·rename_i x ho;have hx:=hT x;split at hs
  case h_2=>cases hs
  rename_i b i j e;injection hs with hs;subst hs;rw[e]at hx;have hx':=hx;obtain⟨_,hv⟩:=hx';refine .inl ?_;simp only[execOp,ho,hv,Sem.run_pure];exact .pure H (hv▸hx) rfl
 ·rename_i x n ho;have hx:=hT x;split at hs
  case h_2=>cases hs
  rename_i xs e;split at hs
  case h_2=>cases hs
  rename_i y hy;injection hs with hs;subst hs;rw[e]at hx;obtain⟨cs,hv,hc⟩:=hx;obtain⟨v,g1,g2⟩:=hc.get n y hy;refine .inl ?_;simp only[execOp,ho,hv,Instr.extract,List.getElem?_toArray,g1,Sem.run_bind,Sem.run_pure,Result.andThen_ok];exact .pure H (show ARep ρ al (.s y) v from g2) rfl
 ·rename_i t x f ho;split at hs
  case h_2=>cases hs
  rename_i r hr;injection hs with hs;subst hs;obtain⟨v,g1,g2⟩:=CY (hT x) hr w;refine .inl ?_;simp only[execOp,ho,Sem.run_bind,g1,Result.andThen_ok,Sem.run_pure];exact .pure H g2 rfl
 ·rename_i x xT t ok ho;split at hs
  case h_2=>cases hs
  rename_i r hr;injection hs with hs;subst hs;obtain⟨v,g1,g2⟩:=xc (xT:=xT) (hT x) hr w;refine .inl ?_;simp only[execOp,ho,Sem.run_bind,g1,Result.andThen_ok,Sem.run_pure];exact .pure H g2 rfl
 ·rename_i c ho;obtain⟨callee,args,argTypes⟩:=c;simp only at hs;split at hs
  ·rename_i b;split at hs
   ·rename_i x t ha ht;obtain rfl:args = #[x]:=by rw[←Array.toList_inj];exact ha
    obtain rfl:argTypes = #[t]:=by rw[←Array.toList_inj];exact ht
    split at hs
    case h_2=>cases hs
    split at hs
    case h_2=>cases hs
    rename_i v hv;injection hs with hs;subst hs;obtain⟨g1,g2⟩:=CZ (P:=P) (ty:=o.type) (hT x) hv w;refine .inl ?_;simp only[execOp,ho,resolve,invoke,builtin,Sem.run_bind,Sem.run_pure,Result.andThen_ok,map_toArray,map_cons,map_nil,g1];exact .pure H g2 rfl
   ·rename_i x y t1 t2 ha ht;obtain rfl:args = #[x,y]:=by rw[←Array.toList_inj];exact ha
    obtain rfl:argTypes = #[t1,t2]:=by rw[←Array.toList_inj];exact ht
    split at hs
    ·obtain⟨z,w',ρ',g1,g2,g3,g4⟩:=xb (P:=P) (ty:=o.type) H (hT x) (hT y) hid hs hob;refine .inl ⟨.value z,z,w',ρ',?_,.inl rfl,g2,g3,g4⟩;simp only[execOp,ho,resolve,invoke,builtin,Sem.run_bind,Sem.run_pure,Result.andThen_ok,map_toArray,map_cons,map_nil,g1]
    ·split at hs
     case h_2=>cases hs
     rename_i p q hp hq;split at hs
     case h_2=>cases hs
     rename_i v hv;injection hs with hs;subst hs;have e1:=eW hp (hT x);have e2:=eW hq (hT y);unfold Ju at hv;split at hv
     ·split at hv
      case isFalse=>cases hv
      rename_i hk;subst hk;injection hv with hv;subst hv;refine .inl ?_;simp only[execOp,ho,resolve,invoke,builtin,Sem.run_bind,Sem.run_pure,Result.andThen_ok,map_toArray,map_cons,map_nil,e1,e2,Builtin.min_,Builtin.min2,List.foldlM_cons,List.foldlM_nil];exact .pure H (show ARep ρ al (.s (.l (.v _))) _ from rfl) rfl
     ·rename_i h1;cases h1
     ·cases hv
    ·split at hs
     case h_2=>cases hs
     rename_i p q hp hq;split at hs
     case h_2=>cases hs
     rename_i v hv;injection hs with hs;subst hs;have e1:=eW hp (hT x);have e2:=eW hq (hT y);unfold Ju at hv;split at hv
     ·rename_i h1;cases h1
     ·split at hv
      case isFalse=>cases hv
      rename_i hk;subst hk;injection hv with hv;subst hv;refine .inl ?_;simp only[execOp,ho,resolve,invoke,builtin,Sem.run_bind,Sem.run_pure,Result.andThen_ok,map_toArray,map_cons,map_nil,e1,e2,Builtin.max_,Builtin.max2,List.foldlM_cons,List.foldlM_nil];exact .pure H (show ARep ρ al (.s (.l (.v _))) _ from rfl) rfl
     ·cases hv
    ·cases hs
   ·cases hs
  ·rename_i f;split at hs
   case h_2=>cases hs
   rename_i g first cap e;obtain⟨fs,cs,hfv,h1,h2⟩:=qW e (hT f);split at hs
   case h_2=>cases hs
   rename_i run hrun;obtain⟨s,rfl⟩:=sn hrun;exact .inr ⟨g,first++args.toList.map ev++cap,(fs++args.toList.map a.eval++cs).toArray,Az (o:=o) (by rw[ho]) hfv s.enter,s,hs,_,rfl,iy (iy h1 (AsRep.map hT _)) h2⟩
  ·cases hs
 ·cases hs
end
end Go.Proofs.YtnhbidpdadkcjaaGreatDoor
