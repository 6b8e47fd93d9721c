import Derived.Test.YthcoegkfpinlfaaGreatDoorO41
set_option linter.unusedVariables false
set_option linter.unusedSimpArgs false
set_option maxRecDepth 100000
set_option maxHeartbeats 8000000
namespace Go.Proofs.YthcoegkfpinlfaaGreatDoor
section
open Go.RowKit
noncomputable section
def chkH (n:Nat) (bs:List Nat) (ks:List Blk) (args:List AV):Bool :=
 Ov bs&&ks.all (·.own)&&Td bs (ks.flatMap Blk.refs)&&Td bs (V7 args)&&Nat.ble args.length n&&Nat.blt 0 n
def Ze (n:Nat) (args:List AV) (bs:List Nat) (ks:Option (List Blk)):Option (List Nat×List AV×List Blk):=match ks with
 | some ks=>cond (chkH n bs ks args) (some (bs,args.map (·.ren (ixR bs)),ks.map (·.ren (ixR bs)))) none
 | none=>none
def YO (n:Nat) (h:aF) (args:List AV) (bs:Option (List Nat)):Option (List Nat×List AV×List Blk):=match bs with
 | some bs=>Ze n args bs (JA h bs)
 | none=>none
def Kn (n:Nat) (h:aF) (args:List AV):Option (List Nat×List AV×List Blk):=YO n h args (Jc h 2000 (V7 args) [])
def RG (k:Option Blk):List Nat:=match k with
 | some k=>k.refs
 | none=>[]
def WH (a b:List Nat):Bool:=List.rec (motive:=fun _=>List Nat→Bool) (fun b=>b.isEmpty) (fun x _ ih b=>List.rec (motive:=fun _=>Bool) false (fun y r _=>cond (Nat.beq x y) (ih r) false) b) a b
def optOwn (k:Option Blk):Bool:=match k with
 | some k=>k.own
 | none=>true
def chkL (K:Nat) (L todo:List Nat) (hs:List (Option Blk)) (nb:List Blk):Bool :=
 Ov L&&Td L todo&&Td L (nb.flatMap Blk.refs)&&Nat.ble nb.length 16&&hs.all optOwn&&nb.all (·.own)&&WH (L.take K) (List.range K)&&Nat.beq L.length (K+nb.length)
def left3 (K:Nat) (r:AV) (L todo:List Nat) (hs:List (Option Blk)) (nb:Option (List Blk)):Option (AV×List (Option Blk)×List Blk):=match nb with
 | some nb=>cond (chkL K L todo hs nb) (some (r.ren (ixR L),hs.map (Option.map (·.ren (ixR L))),nb.map (·.ren (ixR L)))) none
 | none=>none
def left2 (K:Nat) (r:AV) (h:aF) (todo:List Nat) (hs:List (Option Blk)) (L:Option (List Nat)):Option (AV×List (Option Blk)×List Blk):=match L with
 | some L=>left3 K r L todo hs (JA h (L.drop K))
 | none=>none
def left1 (K:Nat) (r:AV) (h:aF) (hs:List (Option Blk)):Option (AV×List (Option Blk)×List Blk):=left2 K r h (r.refs++hs.flatMap RG) hs (Jc h 2000 (r.refs++hs.flatMap RG) (List.range K))
def P5 (K:Nat) (h:aF) (r:AV):Option (AV×List (Option Blk)×List Blk):=left1 K r h ((List.range K).map (Lc h))
end
theorem Qp {n:Nat} {h:aF} {args:List AV} {bs:List Nat} {as':List AV} {ks':List Blk} (hd:Kn n h args=some (bs,as',ks')) :
  ∃ ks,Jc h 2000 (V7 args) []=some bs∧JA h bs=some ks∧chkH n bs ks args=true∧as'=args.map (·.ren (ixR bs))∧ks'=ks.map (·.ren (ixR bs)):=by
 unfold Kn YO at hd
 cases hr:Jc h 2000 (V7 args) [] with
 | none=>rw [hr] at hd;cases hd
 | some b =>
  rw [hr] at hd
  simp only at hd
  unfold Ze at hd
  cases hk:JA h b with
  | none=>rw [hk] at hd;cases hd
  | some ks =>
   rw [hk] at hd
   simp only at hd
   cases hc:chkH n b ks args
   ·rw [hc] at hd;cases hd
   ·rw [hc] at hd
    injection hd with hd
    injection hd with h1 hd
    injection hd with h2 h3
    subst h1
    exact ⟨ks,rfl,hk,hc,h2.symm,h3.symm⟩
theorem WC {n:Nat} {h h':aF} (hs:∀ b k,hget h b=some k→hget h' b=some k) {args:List AV} {x:List Nat×List AV×List Blk} (hd:Kn n h args=some x):Kn n h' args=some x:=by
 obtain ⟨bs,as',ks'⟩:=x
 obtain ⟨ks,h1,h2,h3,rfl,rfl⟩:=Qp hd
 unfold Kn YO
 rw [LI hs _ h1]
 simp only
 rw [Ox hs h2]
 simp only [Ze]
 rw [h3]
 rfl
theorem JK {bs:List Nat} {d:Nat} {l:List Nat} (h:∀ b∈l,b∈bs):∀ b∈l,(fun j=>bs.getD j d) (ixR bs b)=b:=fun b hb=>getD_ix (h b hb)
theorem P6 {ρ:Nat→Loc} {al:Al} {g:Nat→Nat}:∀ {xs:List AV} {vs:List Value},AsRep ρ al (xs.map (·.ren g)) vs→AsRep (fun b=>ρ (g b)) (alR al g) xs vs
 | [],[],_=>trivial
 | [],_::_,h=>h.elim
 | _::_,[],h=>h.elim
 | _::_,_::_,⟨a,b⟩=>⟨a.ren,P6 b⟩
theorem hand_ok {n:Nat} {h:aF} {args:List AV} {bs:List Nat} {as':List AV} {ks':List Blk} (hd:Kn n h args=some (bs,as',ks')) :
  as'.length≤n∧0<n∧ks'.length=bs.length∧bs.Nodup∧∀ d:Nat,(∀ (j b:Nat) (k:Blk),bs[j]? = some b→ks'[j]? = some k→k.own=true∧hget h b=some (k.ren fun j=>bs.getD j d)) ∧
   ∀ (ρ:Nat→Loc) (al:Al) (vals:List Value),AsRep ρ al args vals→AsRep (fun j=>ρ (bs.getD j d)) (alR al fun j=>bs.getD j d) as' vals:=by
 obtain ⟨ks,h1,h2,h3,rfl,rfl⟩:=Qp hd
 unfold chkH at h3
 simp only [Bool.and_eq_true] at h3
 obtain ⟨⟨⟨⟨⟨c1,c2⟩,c3⟩,c4⟩,c5⟩,c6⟩:=h3
 have c3:=Jm c3
 have c4:=Jm c4
 obtain ⟨g1,g2⟩:=MU h2
 refine ⟨by rw [List.length_map];exact Nat.le_of_ble_eq_true c5,by simpa [Nat.blt_eq] using c6,by rw [List.length_map];exact g1,LA c1,fun d=>⟨fun j b k hj hk=>?_,fun ρ al vals hA=>?_⟩⟩
 ·rw [List.getElem?_map,Option.map_eq_some_iff] at hk
  obtain ⟨k0,hk,rfl⟩:=hk
  have hm:=List.mem_of_getElem? hk
  refine ⟨(show k0.own=true from List.all_eq_true.1 c2 k0 hm),?_⟩
  rw [Blk.back (JK fun b hb=>c3 b (List.mem_flatMap.2 ⟨k0,hm,hb⟩))]
  exact g2 j b k0 hj hk
 ·refine P6 ?_
  rw [M1 (g:=fun x:AV=>x.ren (ixR bs)) (f:=fun x:AV=>x.ren fun j=>bs.getD j d) fun x hx=>AV.back (JK fun b hb=>c4 b (List.mem_flatMap.2 ⟨x,hx,hb⟩))]
  exact hA
theorem MA:∀ {a b:List Nat},WH a b=true→a=b
 | [],b,h=>by cases b with | nil=>rfl | cons _ _=>cases h
 | x::a,[],h=>by cases h
 | x::a,y::b,h=>by
  have h:cond (Nat.beq x y) (WH a b) false=true:=h
  by_cases e:x=y
  ·rw [nbt e] at h
   rw [e,MA h]
  ·rw [nbf e] at h
   cases h
theorem LW:∀ {ks:List (Option Blk)} {j:Nat} {p:Nat×Option Blk},p∈i2 j ks→∃ i,ks[i]? = some p.2∧p.1=j+i
 | [],_,_,h=>by cases h
 | k::ks,j,p,h=>by
  rw [i2,List.mem_cons] at h
  rcases h with rfl | h
  ·exact ⟨0,rfl,rfl⟩
  ·obtain ⟨i,h1,h2⟩:=LW h
   exact ⟨i+1,h1,by omega⟩
theorem left_ok {K:Nat} {s:St} {r r':AV} {hs:List (Option Blk)} {ns:List Blk} (hl:P5 K s.h r=some (r',hs,ns)) :
  hs.length=K∧ns.length≤16∧(∀ k,some k∈hs→k.own=true)∧(∀ k∈ns,k.own=true)∧Wk ⟨none,K⟩ ⟨s.nx,(0,r)::s.t,s.h⟩ ⟨K+ns.length,[(0,r')],i2 0 hs++lX K ns⟩:=by
 obtain ⟨H0,hH0⟩:∃ H0,(List.range K).map (Lc s.h)=H0:=⟨_,rfl⟩
 unfold P5 left1 left2 at hl
 rw [hH0] at hl
 obtain ⟨todo,htodo⟩:∃ t,r.refs++H0.flatMap RG=t:=⟨_,rfl⟩
 rw [htodo] at hl
 cases hL:Jc s.h 2000 todo (List.range K) with
 | none=>rw [hL] at hl;cases hl
 | some L =>
  rw [hL] at hl
  simp only at hl
  unfold left3 at hl
  cases hk:JA s.h (L.drop K) with
  | none=>rw [hk] at hl;cases hl
  | some nb =>
   rw [hk] at hl
   simp only at hl
   cases hc:chkL K L todo H0 nb
   ·rw [hc] at hl;cases hl
   ·rw [hc] at hl
    injection hl with hl
    injection hl with e1 hl
    injection hl with e2 e3
    subst e1 e2 e3
    unfold chkL at hc
    simp only [Bool.and_eq_true] at hc
    obtain ⟨⟨⟨⟨⟨⟨⟨c1,c2⟩,c3⟩,c4⟩,c5⟩,c6⟩,c7⟩,c8⟩:=hc
    have c2:=Jm c2
    have c3:=Jm c3
    have c4:=Nat.le_of_ble_eq_true c4
    have c7:=MA c7
    have c8:=Nat.eq_of_beq_eq_true c8
    have hLK:∀ j,j<K→L[j]? = some j:=by
     intro j hj
     have:(L.take K)[j]? = some j:=by rw [c7,List.getElem?_range hj]
     rwa [List.getElem?_take_of_lt hj] at this
    have hlen0:H0.length=K:=by rw [← hH0];simp
    have own0:∀ k,some k∈H0→k.own=true:=fun k hk=>List.all_eq_true.1 c5 _ hk
    have ownN:∀ k∈nb,k.own=true:=fun k hk=>List.all_eq_true.1 c6 _ hk
    refine ⟨by simp [hlen0],by simpa using c4,fun k hk=>?_,fun k hk=>?_,?_⟩
    ·obtain ⟨q,hq,e⟩:=List.mem_map.1 hk
     rw [Option.map_eq_some_iff] at e
     obtain ⟨k0,rfl,rfl⟩:=e
     exact own0 k0 hq
    ·obtain ⟨k0,hq,rfl⟩:=List.mem_map.1 hk
     exact ownN k0 hq
    ·refine Wk.ren L hLK (by rw [c8];simp) (LA c1) ?_ ?_
     ·intro p hp
      simp only [List.mem_singleton] at hp
      subst hp
      show aW ((0,r)::s.t) 0=_
      rw [aW,if_pos rfl]
      exact (AV.back (JK fun b hb=>c2 b (by rw [← htodo];exact List.mem_append_left _ hb))).symm
     ·intro p hp k hkp
      rcases List.mem_append.1 hp with hp | hp
      ·obtain ⟨i,h1,h2⟩:=LW hp
       rw [hkp,List.getElem?_map,Option.map_eq_some_iff] at h1
       obtain ⟨q,h1,h3⟩:=h1
       rw [Option.map_eq_some_iff] at h3
       obtain ⟨k0,rfl,rfl⟩:=h3
       have hi:i<K:=by rw [← hlen0];exact (List.getElem?_eq_some_iff.1 h1).1
       have hq:hget s.h i=some k0:=by
        rw [← hH0,List.getElem?_map,List.getElem?_range hi] at h1
        simp only [Option.map_some,Option.some.injEq] at h1
        rw [← L1]
        exact h1
       rw [Blk.back (JK fun b hb=>c2 b (by rw [← htodo];exact List.mem_append_right _ (List.mem_flatMap.2 ⟨_,List.mem_of_getElem? h1,hb⟩)))]
       show hget s.h (L.getD p.1 s.nx)=_
       rw [h2,Nat.zero_add,List.getD_eq_getElem?_getD,hLK i hi]
       exact hq
      ·rw [JI] at hp
       obtain ⟨i,h1,h2⟩:=LW hp
       rw [hkp,List.map_map,List.getElem?_map,Option.map_eq_some_iff] at h1
       obtain ⟨k0,h1,h3⟩:=h1
       simp only [Function.comp,Option.some.injEq] at h3
       subst h3
       obtain ⟨g1,g2⟩:=MU hk
       have hm:=List.mem_of_getElem? h1
       rw [Blk.back (JK fun b hb=>c3 b (List.mem_flatMap.2 ⟨k0,hm,hb⟩))]
       have hil:i<nb.length:=(List.getElem?_eq_some_iff.1 h1).1
       have hLi:(L.drop K)[i]? = some ((L.drop K)[i]'(by rw [← g1];exact hil)):=List.getElem?_eq_getElem _
       show hget s.h (L.getD p.1 s.nx)=_
       rw [h2,List.getD_eq_getElem?_getD,← List.getElem?_drop,hLi]
       exact g2 i _ k0 hLi h1
end
section
open Go.RowKit
inductive EC where
 | ret (r:AV) (hs:List (Option Blk)) (ns:List Blk)
 | pan (v:Value)
 | no (e:Nat)
noncomputable section
def endL (x:Option (AV×List (Option Blk)×List Blk)):EC:=match x with
 | some x=>.ret x.1 x.2.1 x.2.2
 | none=>.no 60
def Xn (K:Nat) (h:aF) (r:Option AV):EC:=match r with
 | some r=>endL (P5 K h r)
 | none=>.no 61
def endK (P:Program) (K:Nat) (rs:List ResultVar) (k:XK) (s:St):EC:=match k with
 | .norm=>Xn K s.h (bz P rs s)
 | .ret=>Xn K s.h (bz P rs s)
 | .pn v=>.pan v
 | .ex _=>.no 62
def Uj (P:Program) (K:Nat) (rs:List ResultVar) (o:Cx):EC:=match o with
 | .go k s=>endK P K rs k s
 | .no e=>.no e
end
theorem S5 {K:Nat} {h:aF} {x:Option AV} {r:AV} {hs:List (Option Blk)} {ns:List Blk} (he:Xn K h x=.ret r hs ns):∃ r0,x=some r0∧P5 K h r0=some (r,hs,ns):=by
 unfold Xn at he
 cases x with
 | none=>cases he
 | some r0 =>
  simp only at he
  unfold endL at he
  cases hx:P5 K h r0 with
  | none=>rw [hx] at he;cases he
  | some y =>
   rw [hx] at he
   injection he with h1 h2 h3
   subst h1 h2 h3
   exact ⟨r0,rfl,hx⟩
theorem Tq {K:Nat} {h:aF} {x:Option AV} {v:Value} (he:Xn K h x=.pan v):False:=by
 unfold Xn endL at he
 repeat' split at he
 all_goals cases he
theorem aad {P:Program} {K:Nat} {rs:List ResultVar} {o:Cx} {r:AV} {hs:List (Option Blk)} {ns:List Blk} (h:Uj P K rs o=.ret r hs ns):∃ k s r0,o=.go k s∧(k=.norm∨k=.ret)∧bz P rs s=some r0∧P5 K s.h r0=some (r,hs,ns):=by
 unfold Uj at h
 cases o with
 | no e=>cases h
 | go k s =>
  simp only at h
  unfold endK at h
  cases k with
  | norm=>obtain ⟨r0,h1,h2⟩:=S5 h;exact ⟨_,_,r0,rfl,.inl rfl,h1,h2⟩
  | ret=>obtain ⟨r0,h1,h2⟩:=S5 h;exact ⟨_,_,r0,rfl,.inr rfl,h1,h2⟩
  | ex j=>cases h
  | pn v=>cases h
theorem Zt {P:Program} {K:Nat} {rs:List ResultVar} {o:Cx} {v:Value} (h:Uj P K rs o=.pan v):∃ s,o=.go (.pn v) s:=by
 unfold Uj at h
 cases o with
 | no e=>cases h
 | go k s =>
  simp only at h
  unfold endK at h
  cases k with
  | norm=>exact (Tq h).elim
  | ret=>exact (Tq h).elim
  | ex j=>cases h
  | pn w=>injection h with h;subst h;exact ⟨s,rfl⟩
abbrev Bd:=St→Cx
noncomputable section
def callX (K:Nat) (bs:List Nat) (id:Nat) (x:EC):CO:=match x with
 | .ret r hs ns=>.val (r.ren (gOf K bs id)) (Ea (gOf K bs id) (i2 0 hs++lX K ns))
 | .pan v=>.pan v (bs.map fun b=>(b,none))
 | .no e=>.no e
end
def O9 (x:CO):Option Res:=match x with
 | .val r E=>some ⟨True,r,E⟩
 | _=>none
def SF (x:CO):Option (Prop×Value×aF):=match x with
 | .pan v E=>some (True,v,E)
 | _=>none
section
variable {P:Program}
theorem Zy {n:Nat} {h:aF} {args:List AV} {bs:List Nat} {as':List AV} {ks':List Blk} (hd:Kn n h args=some (bs,as',ks')) {B:fG} {w0:World} {ρ:Nat→Loc} {al:Al} {w:World} {id:Nat} {vals:List Value} (H:WRep B w0 ρ al h w) (hid:¬al id) (hA:AsRep ρ al args vals) :
  (∀ b∈bs,∃ k,hget h b=some k∧k.own=true)∧bs.Nodup∧vals.length≤n∧0<n ∧
  RepS n (JF w ρ al bs bs.length id H.gok) w (fun j=>ρ (bs.getD j id)) (alR al fun j=>bs.getD j id) ⟨bs.length,aN 0 as',lX 0 ks'⟩ { tmps:=vals.toArray++Array.replicate (n-vals.toArray.size) undef,defers:=[] } w:=by
 obtain ⟨hlen,hn0,hKl,hnd,hall⟩:=hand_ok hd
 obtain ⟨hks,henc⟩:=hall id
 have hA1:=henc ρ al vals hA
 have hl:=hA1.length
 have H1:=enterR H (Nat.le_refl _) hid hKl hnd hks
 refine ⟨fun b hb=>?_,hnd,by omega,hn0,⟨by simp;omega,Marks.nil _ _ _,K1 hA1 _,H1,fun b hb=>?_⟩⟩
 ·obtain ⟨j,hj,rfl⟩:=List.mem_iff_getElem.1 hb
  obtain ⟨g1,g2⟩:=hks j bs[j] (ks'[j]'(by omega)) (List.getElem?_eq_getElem hj) (List.getElem?_eq_getElem _)
  exact ⟨_,g2,g1⟩
 ·rcases Nat.lt_or_ge b bs.length with h | h
  ·exact h
  ·have:al (bs.getD b id):=hb
   rw [List.getD_eq_getElem?_getD,List.getElem?_eq_none h] at this
   exact absurd this hid
end
end
section
open Go.RowKit
noncomputable section
def eOkR (ms:Ms) (nx i:Nat) (E:aF):Bool:=List.rec (motive:=fun _=>Bool) true (fun a _ ih=>cond (Nat.blt a.1 (nx+16*(i+1))&&(Nat.ble (nx+16*i) a.1||Jp ms.ms i||Jp (df ms.fs i) a.1)&&!Jp (df ms.hs i) a.1) ih false) E
def HpR (h:aF) (rs:List Ent):aF:=List.rec (motive:=fun _=>aF→aF) (fun h=>h) (fun e _ ih h=>ih (Dg h e.E)) rs h
section
variable (P:Program) (call:Cl) (n:Nat) (ms:Ms) (nx:Nat) (h0:aF) (all:List Oper)
abbrev Dk:=Nat→List Nat→List Ent→dy→Cx
def aftD (d:Option Tmp) (i:Nat) (acc:List Nat) (rs:List Ent) (T:dy) (ih:Dk) (x:CO):Cx:=match x with
 | .val r E=>cond (PI n d&&eOkR ms nx i E) (ih (i+1) acc (rs++[⟨d,r,E⟩]) (NR T d r)) (.no 70)
 | .pan _ _=>.no 71
 | .no e=>.no e
def doD (o:Oper) (i m:Nat) (acc:List Nat) (rs:List Ent) (T:dy) (ih:Dk):Cx:=aftD n ms nx o.dst i (acc++[m]) rs T ih (cOp P call (nx+16*i) o.op (evR T) (sx (df ms.hs i) (Hp (bit m) rs 0 h0)))
def skD (o:Oper) (i m:Nat) (acc:List Nat) (rs:List Ent) (T:dy) (ih:Dk):Cx:=cond (PI n o.dst) (ih (i+1) (acc++[m]) (rs++[⟨o.dst,.s (.l (.v (.tuple #[]))),[]⟩]) (NR T o.dst (.s (.l (.v (.tuple #[])))))) (.no 72)
def gdVD (o:Oper) (i m:Nat) (acc:List Nat) (rs:List Ent) (T:dy) (ih:Dk) (want:Bool) (v:Value):Cx:=match v with
 | .bool q=>cond (q==want) (doD P call n ms nx h0 o i m acc rs T ih) (skD n o i m acc rs T ih)
 | .tuple ⟨[]⟩=>skD n o i m acc rs T ih
 | _=>.no 73
def gdAD (o:Oper) (i m:Nat) (acc:List Nat) (rs:List Ent) (T:dy) (ih:Dk) (want:Bool) (a:AV):Cx:=match a with
 | .s (.l (.v v))=>gdVD P call n ms nx h0 o i m acc rs T ih want v
 | _=>.no 73
def gdD (o:Oper) (i m:Nat) (acc:List Nat) (rs:List Ent) (T:dy) (ih:Dk) (g:Option (Nat×Bool)):Cx:=match g with
 | none=>doD P call n ms nx h0 o i m acc rs T ih
 | some g=>gdAD P call n ms nx h0 o i m acc rs T ih g.2 (YE all T g.1)
def cDr (l:List Oper):Dk:=List.rec (motive:=fun _=>Dk) (fun i _ rs T=>.go .norm ⟨nx+16*i,T,HpR h0 rs⟩)
 (fun o _ ih i acc rs T=>gdD P call n ms nx h0 all o i (dY acc o.after.toList) acc rs T ih o.guard) l
end
end
section
variable {P:Program} {ctx:Ctx P} {call:Cl} {n:Nat} {ms:Ms} {nx:Nat} {h0:aF} {all:List Oper}
theorem V6 {i:Nat}:∀ {E:aF},eOkR ms nx i E=true→eOk ms nx i E
 | [],_=>trivial
 | (b,x)::E,h=>by
  have h:cond (Nat.blt b (nx+16*(i+1))&&(Nat.ble (nx+16*i) b||Jp ms.ms i||Jp (df ms.fs i) b)&&!Jp (df ms.hs i) b) (eOkR ms nx i E) false=true:=h
  cases hc:(Nat.blt b (nx+16*(i+1))&&(Nat.ble (nx+16*i) b||Jp ms.ms i||Jp (df ms.fs i) b)&&!Jp (df ms.hs i) b)
  ·rw [hc] at h;cases h
  ·rw [hc] at h
   simp only [Bool.and_eq_true,Bool.or_eq_true,Bool.not_eq_true'] at hc
   obtain ⟨⟨c1,c2⟩,c3⟩:=hc
   refine ⟨by simpa [Nat.blt_eq] using c1,⟨?_,fun hm=>?_⟩,V6 h⟩
   ·rcases c2 with (c2 | c2) | c2
    ·exact .inl (Nat.le_of_ble_eq_true c2)
    ·exact .inr (.inl (Kv.1 c2))
    ·exact .inr (.inr (Kv.1 c2))
   ·rw [Kv.2 hm] at c3;cases c3
theorem Xe {E h h':aF} (hs:∀ b,hget h b=hget h' b) (b:Nat):hget (E++h) b=hget (E++h') b:=by
 induction E with
 | nil=>exact hs b
 | cons a E ih =>
  obtain ⟨c,x⟩:=a
  rw [List.cons_append,List.cons_append,hget,hget,ih]
theorem VA:∀ {rs:List Ent} {k:Nat} {h h':aF},(∀ b,hget h b=hget h' b)→∀ b,hget (Hp (fun _=>true) rs k h) b=hget (Hp (fun _=>true) rs k h') b
 | [],_,_,_,hs,b=>hs b
 | e::rs,k,h,h',hs,b=>by
  rw [Hp,Hp]
  simp only [if_true]
  exact VA (fun c=>Xe hs c) b
theorem Zp:∀ {rs:List Ent} {k:Nat} {h:aF} (b:Nat),hget (HpR h rs) b=hget (Hp (fun _=>true) rs k h) b
 | [],_,_,_=>rfl
 | e::rs,k,h,b=>by
  show hget (HpR (Dg h e.E) rs) b=_
  rw [Zp (k:=k+1),Hp]
  simp only [if_true]
  exact VA (fun c=>JX h c e.E) b
def VD (s1 s':St):Prop:=s1.nx≤s'.nx∧(∀ k,aW s'.t k=aW s1.t k)∧∀ b k,hget s'.h b=some k→hget s1.h b=some k
theorem Zk {T T0:dy} (h:∀ k,aW T k=aW T0 k):evT T=evT T0:=by
 funext x
 cases x with
 | tmp k=>exact h k
 | _=>rfl
theorem ZF {T T0:dy} (h:∀ k,aW T k=aW T0 k) (j:Nat):gAt all T j=gAt all T0 j:=by
 unfold gAt
 cases all[j]? with
 | none=>rfl
 | some o =>
  simp only []
  cases o.dst with
  | none=>rfl
  | some d=>exact h d
theorem Qy {T T0:dy} (h:∀ k,aW T k=aW T0 k) (d:Option Tmp) (r:AV) (k:Nat):aW (NR T d r) k=aW (putT T0 d r) k:=by
 rw [OL]
 cases d with
 | none=>exact h k
 | some d =>
  show aW ((d,r)::T) k=aW ((d,r)::T0) k
  rw [aW,aW,h]
theorem TE (hc:NO ctx call) {kx:XK} {s':St}:∀ (l:List Oper) (i:Nat) (acc:List Nat) (rs:List Ent) (T T0:dy),(∀ k,aW T k=aW T0 k)→cDr P call n ms nx h0 all l i acc rs T=.go kx s'→kx=.norm∧aDr P ctx n ms nx h0 (fun e s=>e=.normal∧VD s s') all l i acc rs T0
 | [],i,acc,rs,T,T0,hT,h=>by
  injection h with h1 h2
  subst h1 h2
  refine ⟨rfl,?_⟩
  simp only [aDr]
  exact ⟨trivial,Nat.le_refl _,hT,fun b k hk=>by
   have hk:hget (HpR h0 rs) b=some k:=hk
   rw [Zp (k:=0)] at hk
   exact hk⟩
 | o::l,i,acc,rs,T,T0,hT,h=>by
  have h:gdD P call n ms nx h0 all o i (dY acc o.after.toList) acc rs T (cDr P call n ms nx h0 all l) o.guard=.go kx s':=h
  obtain ⟨m,hm⟩:∃ m,dY acc o.after.toList=m:=⟨_,rfl⟩
  rw [hm] at h
  have doIt:doD P call n ms nx h0 o i m acc rs T (cDr P call n ms nx h0 all l)=.go kx s'→kx=.norm∧∃ R,aOp P ctx (nx+16*i) o.op (evT T0) (sx (df ms.hs i) (Hp (bit m) rs 0 h0))=some R∧aG n o.dst=true∧R.ob∧eOk ms nx i R.E∧aDr P ctx n ms nx h0 (fun e s=>e=.normal∧VD s s') all l (i+1) (acc++[m]) (rs++[⟨o.dst,R.r,R.E⟩]) (putT T0 o.dst R.r):=by
   intro h
   unfold doD at h
   rw [Rr,Zk hT] at h
   cases hr:cOp P call (nx+16*i) o.op (evT T0) (sx (df ms.hs i) (Hp (bit m) rs 0 h0)) with
   | no e=>rw [hr] at h;cases h
   | pan v E=>rw [hr] at h;cases h
   | val r E =>
    rw [hr] at h
    obtain ⟨R,h1,h2,h3,h4⟩:=VN hc hr
    subst h3 h4
    simp only [aftD] at h
    cases hd:(PI n o.dst&&eOkR ms nx i R.E)
    ·rw [hd] at h;cases h
    ·rw [hd] at h
     simp only [Bool.and_eq_true] at hd
     obtain ⟨g1,g2⟩:=TE hc l (i+1) _ _ _ (putT T0 o.dst R.r) (Qy hT _ _) h
     exact ⟨g1,R,h1,N7 hd.1,h2,V6 hd.2,g2⟩
  have skIt:skD n o i m acc rs T (cDr P call n ms nx h0 all l)=.go kx s'→kx=.norm∧aG n o.dst=true∧aDr P ctx n ms nx h0 (fun e s=>e=.normal∧VD s s') all l (i+1) (acc++[m]) (rs++[⟨o.dst,.s (.l (.v (.tuple #[]))),[]⟩]) (putT T0 o.dst (.s (.l (.v (.tuple #[]))))):=by
   intro h
   unfold skD at h
   cases hd:PI n o.dst
   ·rw [hd] at h;cases h
   ·rw [hd] at h
    obtain ⟨g1,g2⟩:=TE hc l (i+1) _ _ _ (putT T0 o.dst (.s (.l (.v (.tuple #[]))))) (Qy hT _ _) h
    exact ⟨g1,N7 hd,g2⟩
  unfold aDr
  rw [hm]
  unfold gdD at h
  split at h
  ·rename_i hg
   obtain ⟨g1,R,h1,h2,h3,h4,h5⟩:=doIt h
   rw [hg]
   simp only [h1]
   exact ⟨g1,h2,h3,h4,h5⟩
  ·rename_i g hg
   obtain ⟨j,want⟩:=g
   rw [hg]
   simp only at h ⊢
   rw [V4,ZF hT] at h
   unfold gdAD at h
   split at h
   case h_2=>cases h
   rename_i v hv
   unfold gdVD at h
   split at h
   ·rename_i q
    rw [hv]
    simp only
    by_cases hqw:q=want
    ·have e:(q==want)=true:=by simpa using hqw
     rw [e] at h
     obtain ⟨g1,R,h1,h2,h3,h4,h5⟩:=doIt h
     rw [if_pos hqw]
     simp only [h1]
     exact ⟨g1,h2,h2,h3,h4,h5⟩
    ·have e:(q==want)=false:=by simpa using hqw
     rw [e] at h
     obtain ⟨g1,g2,g3⟩:=skIt h
     rw [if_neg hqw]
     exact ⟨g1,g2,g3⟩
   ·rw [hv]
    obtain ⟨g1,g2,g3⟩:=skIt h
    exact ⟨g1,g2,g3⟩
   ·cases h
theorem sw_same {ro:Cf} {c:Code} {s s':St} {k:XK} (h:SW P ro n c s fun e s1=>e=k.e∧VD s1 s'):SW P ro n c s (isQ k s'):=by
 intro B w0 ρ al a w hpl H
 refine wpIn_mono (h B w0 ρ al a w hpl H) ?_
 rintro e a' w' ⟨ρ',al',s1,H',rfl,h1,h2,h3⟩
 exact ⟨ρ',al',s',H'.same h1 h2 h3,rfl,rfl⟩
end
noncomputable section
def chgd (nx:Nat) (E:aF):List Nat:=(E.map (·.1)).filter fun b=>Nat.blt b nx
def fsOf (nx:Nat):List Ent→Nat→List (Nat×List Nat)
 | [],_=>[]
 | e::r,i=>match chgd (nx+16*i) e.E with
  | []=>fsOf nx r (i+1)
  | b::l=>(i,b::l)::fsOf nx r (i+1)
def hsOf (bs:List Nat) (fs:List (Nat×List Nat)) (n:Nat):List (Nat×List Nat):=(List.range n).filterMap fun i=>match (fs.filter fun m=>!(Nat.beq m.1 i||bit (bs.getD i 0) m.1||bit (bs.getD m.1 0) i)).flatMap (·.2) with
  | []=>none
  | b::l=>some (i,b::l)
def msOf (ops:List Oper) (nx:Nat) (rs:List Ent):Ms:=match fsOf nx rs 0 with
 | []=>⟨[],[],[]⟩
 | f::fs=>⟨[],f::fs,hsOf (mE [] ops) (f::fs) ops.length⟩
section
variable (P:Program) (call:Cl)
abbrev Ek:=St→List Ent→Option (List Ent)
def aftE (d:Option Tmp) (s:St) (rs:List Ent) (ih:Ek) (x:CO):Option (List Ent):=match x with
 | .val r E=>ih ⟨s.nx+16,NR s.t d r,Dg s.h E⟩ (rs++[⟨d,r,E⟩])
 | _=>none
def skE (d:Option Tmp) (s:St) (rs:List Ent) (ih:Ek):Option (List Ent):=ih ⟨s.nx+16,NR s.t d (.s (.l (.v (.tuple #[])))),s.h⟩ (rs++[⟨d,.s (.l (.v (.tuple #[]))),[]⟩])
def doE (o:Oper) (s:St) (rs:List Ent) (ih:Ek):Option (List Ent):=aftE o.dst s rs ih (cOp P call s.nx o.op (evR s.t) s.h)
def gdVE (o:Oper) (s:St) (rs:List Ent) (ih:Ek) (want:Bool) (v:Value):Option (List Ent):=match v with
 | .bool q=>cond (q==want) (doE P call o s rs ih) (skE o.dst s rs ih)
 | _=>skE o.dst s rs ih
def gdAE (o:Oper) (s:St) (rs:List Ent) (ih:Ek) (want:Bool) (a:AV):Option (List Ent):=match a with
 | .s (.l (.v v))=>gdVE P call o s rs ih want v
 | _=>none
def gdE (all:List Oper) (o:Oper) (s:St) (rs:List Ent) (ih:Ek) (g:Option (Nat×Bool)):Option (List Ent):=match g with
 | none=>doE P call o s rs ih
 | some g=>gdAE P call o s rs ih g.2 (YE all s.t g.1)
def ents (all l:List Oper):Ek:=List.rec (motive:=fun _=>Ek) (fun _ rs=>some rs) (fun o _ ih s rs=>gdE P call all o s rs ih o.guard) l
def draw3 (n:Nat) (ops:List Oper) (s:St) (ms:Ms):Cx:=cond (Ni ops ms) (cDr P call n ms s.nx s.h ops ops 0 [] [] s.t) (.no 75)
def draw2 (n:Nat) (ops:List Oper) (s:St) (rs:Option (List Ent)):Cx:=match rs with
 | some rs=>draw3 P call n ops s (msOf ops s.nx rs)
 | none=>.no 76
def YN (n:Nat) (ops:List Oper) (s:St):Cx:=draw2 P call n ops s (ents P call ops ops s [])
end
end
theorem YJ {P:Program} {ctx:Ctx P} {call:Cl} (hc:NO ctx call) (hm:P.follows .mixedOrders=true) {ro:Cf} {n:Nat}:aan P ro n (YN P call n):=by
 intro id ops s k s' h
 unfold YN draw2 at h
 cases he:ents P call ops ops s [] with
 | none=>rw [he] at h;cases h
 | some rs =>
  rw [he] at h
  simp only at h
  unfold draw3 at h
  cases hd:Ni ops (msOf ops s.nx rs)
  ·rw [hd] at h;cases h
  ·rw [hd] at h
   obtain ⟨rfl,h2⟩:=TE hc ops 0 [] [] s.t s.t (fun _=>rfl) h
   exact sw_same (C2 hm _ hd h2)
end
end Go.Proofs.YthcoegkfpinlfaaGreatDoor
